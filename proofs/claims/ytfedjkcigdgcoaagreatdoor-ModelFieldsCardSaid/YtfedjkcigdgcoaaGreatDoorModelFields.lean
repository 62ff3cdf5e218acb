/- gneiss/gneisslaw21.ModelFields answers true at every input, and leaves its arguments as they were. No conditions. -/
import Derived.Test.YtfedjkcigdgcoaaGreatDoorRows
import Derived.WalkKit
import Derived.ProofKit
import Derived.OpenShut
import Derived.Below
import Derived.ChangeSame
import Derived.Test.YtfedjkcigdgcoaaGreatDoorModelFieldsM
import Derived.Test.YtfedjkcigdgcoaaGreatDoorModelFieldsR0
import Derived.Test.YtfedjkcigdgcoaaGreatDoorLaid
import Derived.Test.YtfedjkcigdgcoaaGreatDoorTie
import Derived.Test.YtfedjkcigdgcoaaGreatDoorModelFieldsJ
import Derived.Test.YtfedjkcigdgcoaaGreatDoorCards
import Derived.SevenTiedAt
namespace Go.Proofs.YtfedjkcigdgcoaaGreatDoor.modelFields
open Go.Ai Go.ChangeShapes Go.WideShapes Go.ChangeAt Go.RowKit
set_option linter.unusedVariables false

theorem own : ownKnob Tryz.prog.godebug = none := by kernel_rfl

section
variable {H : Type} {enc : TypeId × Value → H} {P : Program}
theorem post_of_below {f : Func} {s : ChangeSpec} {apart fresh handsOn again : Bool} {W W' : World} {args : Array Value} {v : Value} {ds gs : List (DataW H)} {before pa pv : List MemPlace}
    (hW : DataW.Whole enc P f.params.toList s.vars apart W args.toList ds gs before)
    (hres : ∀ (b : Nat) (sp : Nat → Bool) (hd : Bool), DataW.TrodAll enc P W' b sp hd f.resultTypes.toList (v.resultList f.resultTypes.size) (s.fn H (ds ++ gs)).results [])
    (hargs : ∀ sp : Nat → Bool, (∀ p ∈ before, sp p.block = true) → DataW.TrodAll enc P W' 0 sp true f.params.toList args.toList (s.fn H (ds ++ gs)).args pa)
    (hvars : ∀ sp : Nat → Bool, (∀ p ∈ before, sp p.block = true) → DataW.TrodVars enc P W' sp s.vars (s.fn H (ds ++ gs)).vars pv)
    (hps : before = pa ++ pv) (hb : Below W.heap.size W W')
    (hok : ∀ (j : Nat) (t : TypeId) (r : Value), f.resultTypes[j]? = some t → (v.resultList f.resultTypes.size)[j]? = some r → Value.okWide P W' .any 0 t r) :
    s.post enc P f apart fresh handsOn again W args v W' := by
  have hlt : ∀ p ∈ before, p.block < W.heap.size := fun p hp => hW.lt p hp
  have hold : ∀ p ∈ before, (fun b => decide (b < W.heap.size)) p.block = true := fun p hp => by simpa using hlt p hp
  refine ⟨ds, gs, before, [], pa, pv, hW, hres _ _ _, hargs _ hold, hvars _ hold, World.keptBut_mono (fun p hp => ⟨hp, ?_⟩) (hb.frame (· ∈ before)), fun _ => ?_⟩
  · rw [hps, List.mem_append] at hp
    exact Or.inr hp
  · obtain ⟨_, _, _, _, _, hz, hn⟩ := hW
    refine ⟨hok, _, _, ([] ++ pa) ++ pv, ⟨[] ++ pa, pv, trodAll_append (hargs _ (fun _ _ => rfl)) (hres _ _ _), hvars _ (fun _ _ => rfl), rfl, ?_, ?_⟩, ?_⟩
    · intro b off hp
      have hin : MemPlace.cell b off ∈ before := by rw [hps]; simpa using hp
      rw [hb.frozen (hlt _ hin)]
      exact hz b off hin
    · intro ha
      have := hn ha
      rw [hps] at this
      simpa using this
    · intro p hp _
      rw [hps]
      simpa using hp
end
/-! ### the walk: by the abstract machine -/
theorem sing {a b : Int} (h : a = b) : b ≤ a ∧ a ≤ b := by omega
theorem rwl0 {σ : Nat → Int} : ∀ u v, (u, v) ∈ ([] : List (SI × SI)) → u.ev σ = v.ev σ := fun _ _ hm => by cases hm
theorem cml0 {σ : Nat → Int} : ∀ op u v r, (op, u, v, r) ∈ ([] : List (BinOp × SI × SI × Bool)) → cmpVal op (u.ev σ) (v.ev σ) = r := fun _ _ _ _ hm => by cases hm
theorem cml1 {σ : Nat → Int} {o : BinOp} {x y : SI} {c : Bool} (h : cmpVal o (x.ev σ) (y.ev σ) = c) : ∀ op u v r, (op, u, v, r) ∈ [(o, x, y, c)] → cmpVal op (u.ev σ) (v.ev σ) = r := by
  intro op u v r hm
  simp only [List.mem_cons, List.not_mem_nil, or_false, Prod.mk.injEq] at hm
  obtain ⟨rfl, rfl, rfl, rfl⟩ := hm
  exact h
theorem at_ {a0 : Int}  {rw : List (SI × SI)} {cm : List (BinOp × SI × SI × Bool)} {iv : List (SI × Int × Int)} (r : yes (run rw cm iv) = true) (hr : ∀ x y, (x, y) ∈ rw → x.ev (fun i => if i = 0 then a0 else 0) = y.ev (fun i => if i = 0 then a0 else 0)) (hc : ∀ op x y r, (op, x, y, r) ∈ cm → cmpVal op (x.ev (fun i => if i = 0 then a0 else 0)) (y.ev (fun i => if i = 0 then a0 else 0)) = r) (hi : ∀ x lo hi, (x, lo, hi) ∈ iv → lo ≤ x.ev (fun i => if i = 0 then a0 else 0) ∧ x.ev (fun i => if i = 0 then a0 else 0) ≤ hi)
    (w : World) (hgl : GlOk gl w) : Calls Tryz.prog 8 #[.int .i64 a0] w fun e w' => e = .returned (.bool true) ∧ Below w.heap.size w w' :=
  haveI : GlOk gl w := hgl
  haveI : GlOk (cfR rw cm iv).gl w := hgl
  soundC comp.mixed comp.TOk (over := ovR rw cm iv) (cf := cfR rw cm iv) (σ := fun i => if i = 0 then a0 else 0) (xs := [.int .i64 a0]) (fun _ h => ov0_ok rfl rfl (overM_ok (m1ok w) (overJ_ok (fun e lo hi => subJ_ok w rw cm iv e lo hi) h)))
    ⟨hr, hc, hi, fun _ _ _ _ hm => (by cases hm)⟩
    (.cons (.int .i64 (.var 0)) .nil) r
theorem walk (a0 : Int) (w0 : (Lit.int .i64 a0).wf = true) (w : World) (hgl : GlOk gl w) :
    Calls Tryz.prog 8 #[.int .i64 a0] w fun e w' => e = .returned (.bool true) ∧ Below w.heap.size w w' := by
  have g0 := rng0 a0
  exact at_ rc0 rwl0 cml0 (iv1 g0) w hgl

/-! ### THE ROW's STEP: WRITTEN OUT: LEAVE IT -/
set_option maxRecDepth 100000 in
theorem lifted (os : Os) (started : os.Started) (H : Type) (enc : TypeId × Value → H) :
    ReturnsInHanded {} Tryz.checked os 8 .any (fun w args => (Rows.modelFieldsSpec.pre enc Tryz.prog Tryz.f8 Rows.modelFieldsRow.domain false w args ∧ laidMet Tryz.prog Rows.modelFieldsRow.laid w) ∧ sizedMet enc Tryz.prog Tryz.f8 (OpenSpec.ofChange Rows.modelFieldsSpec) false w args) (Rows.modelFieldsSpec.post enc Tryz.prog Tryz.f8 false true false false) := by
  refine returnsInHanded_of_change_and (C := Tryz.checked) (X := fun w _ => laidMet Tryz.prog Rows.modelFieldsRow.laid w) (fun _ _ _ hh h => h.of_heap hh) own started (by kernel_rfl) Tryz.func8
    (ChangeSpec.witness_shaped (enc := enc) (C := Tryz.checked) (os := os) (X := fun w _ => laidMet Tryz.prog Rows.modelFieldsRow.laid w) false (laidWorld os #[.int .i64 0]) #[.int .i64 0] 8 rfl (World.shaped_of_RefB (by kernel_rfl) (by kernel_rfl)) (by kernel_rfl) (by kernel_rfl) (by kernel_rfl) (laid_met_modelFields os _ _)) ?_
  intro W base args ds gs before hval0 hW hcnd _ hL _
  have hval : ∀ (j : Nat) t v, Tryz.f8.params[j]? = some t → args[j]? = some v → Value.okWide Tryz.prog W .any base t v := hval0
  have hW' := hW
  obtain ⟨p, q, hA0, hV, rfl, hfz, hnd⟩ := hW
  have hA : DataW.TrodAll enc Tryz.prog W 0 (fun _ => true) true Tryz.f8.params.toList args.toList ds p := hA0
  rw [Tryz.params8] at hA hval
  obtain ⟨v0, vs0, d0, ds0, p0, q0, hargs, rfl, rfl, h0, r0⟩ := trodAll_cons hA
  obtain ⟨rfl, rfl, rfl⟩ := trodAll_nil r0
  obtain rfl : args = #[v0] := by cases args; simp_all
  obtain ⟨rfl, rfl⟩ := trodVars_none hV
  obtain ⟨a0, rfl, rfl, rfl, w0⟩ := open_int Tryz.underlying3 (hval 0 3 v0 rfl rfl) h0
  clear hA0 hval0
  simp only [List.append_nil] at hW'
  refine (walk a0 w0 W (gl_of_laid_modelFields hL)).mono fun e W' ⟨he, hg⟩ => ?_
  subst he
  exact ⟨_, rfl, post_of_below (pa := []) (pv := []) hW' (fun _ _ _ => (trodAll_cons_mk (shut_bool Tryz.underlying4 _) trodAll_mk0)) (fun sp _ => (trodAll_cons_mk (shut_int Tryz.underlying3 w0) trodAll_mk0)) (fun _ _ => rfl) rfl
    hg (ok_one (by kernel_rfl) rfl (okWide_bool_mk Tryz.underlying4 _))⟩

theorem over : Rows.modelFieldsRow.holds Tryz.pinned (OpenSpec.ofChange Rows.modelFieldsSpec) :=
  OpenClaim.holds_of_wide 8 Tryz.f8 rfl rfl rfl rfl rfl rfl rfl ⟨rfl, rfl, rfl, rfl, rfl⟩ rfl rfl rfl rfl rfl (by kernel_rfl) Tryz.func8 joined
    (of_decide_eq_true (by kernel_rfl)) (by unfold Func.isWrapper; first | (rw [if_pos (by decide +kernel)]; kernel_rfl) | (rw [if_neg (by decide +kernel)]; exact ⟨rfl, rfl⟩))
    (fun os started H enc _ => lifted os started H enc)

/-- ████ THE STATEMENT ████ -/
theorem proved : Rows.ModelFieldsCardSaid :=
  Claim7.holds_tied_plain_at .later [] [.listed, .data] true (true, "bd2ea72fb570be8efd04e8da19323e007029b4ef2c57d9fc4236a2adb4d4b959") true
    over (fun _ h => by cases h) g0 (fun _ h => by cases h) modelFields_row_tie rfl ⟨rfl, rfl⟩ g1 rfl
    (fun f fn hf hfn => by
      obtain rfl : f = 8 := Option.some.inj (g2.symm.trans hf) |>.symm
      obtain rfl : fn = Tryz.f8 := (Option.some.inj (Tryz.func8.symm.trans hfn)).symm
      exact ⟨g3, fun j t ht => by
        rw [Tryz.params8] at ht
        have hm : t ∈ (Tryz.f8.params : Array TypeId).toList := by
          rw [Tryz.params8]
          exact Array.mem_toList_iff.2 (Array.mem_of_getElem? ht)
        have := List.all_eq_true.1 g4 t hm
        have h2 : Tryz.prog.wantsStandIn t = false := by simpa using this
        exact h2⟩)
    g5
#print axioms proved
end Go.Proofs.YtfedjkcigdgcoaaGreatDoor.modelFields
