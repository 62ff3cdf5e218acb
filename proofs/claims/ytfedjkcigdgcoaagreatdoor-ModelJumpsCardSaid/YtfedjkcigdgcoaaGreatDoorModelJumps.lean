/- gneiss/gneisslaw21.ModelJumps answers true at every input, and leaves its arguments as they were. No conditions. -/
import Derived.Test.YtfedjkcigdgcoaaGreatDoorRows
import Derived.WalkKit
import Derived.ProofKit
import Derived.OpenShut
import Derived.Below
import Derived.ChangeSame
import Derived.Test.YtfedjkcigdgcoaaGreatDoorModelJumpsM
import Derived.Test.YtfedjkcigdgcoaaGreatDoorModelJumpsR0
import Derived.Test.YtfedjkcigdgcoaaGreatDoorModelJumpsR1
import Derived.Test.YtfedjkcigdgcoaaGreatDoorModelJumpsR2
import Derived.Test.YtfedjkcigdgcoaaGreatDoorLaid
import Derived.Test.YtfedjkcigdgcoaaGreatDoorTie
import Derived.Test.YtfedjkcigdgcoaaGreatDoorModelJumpsJ
import Derived.Test.YtfedjkcigdgcoaaGreatDoorCards
import Derived.SevenTiedAt
namespace Go.Proofs.YtfedjkcigdgcoaaGreatDoor.modelJumps
open Go.Ai Go.ChangeShapes Go.WideShapes Go.ChangeAt Go.RowKit
set_option linter.unusedVariables false

theorem own : ownKnob Tryz.prog.godebug = none := by kernel_rfl

section
variable {H : Type} {enc : TypeId × Value → H} {P : Program}
theorem post_of_below {f : Func} {s : ChangeSpec} {apart fresh handsOn again : Bool} {W W' : World} {args : Array Value} {v : Value} {ds gs : List (DataW H)} {before pa pv : List MemPlace}
    (hW : DataW.Whole enc P f.params.toList s.vars apart W args.toList ds gs before)
    (hres : ∀ (b : Nat) (sp : Nat → Bool) (hd : Bool), DataW.TrodAll enc P W' b sp hd f.resultTypes.toList (v.resultList f.resultTypes.size) (s.fn H (ds ++ gs)).results [])
    (hargs : ∀ sp : Nat → Bool, (∀ p ∈ before, sp p.block = true) → DataW.TrodAll enc P W' 0 sp true f.params.toList args.toList (s.fn H (ds ++ gs)).args pa)
    (hvars : ∀ sp : Nat → Bool, (∀ p ∈ before, sp p.block = true) → DataW.TrodVars enc P W' sp s.vars (s.fn H (ds ++ gs)).vars pv)
    (hps : before = pa ++ pv) (hb : Below W.heap.size W W')
    (hok : ∀ (j : Nat) (t : TypeId) (r : Value), f.resultTypes[j]? = some t → (v.resultList f.resultTypes.size)[j]? = some r → Value.okWide P W' .any 0 t r) :
    s.post enc P f apart fresh handsOn again W args v W' := by
  have hlt : ∀ p ∈ before, p.block < W.heap.size := fun p hp => hW.lt p hp
  have hold : ∀ p ∈ before, (fun b => decide (b < W.heap.size)) p.block = true := fun p hp => by simpa using hlt p hp
  refine ⟨ds, gs, before, [], pa, pv, hW, hres _ _ _, hargs _ hold, hvars _ hold, World.keptBut_mono (fun p hp => ⟨hp, ?_⟩) (hb.frame (· ∈ before)), fun _ => ?_⟩
  · rw [hps, List.mem_append] at hp
    exact Or.inr hp
  · obtain ⟨_, _, _, _, _, hz, hn⟩ := hW
    refine ⟨hok, _, _, ([] ++ pa) ++ pv, ⟨[] ++ pa, pv, trodAll_append (hargs _ (fun _ _ => rfl)) (hres _ _ _), hvars _ (fun _ _ => rfl), rfl, ?_, ?_⟩, ?_⟩
    · intro b off hp
      have hin : MemPlace.cell b off ∈ before := by rw [hps]; simpa using hp
      rw [hb.frozen (hlt _ hin)]
      exact hz b off hin
    · intro ha
      have := hn ha
      rw [hps] at this
      simpa using this
    · intro p hp _
      rw [hps]
      simpa using hp
end
/-! ### the walk: by the abstract machine -/
theorem cml0 {σ : Nat → Int} : ∀ op u v r, (op, u, v, r) ∈ ([] : List (BinOp × SI × SI × Bool)) → cmpVal op (u.ev σ) (v.ev σ) = r := fun _ _ _ _ hm => by cases hm
theorem cml1 {σ : Nat → Int} {o : BinOp} {x y : SI} {c : Bool} (h : cmpVal o (x.ev σ) (y.ev σ) = c) : ∀ op u v r, (op, u, v, r) ∈ [(o, x, y, c)] → cmpVal op (u.ev σ) (v.ev σ) = r := by
  intro op u v r hm
  simp only [List.mem_cons, List.not_mem_nil, or_false, Prod.mk.injEq] at hm
  obtain ⟨rfl, rfl, rfl, rfl⟩ := hm
  exact h
theorem rwl0 {σ : Nat → Int} : ∀ u v, (u, v) ∈ ([] : List (SI × SI)) → u.ev σ = v.ev σ := fun _ _ hm => by cases hm
theorem rwl1 {σ : Nat → Int} {x0 y0 : SI} (h0 : x0.ev σ = y0.ev σ) : ∀ u v, (u, v) ∈ [(x0, y0)] → u.ev σ = v.ev σ := by
  intro u v hm
  simp only [List.mem_cons, List.not_mem_nil, or_false, Prod.mk.injEq] at hm
  obtain ⟨rfl, rfl⟩ := hm
  exact h0
theorem at_ {Pr : (Nat → Int) → Prop} {m : Fm} {a0 : Int} {a1 : Int} {rw : List (SI × SI)} {cm : List (BinOp × SI × SI × Bool)} {iv : List (SI × Int × Int)} (hm : ∀ (W0 : World) [GlOk gl W0], FmOkC Tryz.prog W0 Pr m) (hp : ∀ σ, (cfR rw cm iv).ok σ → Pr σ) (r : yes (run m rw cm iv) = true) (hr : ∀ x y, (x, y) ∈ rw → x.ev (fun i => if i = 0 then a0 else if i = 1 then a1 else 0) = y.ev (fun i => if i = 0 then a0 else if i = 1 then a1 else 0)) (hc : ∀ op x y r, (op, x, y, r) ∈ cm → cmpVal op (x.ev (fun i => if i = 0 then a0 else if i = 1 then a1 else 0)) (y.ev (fun i => if i = 0 then a0 else if i = 1 then a1 else 0)) = r) (hi : ∀ x lo hi, (x, lo, hi) ∈ iv → lo ≤ x.ev (fun i => if i = 0 then a0 else if i = 1 then a1 else 0) ∧ x.ev (fun i => if i = 0 then a0 else if i = 1 then a1 else 0) ≤ hi)
    (w : World) (hgl : GlOk gl w) : Calls Tryz.prog 6 #[.int .i64 a0, .int .i64 a1] w fun e w' => e = .returned (.bool true) ∧ Below w.heap.size w w' :=
  haveI : GlOk gl w := hgl
  haveI : GlOk (cfR rw cm iv).gl w := hgl
  soundC comp.mixed comp.TOk (over := ovR m rw cm iv) (cf := cfR rw cm iv) (σ := fun i => if i = 0 then a0 else if i = 1 then a1 else 0) (xs := [.int .i64 a0, .int .i64 a1]) (fun _ h => ov0_ok rfl rfl (overM_okC (hm w) hp (overM_ok (m2ok w) (overJ_ok (fun e lo hi => subJ_ok w rw cm iv e lo hi) h))))
    ⟨hr, hc, hi, fun _ _ _ _ hm => (by cases hm)⟩
    (.cons (.int .i64 (.var 0)) (.cons (.int .i64 (.var 1)) .nil)) r
theorem prz {cm : List (BinOp × SI × SI × Bool)} {b : SI × Int × Int} {rw : List (SI × SI)} : ∀ σ, (cfR rw cm [(.conv .i32 (.var 0), (.ofNat (nat_lit 0)), (.ofNat (nat_lit 0))), b]).ok σ → IntKind.wrap .i32 (σ 0) = 0 := fun σ h => by
  have k := h.2.2.1 _ _ _ List.mem_cons_self
  have k1 : (0 : Int) ≤ IntKind.wrap .i32 (σ 0) := k.1
  have k2 : IntKind.wrap .i32 (σ 0) ≤ (0 : Int) := k.2
  omega
theorem prn {cm : List (BinOp × SI × SI × Bool)} {b : SI × Int × Int} {rw : List (SI × SI)} : ∀ σ, (cfR rw cm [(.conv .i32 (.var 0), (.negSucc (nat_lit 2147483647)), (.negSucc (nat_lit 0))), b]).ok σ → IntKind.wrap .i32 (σ 0) < 0 := fun σ h => by
  have k := h.2.2.1 _ _ _ List.mem_cons_self
  have k2 : IntKind.wrap .i32 (σ 0) ≤ (-1 : Int) := k.2
  omega
theorem prp {cm : List (BinOp × SI × SI × Bool)} {b : SI × Int × Int} {rw : List (SI × SI)} : ∀ σ, (cfR rw cm [(.conv .i32 (.var 0), (.ofNat (nat_lit 1)), (.ofNat (nat_lit 2147483647))), b]).ok σ → 0 < IntKind.wrap .i32 (σ 0) := fun σ h => by
  have k := h.2.2.1 _ _ _ List.mem_cons_self
  have k1 : (1 : Int) ≤ IntKind.wrap .i32 (σ 0) := k.1
  omega
theorem walk (a0 : Int) (a1 : Int) (w0 : (Lit.int .i64 a0).wf = true) (w1 : (Lit.int .i64 a1).wf = true) (w : World) (hgl : GlOk gl w) :
    Calls Tryz.prog 6 #[.int .i64 a0, .int .i64 a1] w fun e w' => e = .returned (.bool true) ∧ Below w.heap.size w w' := by
  have g0 := rgv a0
  have g1 := rgv a1
  by_cases z : IntKind.wrap .i32 a0 = 0
  ·
    have h0 : 0 ≤ IntKind.wrap .i32 a0 ∧ IntKind.wrap .i32 a0 ≤ 0 := by omega
    by_cases l : 0 < IntKind.wrap .i32 a1
    · exact at_ (m := m3z) (fun W0 _ => m3zok W0) prz rzl (rwl1 z) cml0 (iv2 h0 (by omega : 1 ≤ IntKind.wrap .i32 a1 ∧ IntKind.wrap .i32 a1 ≤ 2147483647)) w hgl
    · exact at_ (m := m3z) (fun W0 _ => m3zok W0) prz rzg (rwl1 z) cml0 (iv2 h0 (by omega : -2147483648 ≤ IntKind.wrap .i32 a1 ∧ IntKind.wrap .i32 a1 ≤ 0)) w hgl
  ·
    by_cases n : IntKind.wrap .i32 a0 < 0
    ·
      have h0 : -2147483648 ≤ IntKind.wrap .i32 a0 ∧ IntKind.wrap .i32 a0 ≤ -1 := by omega
      by_cases l : IntKind.wrap .i32 a0 < IntKind.wrap .i32 a1
      · exact at_ (m := m3n) (fun W0 _ => m3nok W0) prn rnl rwl0 (cml1 (by show decide (IntKind.wrap .i32 a0 < IntKind.wrap .i32 a1) = true; simpa using l)) (iv2 h0 g1) w hgl
      · exact at_ (m := m3n) (fun W0 _ => m3nok W0) prn rng rwl0 (cml1 (by show decide (IntKind.wrap .i32 a0 < IntKind.wrap .i32 a1) = false; simpa using l)) (iv2 h0 g1) w hgl
    ·
      have h0 : 1 ≤ IntKind.wrap .i32 a0 ∧ IntKind.wrap .i32 a0 ≤ 2147483647 := by omega
      by_cases l : IntKind.wrap .i32 a0 < IntKind.wrap .i32 a1
      · exact at_ (m := m3p) (fun W0 _ => m3pok W0) prp rpl rwl0 (cml1 (by show decide (IntKind.wrap .i32 a0 < IntKind.wrap .i32 a1) = true; simpa using l)) (iv2 h0 g1) w hgl
      · exact at_ (m := m3p) (fun W0 _ => m3pok W0) prp rpg rwl0 (cml1 (by show decide (IntKind.wrap .i32 a0 < IntKind.wrap .i32 a1) = false; simpa using l)) (iv2 h0 g1) w hgl

/-! ### THE ROW's STEP: WRITTEN OUT: LEAVE IT -/
set_option maxRecDepth 100000 in
theorem lifted (os : Os) (started : os.Started) (H : Type) (enc : TypeId × Value → H) :
    ReturnsInHanded {} Tryz.checked os 6 .any (fun w args => (Rows.modelJumpsSpec.pre enc Tryz.prog Tryz.f6 Rows.modelJumpsRow.domain false w args ∧ laidMet Tryz.prog Rows.modelJumpsRow.laid w) ∧ sizedMet enc Tryz.prog Tryz.f6 (OpenSpec.ofChange Rows.modelJumpsSpec) false w args) (Rows.modelJumpsSpec.post enc Tryz.prog Tryz.f6 false true false false) := by
  refine returnsInHanded_of_change_and (C := Tryz.checked) (X := fun w _ => laidMet Tryz.prog Rows.modelJumpsRow.laid w) (fun _ _ _ hh h => h.of_heap hh) own started (by kernel_rfl) Tryz.func6
    (ChangeSpec.witness_shaped (enc := enc) (C := Tryz.checked) (os := os) (X := fun w _ => laidMet Tryz.prog Rows.modelJumpsRow.laid w) false (laidWorld os #[.int .i64 0, .int .i64 0]) #[.int .i64 0, .int .i64 0] 8 rfl (World.shaped_of_RefB (by kernel_rfl) (by kernel_rfl)) (by kernel_rfl) (by kernel_rfl) (by kernel_rfl) (laid_met_modelJumps os _ _)) ?_
  intro W base args ds gs before hval0 hW hcnd _ hL _
  have hval : ∀ (j : Nat) t v, Tryz.f6.params[j]? = some t → args[j]? = some v → Value.okWide Tryz.prog W .any base t v := hval0
  have hW' := hW
  obtain ⟨p, q, hA0, hV, rfl, hfz, hnd⟩ := hW
  have hA : DataW.TrodAll enc Tryz.prog W 0 (fun _ => true) true Tryz.f6.params.toList args.toList ds p := hA0
  rw [Tryz.params6] at hA hval
  obtain ⟨v0, vs0, d0, ds0, p0, q0, hargs, rfl, rfl, h0, r0⟩ := trodAll_cons hA
  obtain ⟨v1, vs1, d1, ds1, p1, q1, rfl, rfl, rfl, h1, r1⟩ := trodAll_cons r0
  obtain ⟨rfl, rfl, rfl⟩ := trodAll_nil r1
  obtain rfl : args = #[v0, v1] := by cases args; simp_all
  obtain ⟨rfl, rfl⟩ := trodVars_none hV
  obtain ⟨a0, rfl, rfl, rfl, w0⟩ := open_int Tryz.underlying3 (hval 0 3 v0 rfl rfl) h0
  obtain ⟨a1, rfl, rfl, rfl, w1⟩ := open_int Tryz.underlying3 (hval 1 3 v1 rfl rfl) h1
  clear hA0 hval0
  simp only [List.append_nil] at hW'
  refine (walk a0 a1 w0 w1 W (gl_of_laid_modelJumps hL)).mono fun e W' ⟨he, hg⟩ => ?_
  subst he
  exact ⟨_, rfl, post_of_below (pa := []) (pv := []) hW' (fun _ _ _ => (trodAll_cons_mk (shut_bool Tryz.underlying4 _) trodAll_mk0)) (fun sp _ => (trodAll_cons_mk (shut_int Tryz.underlying3 w0) (trodAll_cons_mk (shut_int Tryz.underlying3 w1) trodAll_mk0))) (fun _ _ => rfl) rfl
    hg (ok_one (by kernel_rfl) rfl (okWide_bool_mk Tryz.underlying4 _))⟩

theorem over : Rows.modelJumpsRow.holds Tryz.pinned (OpenSpec.ofChange Rows.modelJumpsSpec) :=
  OpenClaim.holds_of_wide 6 Tryz.f6 rfl rfl rfl rfl rfl rfl rfl ⟨rfl, rfl, rfl, rfl, rfl⟩ rfl rfl rfl rfl rfl (by kernel_rfl) Tryz.func6 joined
    (of_decide_eq_true (by kernel_rfl)) (by unfold Func.isWrapper; first | (rw [if_pos (by decide +kernel)]; kernel_rfl) | (rw [if_neg (by decide +kernel)]; exact ⟨rfl, rfl⟩))
    (fun os started H enc _ => lifted os started H enc)

/-- ████ THE STATEMENT ████ -/
theorem proved : Rows.ModelJumpsCardSaid :=
  Claim7.holds_tied_plain_at .later [] [.listed, .data] true (true, "bd2ea72fb570be8efd04e8da19323e007029b4ef2c57d9fc4236a2adb4d4b959") true
    over (fun _ h => by cases h) g0 (fun _ h => by cases h) modelJumps_row_tie rfl ⟨rfl, rfl⟩ g1 rfl
    (fun f fn hf hfn => by
      obtain rfl : f = 6 := Option.some.inj (g2.symm.trans hf) |>.symm
      obtain rfl : fn = Tryz.f6 := (Option.some.inj (Tryz.func6.symm.trans hfn)).symm
      exact ⟨g3, fun j t ht => by
        rw [Tryz.params6] at ht
        have hm : t ∈ (Tryz.f6.params : Array TypeId).toList := by
          rw [Tryz.params6]
          exact Array.mem_toList_iff.2 (Array.mem_of_getElem? ht)
        have := List.all_eq_true.1 g4 t hm
        have h2 : Tryz.prog.wantsStandIn t = false := by simpa using this
        exact h2⟩)
    g5
#print axioms proved
end Go.Proofs.YtfedjkcigdgcoaaGreatDoor.modelJumps
