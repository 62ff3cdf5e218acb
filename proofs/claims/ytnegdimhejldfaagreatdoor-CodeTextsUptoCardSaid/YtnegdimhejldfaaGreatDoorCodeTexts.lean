/- gneiss/gneisslaw16.CodeTexts answers true at every input of bulk at most 2^20, and leaves its arguments as they were. -/
import Derived.Test.YtnegdimhejldfaaGreatDoorRows
import Derived.WalkKit
import Derived.ProofKit
import Derived.OpenShut
import Derived.Below
import Derived.ChangeSame
import Derived.Test.YtnegdimhejldfaaGreatDoorMt
import Derived.Test.YtnegdimhejldfaaGreatDoorCt
import Derived.JoinedCond
import Derived.ChangeMaps5
import Derived.Test.YtnegdimhejldfaaGreatDoorEvL
import Derived.Test.YtnegdimhejldfaaGreatDoorWr
import Derived.Test.YtnegdimhejldfaaGreatDoorLaid
import Derived.Test.YtnegdimhejldfaaGreatDoorTie
import Derived.Test.YtnegdimhejldfaaGreatDoorCards
import Derived.SevenTiedAt
namespace Go.Proofs.YtnegdimhejldfaaGreatDoor.codeTexts
open Go.Ai Go.ChangeShapes Go.WideShapes Go.ChangeAt Go.RowKit
set_option linter.unusedVariables false

theorem own : ownKnob Tryz.prog.godebug = none := by kernel_rfl

/-! ### the walk -/
noncomputable def gl : Nat → Option (List Go.Ai.AV) := laidGl
noncomputable def cfl : Cf := ⟨[], [], [], fun _ _ _ => none, gl⟩
theorem awakes : Awake Tryz.prog gl 19 := fun w hw =>
  haveI : GlOk cfl.gl w := hw
  soundC comp.mixed comp.TOk (over := id) (cf := cfl) (fuel := 1000000) (d := 200) (f := 19) (avs := []) (xs := []) (σ := fun _ => 0) (fun _ h => h)
    ⟨fun _ _ hm => (by cases hm), fun _ _ _ _ hm => (by cases hm), fun _ _ _ hm => (by cases hm), fun _ _ _ _ hm => (by cases hm)⟩ .nil (by kernel_rfl)
theorem walk (a0 a1 a2 : Int) (s : ByteArray) (w1 : (Lit.int .i64 a1).wf = true) (w2 : (Lit.int .i64 a2).wf = true) (hs : s.size ≤ 1048576) (w : World) (hgl : cw.Ev w ∧ GlOk gl w) :
    Calls Tryz.prog 3 #[.agg #[.int .i64 a0, .int .i64 a1, .int .i64 a2], .string s] w fun e w' => e = .returned (.bool true) ∧ Below w.heap.size w w' := by
  exact cw.law3_ok mt.tab_ok (fun w' h => awakes w' (hgl.2.below h)) hgl.1 a0 a1 a2 (wr.int_in w1) (wr.int_in w2) s hs
section
variable {H : Type} {enc : TypeId × Value → H}
theorem handedC {a : Assume} {C : Checked} {os : Os} {f : FuncId} {fn : Func} {s : OpenSpec} {k : (H : Type) → List (DataW H) → Bool} (hk : s.cond = some k) {F : Stop.Interp} {conds : List PathCond} {apart fresh handsOn again : Bool} {X : World → Array Value → Prop}
    (hX : ∀ (w w' : World) (args : Array Value), w.heap = w'.heap → X w args → X w' args)
    (own : ownKnob C.prog.godebug = none) (started : os.Started) (noInit : C.prog.inits.idxOf? f = none) (hfn : C.prog.funcs[f]? = some fn)
    (witness : ∃ (w : World) (tape : Tape) (i : Input), w.os = os ∧ (w.forCall tape i).Shaped C.prog ∧ i.vars = [] ∧ Input.okWide C.prog (w.forCall tape i) .any w.heap.size f i ∧
      ((s.pre enc C.prog fn conds apart (w.forCall tape i).memory i.args ∧ X (w.forCall tape i).memory i.args) ∧ sizedMet enc C.prog fn s apart (w.forCall tape i).memory i.args) ∧ a.holds C.prog (lone (Frame.enter C.prog f i.args .normal) [] (w.forCall tape i)))
    (contract : ∀ (W : World) (base : Nat) (args : Array Value) (ds gs : List (DataW H)) (before : List MemPlace),
      (∀ (j : Nat) t v, fn.params[j]? = some t → args[j]? = some v → Value.okWide C.prog W .any base t v) →
      DataW.Whole enc C.prog fn.params.toList s.vars apart W args.toList ds gs before → k H (ds ++ gs) = true → X W args → W.ShapedOpen C.prog →
      Calls C.prog f args W fun e W' => ∃ v, e = .returned v ∧ (s.at F).post enc C.prog fn apart fresh handsOn again W args v W') :
    ReturnsInHanded a C os f .any (fun w args => (s.pre enc C.prog fn conds apart w args ∧ X w args) ∧ sizedMet enc C.prog fn s apart w args) ((s.at F).post enc C.prog fn apart fresh handsOn again) := by
  refine returnsInHanded_of_calls own started noInit witness ?_
  intro w tape i _ hsh _ hok hpre hholds
  obtain ⟨_, _, _, fn', hfn', _, _, _, _, hval⟩ := hok
  have e : fn' = fn := Option.some.inj (hfn'.symm.trans hfn)
  subst e
  obtain ⟨⟨hp, hx⟩, hz⟩ := hpre
  obtain ⟨ds, gs, before, hw, hc, hkk⟩ := (OpenSpec.pre_some hk conds apart _ _).1 hp
  have hw' := DataW.Whole.of_heap (w' := w.forCall tape i) (by rfl) hw
  refine (contract (w.forCall tape i) w.heap.size i.args ds gs before hval hw' hkk (hX _ _ _ (by rfl) hx) hsh).mono fun e W' ⟨v, he, hp⟩ => ?_
  subst he
  exact ChangeSpec.post_blind hp
theorem witnessC {C : Checked} {os : Os} {f : FuncId} {fn : Func} {s : OpenSpec} {k : (H : Type) → List (DataW H) → Bool} (hk : s.cond = some k) {conds : List PathCond} {apart : Bool} {X : World → Array Value → Prop} (modest : Bool) (w0 : World) (args : Array Value) (fuel : Nat) (hos : w0.os = os)
    (hsh : (w0.forCall (fun _ _ => 0) ⟨#[], args, []⟩).Shaped C.prog)
    (hok : Input.okWideB C.prog (w0.forCall (fun _ _ => 0) ⟨#[], args, []⟩) f ⟨#[], args, []⟩ = true)
    {x : List (DataW H) × List (DataW H) × List MemPlace} (hw : DataW.whole enc C.prog (w0.forCall (fun _ _ => 0) ⟨#[], args, []⟩).memory fn.params.toList s.vars apart args.toList fuel = some x)
    (hconds : conds.all (PathCond.test C.prog ⟨fn.params.toList, x.1, s.bare.plain.varTypes C.prog, x.2.1⟩) = true) (hkk : k H (x.1 ++ x.2.1) = true)
    (hsz : s.bare.sizedB enc C.prog fn apart (w0.forCall (fun _ _ => 0) ⟨#[], args, []⟩).memory args fuel = true)
    (hx : X (w0.forCall (fun _ _ => 0) ⟨#[], args, []⟩).memory args) :
    ∃ (w : World) (tape : Tape) (i : Input), w.os = os ∧ (w.forCall tape i).Shaped C.prog ∧ i.vars = [] ∧ Input.okWide C.prog (w.forCall tape i) .any w.heap.size f i ∧
      ((s.pre enc C.prog fn conds apart (w.forCall tape i).memory i.args ∧ X (w.forCall tape i).memory i.args) ∧ sizedMet enc C.prog fn s apart (w.forCall tape i).memory i.args) ∧ ({ modest := modest } : Assume).holds C.prog (lone (Frame.enter C.prog f i.args .normal) [] (w.forCall tape i)) :=
  ⟨w0, fun _ _ => 0, ⟨#[], args, []⟩, hos, hsh, (Input.okWide_of_okWideB (base := 0) hok).1, (Input.okWide_of_okWideB hok).2, ⟨⟨(OpenSpec.pre_some hk conds apart _ _).2 ⟨x.1, x.2.1, x.2.2, DataW.Whole_of_whole hw, hconds, hkk⟩, hx⟩, sizedMet_of_sizedB hsz⟩, by
    simp only [Assume.holds]
    exact ⟨by simp, by simp, fun _ => Modest.zero, by simp, by simp⟩⟩
end
theorem small_str {H : Type} {a b c : DataW H} {s : ByteArray} (h : Rows.uptoSmall H ([.agg [a, b, c], .lit (.string s.data.toList)] ++ []) = true) : s.size ≤ 1048576 := by
  have h2 := of_decide_eq_true h
  simp only [List.append_nil, Rows.uptoBulkAll, Rows.uptoBulk] at h2
  have h3 : s.size = s.data.toList.length := rfl
  omega
abbrev spec : OpenSpec := Rows.OpenSpec.upto Rows.codeTextsSpec
set_option maxRecDepth 100000 in
theorem lifted (os : Os) (started : os.Started) (H : Type) (enc : TypeId × Value → H) (F : Stop.Interp) :
    ReturnsInHanded {} Tryz.checked os 3 .any (fun w args => (spec.pre enc Tryz.prog Tryz.f3 Rows.codeTextsUptoRow.domain false w args ∧ laidMet Tryz.prog Rows.codeTextsUptoRow.laid w) ∧ sizedMet enc Tryz.prog Tryz.f3 spec false w args) ((spec.at F).post enc Tryz.prog Tryz.f3 false true false false) := by
  refine handedC (C := Tryz.checked) (s := spec) (k := Rows.uptoSmall) rfl (F := F) (X := fun w _ => laidMet Tryz.prog Rows.codeTextsUptoRow.laid w) (fun _ _ _ hh h => h.of_heap hh) own started (by kernel_rfl) Tryz.func3
    (witnessC (enc := enc) (C := Tryz.checked) (os := os) (s := spec) (k := Rows.uptoSmall) rfl (X := fun w _ => laidMet Tryz.prog Rows.codeTextsUptoRow.laid w) false (laidWorld os #[.agg #[.int .i64 0, .int .i64 0, .int .i64 0], .string ⟨#[]⟩]) #[.agg #[.int .i64 0, .int .i64 0, .int .i64 0], .string ⟨#[]⟩] 8 rfl (World.shaped_of_RefB (by kernel_rfl) (by kernel_rfl)) (by kernel_rfl) (x := ([.agg [.lit (.int .i64 0), .lit (.int .i64 0), .lit (.int .i64 0)], .lit (.string [])], [], [])) (by kernel_rfl) (by kernel_rfl) (by kernel_rfl) (by kernel_rfl) (laid_met_codeTextsUpto os _ _)) ?_
  intro W base args ds gs before hval0 hW hcnd hL hsh
  have hval : ∀ (j : Nat) t v, Tryz.f3.params[j]? = some t → args[j]? = some v → Value.okWide Tryz.prog W .any base t v := hval0
  have hW' := hW
  obtain ⟨p, q, hA0, hV, rfl, hfz, hnd⟩ := hW
  have hA : DataW.TrodAll enc Tryz.prog W 0 (fun _ => true) true Tryz.f3.params.toList args.toList ds p := hA0
  rw [Tryz.params3] at hA hval
  obtain ⟨v0, vs0, d0, ds0, p0, q0, hargs, rfl, rfl, h0, r0⟩ := trodAll_cons hA
  obtain ⟨v1, vs1, d1, ds1, p1, q1, rfl, rfl, rfl, h1, r1⟩ := trodAll_cons r0
  obtain ⟨rfl, rfl, rfl⟩ := trodAll_nil r1
  obtain rfl : args = #[v0, v1] := by cases args; simp_all
  obtain ⟨rfl, rfl⟩ := trodVars_none hV
  obtain ⟨c0, c1, c2, y0, y1, y2, m, rfl, rfl, rfl, t0, t1, t2⟩ := Joins.open_agg3 Tryz.underlying23 (by kernel_rfl) (by kernel_rfl) (hval 0 23 v0 rfl rfl) h0
  obtain ⟨a0, hc0, rfl, w0⟩ := DataW.trod_int Tryz.underlying3 t0
  obtain ⟨a1, hc1, rfl, w1⟩ := DataW.trod_int Tryz.underlying3 t1
  obtain ⟨a2, hc2, rfl, w2⟩ := DataW.trod_int Tryz.underlying3 t2
  obtain rfl : c0 = .int .i64 a0 := by simpa using hc0
  obtain rfl : c1 = .int .i64 a1 := by simpa using hc1
  obtain rfl : c2 = .int .i64 a2 := by simpa using hc2
  obtain ⟨s, rfl, rfl, rfl, hs⟩ := Go.ChangeMaps.open_string Tryz.underlying9 (hval 1 9 v1 rfl rfl) h1
  have hsm := small_str hcnd
  clear hA0 hval0
  simp only [List.append_nil] at hW'
  refine (walk a0 a1 a2 s w1 w2 hsm W ⟨cw.ev_of hL hsh, gl_of_laid_codeTextsUpto hL⟩).mono fun e W' ⟨he, hg⟩ => ?_
  subst he
  refine ⟨_, rfl, wr.post_of_below (pa := []) (pv := []) hW' (fun _ _ _ => (trodAll_cons_mk (shut_bool Tryz.underlying4 _) trodAll_mk0)) (fun sp _ => (trodAll_cons_mk (Joins.shut_agg3 Tryz.underlying23 (by kernel_rfl) (by kernel_rfl) (y0 := (.lit (.int .i64 a0), [])) (y1 := (.lit (.int .i64 a1), [])) (y2 := (.lit (.int .i64 a2), [])) (shut_int Tryz.underlying3 w0) (shut_int Tryz.underlying3 w1) (shut_int Tryz.underlying3 w2)) (trodAll_cons_mk (Go.ChangeMaps.shut_string Tryz.underlying9 hs) trodAll_mk0))) (fun _ _ => rfl) rfl
    hg (ok_one (by kernel_rfl) rfl (okWide_bool_mk Tryz.underlying4 _))⟩

theorem and2 {a b : Bool} (h : a = true) (k : b = true) : (a && b) = true := by rw [h, k]; rfl
set_option maxHeartbeats 8000000 in
theorem joined : joinedFacts Tryz.pinned.checked.prog 3 Tryz.f3 spec.bare Rows.codeTextsUptoRow = true := by
  unfold joinedFacts
  exact (and2 (and2 (and2 (and2 (and2 (and2 (and2 (and2 (and2 (and2 (and2 (and2 (and2 (and2 (and2 (and2 (and2 (and2 (and2 (and2 (and2 (and2 (and2 (and2 (and2 (and2 (and2 (and2 (and2 (and2 (and2 (by as_aux_lemma => kernel_rfl) (by as_aux_lemma => kernel_rfl)) (by as_aux_lemma => kernel_rfl)) (by as_aux_lemma => kernel_rfl)) (by as_aux_lemma => kernel_rfl)) (by as_aux_lemma => kernel_rfl)) (by as_aux_lemma => kernel_rfl)) (by as_aux_lemma => kernel_rfl)) (by as_aux_lemma => kernel_rfl)) (by as_aux_lemma => kernel_rfl)) (by as_aux_lemma => kernel_rfl)) (by as_aux_lemma => kernel_rfl)) (by as_aux_lemma => kernel_rfl)) (by as_aux_lemma => kernel_rfl)) (by as_aux_lemma => kernel_rfl)) (by as_aux_lemma => kernel_rfl)) (by as_aux_lemma => kernel_rfl)) (by as_aux_lemma => kernel_rfl)) (by as_aux_lemma => kernel_rfl)) (by as_aux_lemma => kernel_rfl)) (by as_aux_lemma => kernel_rfl)) (by as_aux_lemma => kernel_rfl)) (by as_aux_lemma => kernel_rfl)) (by as_aux_lemma => kernel_rfl)) (by as_aux_lemma => kernel_rfl)) (by as_aux_lemma => kernel_rfl)) (by as_aux_lemma => kernel_rfl)) (by as_aux_lemma => kernel_rfl)) (by as_aux_lemma => kernel_rfl)) (by as_aux_lemma => kernel_rfl)) (by as_aux_lemma => kernel_rfl)) (by as_aux_lemma => kernel_rfl))

theorem over : Rows.codeTextsUptoRow.holds Tryz.pinned spec :=
  OpenClaim.holds_of_cond 3 Tryz.f3 rfl rfl rfl rfl rfl rfl rfl ⟨rfl, rfl, rfl, rfl, rfl⟩ rfl rfl rfl rfl rfl (by kernel_rfl) Tryz.func3 joined
    (of_decide_eq_true (by kernel_rfl)) (by unfold Func.isWrapper; first | (rw [if_pos (by decide +kernel)]; kernel_rfl) | (rw [if_neg (by decide +kernel)]; exact ⟨rfl, rfl⟩))
    (fun os started H enc _ F => lifted os started H enc F)

theorem g0 : Rows.codeTextsUptoRow.wfByText spec = true := by kernel_rfl
theorem g1 : Tryz.pinned.checked.prog.mainIs = some (true, ("cce98c41ac5a1a9c25bdcc50907c18bb2f353722e5ff9255f8cf98c9d2362171" : String).toList) := by kernel_rfl
theorem g2 : Tryz.prog.funcNamed "gneiss/gneisslaw16.CodeTexts" = some 3 := by kernel_rfl
theorem g3 : true = Tryz.pinned.checked.prog.looks [] := by kernel_rfl
theorem g4 : (Tryz.f3.params.toList.all fun t => !(Tryz.prog.wantsStandIn t)) = true := by kernel_rfl
theorem g5 : false = Rows.codeTextsUptoRow.goesBy Tryz.pinned.checked.prog := by kernel_rfl
/-- ████ THE STATEMENT ████ -/
theorem proved : Rows.CodeTextsUptoCardSaid :=
  Claim7.holds_tied_plain_at .later [] [.data, .data, .data, .sentinel, .sentinel, .listed, .data] true (true, "cce98c41ac5a1a9c25bdcc50907c18bb2f353722e5ff9255f8cf98c9d2362171") true
    over (fun _ h => by cases h) g0 (fun _ h => by cases h) codeTextsUpto_row_tie rfl ⟨rfl, rfl⟩ g1 rfl
    (fun f fn hf hfn => by
      obtain rfl : f = 3 := Option.some.inj (g2.symm.trans hf) |>.symm
      obtain rfl : fn = Tryz.f3 := (Option.some.inj (Tryz.func3.symm.trans hfn)).symm
      exact ⟨g3, fun j t ht => by
        rw [Tryz.params3] at ht
        have hm : t ∈ (Tryz.f3.params : Array TypeId).toList := by
          rw [Tryz.params3]
          exact Array.mem_toList_iff.2 (Array.mem_of_getElem? ht)
        have := List.all_eq_true.1 g4 t hm
        have h2 : Tryz.prog.wantsStandIn t = false := by simpa using this
        exact h2⟩)
    g5
#print axioms proved
end Go.Proofs.YtnegdimhejldfaaGreatDoor.codeTexts
