/- A function that is proved to answer true, taken as a fact. -/
import Derived.Test.YtpogefeioedgeaaGreatDoorAiX
namespace Go.Ai
open Go Go.RowKit
set_option linter.unusedVariables false
variable {G : Program} {W0 : World} {cf : Cf}
theorem Mv.below {E : Env} {H : P → Option AObj} {nx : Nat} {w w' : World} (h : HR G W0 E H nx w) (hb : Below w.heap.size w w') : Mv G W0 E H nx w E H nx w' := by
  have same : ∀ b, b < w.heap.size → w'.heap[b]? = w.heap[b]? := fun b hb' => hb.block b hb'
  refine ⟨Env.le.refl E, ⟨?_, h.dom, ?_, h.inj⟩, Nat.le_refl _, hb.size, fun b hb' _ => same b hb', fun l o b c ho e => .inr ⟨l, o, c, ho, e⟩, fun _ _ e => .inl e⟩
  · exact h.below.trans (hb.mono h.below.size)
  · intro l o e
    obtain ⟨b, c, ob, e1, e2, e3, e4⟩ := h.obj l o e
    exact ⟨b, c, ob, e1, e2, by rw [same b (h.lt e e1)]; exact e3, e4⟩
noncomputable def overC (aw : Nat) (call : CallF) : CallF := fun f args H => match Nat.beq f aw with
  | true => List.casesOn args (.ret (.bool true) H) (fun _ _ => call f args H)
  | false => call f args H
/-- no assumption -/
noncomputable def cf0 : Cf := ⟨[], [], [], fun _ _ _ => none⟩
theorem cf0_ok (σ : Nat → Int) : cf0.ok σ := by
  refine ⟨fun a b h => ?_, fun op a b r h => ?_, fun a lo hi h => ?_, fun op a b r h => ?_⟩
  · exact absurd h (by simp [cf0])
  · exact absurd h (by simp [cf0])
  · exact absurd h (by simp [cf0])
  · exact absurd h (by simp [cf0])
/-- it answers true wherever it is called, and leaves what was -/
def Awake (G : Program) (aw : Nat) : Prop := ∀ w : World, Calls G aw #[] w fun e w' => e = .returned (.bool true) ∧ Below w.heap.size w w'
theorem awake_of (hm : G.follows .mixedOrders = true) {fuel d aw : Nat} (h : yes (callN G cf0 fuel d aw [] ⟨P.h, PT.e⟩) = true) : Awake G aw :=
  fun w => sound hm (cf := cf0) (σ := fun _ => 0) (xs := []) (cf0_ok _) .nil h
theorem overC_ok {aw : Nat} (ha : Awake G aw) {call : CallF} (hc : CallOk G W0 cf call) : CallOk G W0 cf (overC aw call) := by
  intro f args H E w xs hcf hr hx
  unfold overC
  split
  · rename_i hf
    have hf := Nat.eq_of_beq_eq_true hf
    subst hf
    cases args with
    | nil =>
      cases hx
      exact Calls.mono (ha w) (fun e w' h => ⟨E, .bool true, h.1, Mv.below hr h.2, .bool true⟩)
    | cons a args => exact hc _ _ H E w xs hcf hr hx
  · exact hc _ _ H E w xs hcf hr hx
/-- a law's run, its 'awake' taken as a fact -/
noncomputable def runO (G : Program) (cf : Cf) (fuel d aw f : Nat) (args : List AV) : KR := frameK G cf (overC aw (bothN G cf fuel d).1) (bothN G cf fuel d).2 fuel f args ⟨P.h, PT.e⟩
theorem soundO (hm : G.follows .mixedOrders = true) {aw : Nat} (ha : Awake G aw) {cf : Cf} {fuel d : Nat} {f : FuncId} {avs : List AV} {xs : List Value} {w : World} {σ : Nat → Int} (hcf : cf.ok σ) (hx : VRs ⟨σ, fun _ => none⟩ avs xs)
    (h : yes (runO G cf fuel d aw f avs) = true) : Calls G f xs.toArray w fun e w' => e = .returned (.bool true) ∧ Below w.heap.size w w' := by
  have hb := bothN_ok (G := G) (W0 := w) (cf := cf) (fun call h => drawK_ok hm h) fuel d
  have ho := overC_ok ha hb.1
  have hc := frameK_ok ho hb.2 (drawK_ok hm ho) fuel f avs ⟨P.h, PT.e⟩ ⟨σ, fun _ => none⟩ w xs hcf (HR.start w σ) hx
  unfold yes at h
  unfold runO at h
  split at h
  · rename_i b H' hr
    rw [hr] at hc
    refine Calls.mono hc ?_
    rintro e w' ⟨E', x, rfl, mv, hv⟩
    cases hv
    exact ⟨by rw [h], mv.hr.below⟩
  · cases h
end Go.Ai
