/- A function that is proved to answer true, taken as a fact. -/
import Derived.Test.YtfedjkcigdgcoaaGreatDoorAiX
namespace Go.Ai
open Go Go.RowKit
set_option linter.unusedVariables false
variable {G : Program} {W0 : World} {cf : Cf}
theorem Mv.below {E : Env} {H : P → Option AObj} {nx : Nat} {w w' : World} (h : HR G W0 E H nx w) (hb : Below w.heap.size w w') : Mv G W0 E H nx w E H nx w' := by
  have same : ∀ b, b < w.heap.size → w'.heap[b]? = w.heap[b]? := fun b hb' => hb.block b hb'
  refine ⟨Env.le.refl E, ⟨?_, h.dom, ?_, h.inj⟩, Nat.le_refl _, hb.size, fun b hb' _ => same b hb', fun l o b c ho e => .inr ⟨l, o, c, ho, e⟩, fun _ _ e => .inl e⟩
  · exact h.below.trans (hb.mono h.below.size)
  · intro l o e
    obtain ⟨b, c, ob, e1, e2, e3, e4⟩ := h.obj l o e
    exact ⟨b, c, ob, e1, e2, by rw [same b (h.lt e e1)]; exact e3, e4⟩
noncomputable def overC (aw : Nat) (call : CallF) : CallF := fun f args H => match Nat.beq f aw with
  | true => List.casesOn args (.ret (.bool true) H) (fun _ _ => call f args H)
  | false => call f args H
/-- no assumption -/
noncomputable def cf0 : Cf := ⟨[], [], [], fun _ _ _ => none, fun _ => none⟩
theorem cf0_ok (σ : Nat → Int) : cf0.ok σ := by
  refine ⟨fun a b h => ?_, fun op a b r h => ?_, fun a lo hi h => ?_, fun op a b r h => ?_⟩
  · exact absurd h (by simp [cf0])
  · exact absurd h (by simp [cf0])
  · exact absurd h (by simp [cf0])
  · exact absurd h (by simp [cf0])
/-- it answers true wherever it is called, and leaves what was -/
def Awake (G : Program) (gl : Nat → Option (List AV)) (aw : Nat) : Prop := ∀ w : World, GlOk gl w → Calls G aw #[] w fun e w' => e = .returned (.bool true) ∧ Below w.heap.size w w'
theorem overC_ok [hgl : GlOk cf.gl W0] {aw : Nat} (ha : Awake G cf.gl aw) {call : CallF} (hc : CallOk G W0 cf call) : CallOk G W0 cf (overC aw call) := by
  intro f args H E w xs hcf hr hx
  unfold overC
  split
  · rename_i hf
    have hf := Nat.eq_of_beq_eq_true hf
    subst hf
    cases args with
    | nil =>
      cases hx
      exact Calls.mono (ha w (hgl.below hr.below)) (fun e w' h => ⟨E, .bool true, h.1, Mv.below hr h.2, .bool true⟩)
    | cons a args => exact hc _ _ H E w xs hcf hr hx
  · exact hc _ _ H E w xs hcf hr hx
end Go.Ai
