/- A region that draws its order, by an invariant over what is done. -/
import Derived.Orders
namespace Go.Proofs.Ytmnfeljfemobkaa.any
open Go
set_option linter.unusedVariables false
variable {P : Program} {ops : Array Oper} {Q : Exit → Act → World → Prop}
def unl : Nat → Array Bool → Nat
  | 0, _ => 0
  | n + 1, l => (match l.getD n true with | false => 1 | true => 0) + unl n l
theorem unl_zero : ∀ {n : Nat} {l : Array Bool}, unl n l = 0 → ∀ j, j < n → l.getD j true = true
  | 0, l, _, j, hj => by omega
  | n + 1, l, h, j, hj => by
    unfold unl at h
    by_cases hjn : j = n
    · subst hjn
      cases hb : l.getD j true with
      | true => rfl
      | false => rw [hb] at h; simp at h
    · exact unl_zero (n := n) (by omega) j (by omega)
theorem getD_set {l : Array Bool} {i j : Nat} {d : Bool} (hi : i < l.size) : (l.setIfInBounds i true).getD j d = if j = i then true else l.getD j d := by
  rw [Array.getD_eq_getD_getElem?, Array.getD_eq_getD_getElem?, Array.getElem?_setIfInBounds]
  by_cases h : i = j
  · subst h; simp [hi]
  · have : ¬ j = i := fun e => h e.symm
    simp [h, this]
theorem unl_same {l : Array Bool} {i : Nat} (hi : i < l.size) : ∀ {m : Nat}, m ≤ i → unl m (l.setIfInBounds i true) = unl m l
  | 0, _ => rfl
  | m + 1, hm => by
    unfold unl
    rw [getD_set hi, if_neg (by omega), unl_same hi (by omega)]
theorem unl_set {l : Array Bool} {i : Nat} (hi : i < l.size) (hf : l.getD i true = false) : ∀ {n : Nat}, i < n → unl n (l.setIfInBounds i true) + 1 = unl n l
  | 0, h => by omega
  | n + 1, h => by
    unfold unl
    rw [getD_set hi]
    by_cases hn : n = i
    · subst hn
      rw [if_pos rfl, hf, unl_same hi (Nat.le_refl _)]
      simp only; omega
    · rw [if_neg hn]
      have := unl_set hi hf (n := n) (by omega)
      omega
theorem getD_both {l : Array Bool} {j : Nat} (hj : j < l.size) : l.getD j true = l.getD j false := by
  rw [Array.getD_eq_getD_getElem?, Array.getD_eq_getD_getElem?]; simp [hj]
theorem ready_iff {L : Array Bool} {i : Nat} : i ∈ Region.ready .any ops L ↔ i < ops.size ∧ L.getD i true = false ∧ ((ops[i]?).map (·.after.all fun e => !Region.binds .any e || L.getD e.on false)).getD false = true := by
  simp only [Region.ready, List.mem_filter, List.mem_range, Bool.and_eq_true, Bool.not_eq_true']
/-- what is done is L -/
theorem wpAny_inv (I : Array Bool → Act → World → Prop)
    (hstep : ∀ L a w, L.size = ops.size → I L a w → ∀ i, i ∈ Region.ready .any ops L → ∀ K : Act → World → Prop, (∀ a' w', I (L.setIfInBounds i true) a' w' → K a' w') → wpOp P ops Q i K a w)
    (hend : ∀ L a w, L.size = ops.size → I L a w → Region.ready .any ops L = [] → Q .normal a w) :
    ∀ fuel L a w, L.size = ops.size → unl ops.size L = fuel → I L a w → wpAny P .any ops Q fuel L a w := by
  intro fuel
  induction fuel with
  | zero =>
    intro L a w hs hu hI
    have hr : Region.ready .any ops L = [] := by
      apply List.eq_nil_iff_forall_not_mem.2
      intro i hi
      rw [ready_iff] at hi
      have := unl_zero hu i hi.1
      rw [hi.2.1] at this
      cases this
    exact ⟨hr, hend L a w hs hI hr⟩
  | succ fuel ih =>
    intro L a w hs hu hI
    refine ⟨fun hr => hend L a w hs hI hr, fun i hi => ?_⟩
    have hi' := ready_iff.1 hi
    refine hstep L a w hs hI i hi _ fun a' w' hI' => ?_
    refine ih _ a' w' (by simpa using hs) ?_ hI'
    have := unl_set (l := L) (i := i) (by omega) hi'.2.1 (n := ops.size) hi'.1
    omega
theorem wp_region_inv {id : Nat} {a : Act} {w : World} (hm : P.follows .mixedOrders = true) (I : Array Bool → Act → World → Prop)
    (hu : unl ops.size (Array.replicate ops.size false) = ops.size) (h0 : I (Array.replicate ops.size false) a { w with drawn := w.drawn + 1 })
    (hstep : ∀ L a w, L.size = ops.size → I L a w → ∀ i, i ∈ Region.ready .any ops L → ∀ K : Act → World → Prop, (∀ a' w', I (L.setIfInBounds i true) a' w' → K a' w') → wpOp P ops Q i K a w)
    (hend : ∀ L a w, L.size = ops.size → I L a w → Region.ready .any ops L = [] → Q .normal a w) : (Code.region id ops true).wp P Q a w :=
  wp_region_any hm (wpAny_inv I hstep hend ops.size _ a _ (by simp) hu h0)
theorem all_of_ready (hst : ((List.range ops.size).all fun j => ((ops[j]?).map (·.after.all fun e => !Region.binds .any e || Nat.blt e.on j)).getD false) = true) {L : Array Bool} (hs : L.size = ops.size) (hr : Region.ready .any ops L = []) : ∀ j, j < ops.size → L.getD j true = true := by
  intro j
  induction j using Nat.strongRecOn with
  | _ j ih =>
    intro hj
    cases hb : L.getD j true with
    | true => rfl
    | false =>
      have hm : j ∈ Region.ready .any ops L := by
        rw [ready_iff]
        refine ⟨hj, hb, ?_⟩
        have h1 := List.all_eq_true.1 hst j (List.mem_range.2 hj)
        have ho : ops[j]? = some ops[j] := Array.getElem?_eq_getElem hj
        rw [ho] at h1 ⊢
        simp only [Option.map_some, Option.getD_some] at h1 ⊢
        rw [← Array.all_toList] at h1 ⊢
        refine List.all_eq_true.2 fun e he => ?_
        have h2 := List.all_eq_true.1 h1 e he
        cases hbi : Region.binds .any e with
        | false => rfl
        | true =>
          rw [hbi] at h2
          simp only [Bool.not_true, Bool.false_or] at h2 ⊢
          have hlt : e.on < j := by rw [Nat.blt_eq] at h2; exact h2
          have h3 := ih e.on hlt (by omega)
          rw [getD_both (by omega)] at h3
          exact h3
      rw [hr] at hm
      cases hm
end Go.Proofs.Ytmnfeljfemobkaa.any
