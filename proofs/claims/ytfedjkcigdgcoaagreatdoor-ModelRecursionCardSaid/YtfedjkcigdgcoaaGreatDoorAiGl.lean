/- Package variables that a row lists: arrays of whole numbers, as they lie in a world. -/
import Derived.Test.YtfedjkcigdgcoaaGreatDoorAiD
import GoSem.ClaimJoined
namespace Go.Ai
open Go Go.RowKit
set_option linter.unusedVariables false
theorem mapM_some {α β : Type} {f : α → Option β} : ∀ {l : List α} {xs : List β}, l.mapM f = some xs → l.map f = xs.map some
  | [], xs, h => by
    rw [List.mapM_nil] at h
    cases h; rfl
  | a :: l, xs, h => by
    simp only [List.mapM_cons, Option.bind_eq_bind, Option.bind_eq_some_iff, Option.pure_def, Option.some.injEq] at h
    obtain ⟨b, hb, bs, hbs, rfl⟩ := h
    simp [hb, mapM_some hbs]
theorem laid_mem {P : Program} {w : World} {n : String} {d : DataW Unit} : ∀ {l : List (String × DataW Unit)} {ps : List MemPlace}, DataW.LaidVars P w l ps → (n, d) ∈ l →
    ∃ g t cs fuel p, P.globalNamed n = some g ∧ (P.globals[g]?).map (·.type) = some t ∧ w.var? P n = some cs ∧ DataW.trod (fun _ => ()) P w 0 (fun _ => true) false fuel t cs.toList = some (d, p)
  | [], ps, _, hm => by cases hm
  | (n', d') :: l, ps, ⟨g, t, cs, fuel, p, q, h1, h2, h3, h4, h5, h6⟩, hm => by
    rcases List.mem_cons.1 hm with e | hm
    · cases e; exact ⟨g, t, cs, fuel, p, h1, h2, h3, h4⟩
    · exact laid_mem h5 hm
theorem trod_int {P : Program} {w : World} {base : Nat} {sp : Nat → Bool} {held : Bool} {fuel : Nat} {e : TypeId} {k : IntKind} (he : P.underlying e = some (.int k)) {v : Value} {y : DataW Unit × List MemPlace}
    (h : DataW.trod (fun _ => ()) P w base sp held fuel e [v] = some y) : ∃ m, v = .int k m ∧ y.1 = .lit (.int k m) := by
  cases fuel with
  | zero => simp [DataW.trod] at h
  | succ fuel =>
    cases v <;> simp [DataW.trod, he] at h
    rename_i k' m
    obtain ⟨⟨rfl, _⟩, rfl⟩ := h
    exact ⟨m, rfl, rfl⟩
theorem trod_ints {P : Program} {w : World} {base : Nat} {sp : Nat → Bool} {held : Bool} {fuel : Nat} {t e : TypeId} {n : Nat} {k : IntKind} (hu : P.underlying t = some (.array n e)) (he : P.underlying e = some (.int k)) (hc : P.cellsOf t = n) (hs : P.cellsOf e = 1)
    {cs : List Value} {ns : List Int} {p : List MemPlace} (h : DataW.trod (fun _ => ()) P w base sp held fuel t cs = some (.agg (ns.map fun x => .lit (.int k x)), p)) : cs = ns.map (Value.int k) := by
  cases fuel with
  | zero => simp [DataW.trod] at h
  | succ fuel =>
    simp only [DataW.trod, hu] at h
    split at h
    · rename_i hl
      rw [hc] at hl
      simp only [Option.map_eq_some_iff] at h
      obtain ⟨xs, hxs, hx⟩ := h
      have hmap := mapM_some hxs
      have hlen : xs.length = n := by
        have := congrArg List.length hmap
        simpa using this.symm
      have hd : xs.map (·.1) = ns.map fun x => (DataW.lit (.int k x) : DataW Unit) := by
        simp only [Prod.mk.injEq, DataW.agg.injEq] at hx
        exact hx.1
      have hnl : ns.length = n := by
        have := congrArg List.length hd
        simpa [hlen] using this.symm
      apply List.ext_getElem (by simp [hl, hnl])
      intro i h1 h2
      have hi : i < n := by omega
      have hxi : i < xs.length := by omega
      have hf := congrArg (fun l => l[i]?) hmap
      simp only [List.getElem?_map, List.getElem?_range hi, Option.map_some, List.getElem?_eq_getElem hxi] at hf
      have hone : (cs.drop (i * P.cellsOf e)).take (P.cellsOf e) = [cs[i]] := by
        rw [hs, Nat.mul_one, List.drop_eq_getElem_cons h1]; rfl
      rw [hone] at hf
      obtain ⟨m, hm, hy⟩ := trod_int he (Option.some.inj hf)
      have hdi := congrArg (fun l => l[i]?) hd
      have hni : i < ns.length := by omega
      simp only [List.getElem?_map, List.getElem?_eq_getElem hxi, List.getElem?_eq_getElem hni, Option.map_some, Option.some.injEq] at hdi
      rw [hy] at hdi
      simp only [DataW.lit.injEq, Lit.int.injEq, true_and] at hdi
      rw [hm, List.getElem_map, hdi]
    · cases h
theorem vrs_ints (E : Env) (k : IntKind) : ∀ ns : List Int, VRs E (ns.map fun x => AV.int k (.lit x)) (ns.map (Value.int k))
  | [] => .nil
  | n :: ns => .cons (.int k (.lit n)) (vrs_ints E k ns)
/-- a package variable that is an array of whole numbers, as a row lists it -/
theorem laid_ints {P : Program} {w : World} {l : List (String × DataW Unit)} {n : String} {g t e N : Nat} {k : IntKind} {ns : List Int} (h : laidMet P l w) (hm : (n, (DataW.agg (ns.map fun x => .lit (.int k x)) : DataW Unit)) ∈ l) (hg : P.globalNamed n = some g) (ht : (P.globals[g]?).map (·.type) = some t)
    (hu : P.underlying t = some (.array N e)) (he : P.underlying e = some (.int k)) (hc : P.cellsOf t = N) (hs : P.cellsOf e = 1) :
    ∃ arr ty fz, ∃ pre rest : List Value, w.heap[g]? = some (.cells arr ty fz) ∧ arr.toList = pre ++ rest ∧ ∀ E : Env, VRs E (ns.map fun x => AV.int k (.lit x)) pre := by
  obtain ⟨ps, hl, _⟩ := h
  obtain ⟨g', t', cs, fuel, p, h1, h2, h3, h4⟩ := laid_mem hl hm
  rw [hg] at h1; cases h1
  rw [ht] at h2; cases h2
  have hcs := trod_ints hu he hc hs h4
  unfold World.var? at h3
  rw [hg] at h3
  simp only [Option.bind_some] at h3
  split at h3
  · rename_i c ty fz hh
    cases h3
    exact ⟨_, _, _, ns.map (Value.int k), [], hh, by rw [hcs]; simp, fun E => vrs_ints E k ns⟩
  · cases h3
end Go.Ai
