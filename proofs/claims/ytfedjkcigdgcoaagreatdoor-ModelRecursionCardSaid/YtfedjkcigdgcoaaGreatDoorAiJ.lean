/- What operations that write come to, on abstract values: stores, appends, copies, maps. -/
import Derived.Test.YtfedjkcigdgcoaaGreatDoorAiI
namespace Go.Ai
open Go Go.RowKit
set_option linter.unusedVariables false
section
variable {G : Program} {W0 : World} {E : Env} {nx : Nat} {w : World} {cf : Cf}

def scalarA : AV → Bool
  | .agg _ => false
  | .tup _ => false
  | .top => false
  | _ => true
theorem scalarA_ok {a : AV} {v : Value} (h : VR E a v) (hs : scalarA a = true) : v.oneCell' = true := by
  cases h <;> first | rfl | (cases hs; done)
noncomputable def allL {α : Type} (f : α → Bool) (l : List α) : Bool := List.rec true (fun a _ ih => Bool.rec false ih (f a)) l
theorem allL_cons {α : Type} {f : α → Bool} {a : α} {l : List α} (h : allL f (a :: l) = true) : f a = true ∧ allL f l = true := by
  have h' : (Bool.rec false (allL f l) (f a) : Bool) = true := h
  cases hf : f a with
  | false => rw [hf] at h'; cases h'
  | true => rw [hf] at h'; exact ⟨rfl, h'⟩

/-- one row written over -/
structure Wrote (b : Nat) (arr' : Array Value) (ty : TypeId) (fz : Nat × Nat) (w w' : World) : Prop where
  size : w'.heap.size = w.heap.size
  at_ : w'.heap[b]? = some (.cells arr' ty fz)
  other : ∀ k, k ≠ b → w'.heap[k]? = w.heap[k]?
  os : w'.os = w.os
  tape : w'.tape = w.tape
  out : w'.output = w.output
theorem Wrote.trans {b : Nat} {a1 a2 : Array Value} {ty : TypeId} {fz : Nat × Nat} {w1 w2 w3 : World} (h : Wrote b a1 ty fz w1 w2) (k : Wrote b a2 ty fz w2 w3) : Wrote b a2 ty fz w1 w3 :=
  ⟨k.size.trans h.size, k.at_, fun i hi => (k.other i hi).trans (h.other i hi), k.os.trans h.os, k.tape.trans h.tape, k.out.trans h.out⟩
theorem setCell_wrote {b i : Nat} {arr : Array Value} {ty : TypeId} {fz : Nat × Nat} (hb : w.heap[b]? = some (.cells arr ty fz)) (v : Value) : Wrote b (arr.setIfInBounds i v) ty fz w (w.setCell ⟨b, i, none⟩ v) := by
  obtain ⟨hlt, hat⟩ := Array.getElem?_eq_some_iff.1 hb
  refine ⟨by simp [World.setCell], ?_, fun k hk => ?_, rfl, rfl, rfl⟩
  · simp [World.setCell, Array.getElem?_modify, hb]
  · simp [World.setCell, Array.getElem?_modify]
    intro e; exact absurd e.symm hk
theorem storeCells_run {b : Nat} {ty : TypeId} {fz : Nat × Nat} : ∀ (vs : List Value) (off : Nat) (arr : Array Value) (w : World), w.heap[b]? = some (.cells arr ty fz) → off + vs.length ≤ arr.size → (∀ i, i < arr.size → ¬ (fz.1 ≤ i ∧ i < fz.2)) → (∀ v ∈ vs, v.oneCell' = true) → ∀ (a : Addr) (j : Nat), a.add j = ⟨b, off, none⟩ → a.block = b → a.off + j = off →
    ∃ w' arr', (storeCells a vs j).run G w = .ok () w' ∧ Wrote b arr' ty fz w w' ∧ arr'.toList = arr.toList.take off ++ vs ++ arr.toList.drop (off + vs.length)
  | [], off, arr, w, hb, hsz, hfz, hone, a, j, ha, _, _ => ⟨w, arr, rfl, ⟨rfl, hb, fun _ _ => rfl, rfl, rfl, rfl⟩, by simp⟩
  | v :: vs, off, arr, w, hb, hsz, hfz, hone, a, j, ha, hab, hao => by
    simp only [List.length_cons] at hsz
    have hlt : off < arr.size := by omega
    have hcell : w.cell? ⟨b, off, none⟩ = some arr[off] := by simp [World.cell?, hb, hlt]
    have hfr : w.frozen? ⟨b, off, none⟩ = false := by
      have := hfz off hlt
      simp [World.frozen?, hb]
      intro h; exact Nat.le_of_not_lt (fun h2 => this ⟨h, h2⟩)
    have hst : (store (a.add j) v).run G w = .ok () (w.setCell ⟨b, off, none⟩ v) := by
      rw [ha, run_store G w _ v .plain (hone v (by simp)), hcell]
      simp [hfr]
    have hw := setCell_wrote (i := off) hb v
    have hadd : a.add (j + 1) = ⟨b, off + 1, none⟩ := by
      cases a with
      | mk ab ao as =>
        simp only at hab hao
        unfold Addr.add
        rw [if_neg (by omega)]
        simp [hab]; omega
    obtain ⟨w', arr', h1, h2, h3⟩ := storeCells_run vs (off + 1) (arr.setIfInBounds off v) _ hw.at_ (by simp; omega) (by simpa using hfz) (fun x hx => hone x (by simp [hx])) a (j + 1) hadd hab (by omega)
    refine ⟨w', arr', ?_, hw.trans h2, ?_⟩
    · simp only [storeCells, Sem.run_bind, hst, Result.andThen_ok, h1]
    · rw [h3]
      have hk : off < arr.toList.length := by simpa using hlt
      simp only [Array.toList_setIfInBounds, List.length_cons]
      have e1 : (arr.toList.set off v).take (off + 1) = arr.toList.take off ++ [v] := by
        rw [List.take_add_one, List.getElem?_set_self hk, List.take_set_of_le (Nat.le_refl _)]; rfl
      have e2 : (arr.toList.set off v).drop (off + 1 + vs.length) = arr.toList.drop (off + (vs.length + 1)) := by
        rw [List.drop_set_of_lt (by omega)]; congr 1; omega
      rw [e1, e2]; simp
theorem storeCells_at {b off : Nat} {ty : TypeId} {fz : Nat × Nat} {arr : Array Value} (vs : List Value) (hb : w.heap[b]? = some (.cells arr ty fz)) (hsz : off + vs.length ≤ arr.size) (hfz : ∀ i, i < arr.size → ¬ (fz.1 ≤ i ∧ i < fz.2)) (hone : ∀ v ∈ vs, v.oneCell' = true) :
    ∃ w' arr', (storeCells ⟨b, off, none⟩ vs).run G w = .ok () w' ∧ Wrote b arr' ty fz w w' ∧ arr'.toList = arr.toList.take off ++ vs ++ arr.toList.drop (off + vs.length) :=
  storeCells_run vs off arr w hb hsz hfz hone _ 0 rfl rfl rfl
theorem ones {cs : List AV} : ∀ {vs : List Value}, VRs E cs vs → allL scalarA cs = true → ∀ v ∈ vs, v.oneCell' = true := by
  induction cs with
  | nil => intro vs h _ v hv; cases h; cases hv
  | cons a cs ih =>
    intro vs h hall v hv
    obtain ⟨h1, h2⟩ := allL_cons hall
    cases h with
    | cons ha hs =>
      cases hv with
      | head => exact scalarA_ok ha h1
      | tail _ hv => exact ih hs h2 v hv
/-- a row of ours, written over: the abstract row follows -/
theorem wrote_mv {H : P → Option AObj} (hr : HR G W0 E H nx w) {l : P} {cs new : List AV} {ty : TypeId} {opn : Bool} (hl : H l = some (.cells cs ty opn)) {b c : Nat} {arr : Array Value} {fz : Nat × Nat} {pre rest vs : List Value} (e : E.ρ l = some (b, c))
    (hb : w.heap[b]? = some (.cells arr ty fz)) (hv : VRs E cs pre) (ha : arr.toList = pre ++ rest) (hop : opn = false → rest = []) (hc : opn = true → arr.size = c * G.cellsOf ty) (hf : Fz fz arr.size)
    {off : Nat} (hn : VRs E new vs) (hoff : off + vs.length ≤ pre.length) {w' : World} {arr' : Array Value} (hw : Wrote b arr' ty fz w w') (ha' : arr'.toList = arr.toList.take off ++ vs ++ arr.toList.drop (off + vs.length)) :
    Mv G W0 E H nx w E (upd H l (some (.cells (cs.take off ++ new ++ cs.drop (off + new.length)) ty opn))) nx w' := by
  have hlen := hn.length
  have hsz : arr'.size = arr.size := by
    have h1 := congrArg List.length ha'
    have h2 := congrArg List.length ha
    simp at h1 h2; omega
  refine Mv.set hr hl e (ob := .cells arr' ty fz) ?_ hw.size hw.at_ hw.other hw.os hw.tape hw.out
  refine .cells (pre := pre.take off ++ vs ++ pre.drop (off + vs.length)) (rest := rest) ?_ ?_ hop (fun h => by rw [hsz]; exact hc h) (by rw [hsz]; exact hf)
  · rw [hlen]; exact ((hv.take off).append hn).append (hv.drop _)
  · rw [ha', ha, List.take_append_of_le_length (by omega), List.drop_append_of_le_length (by omega)]
    simp
end
end Go.Ai
