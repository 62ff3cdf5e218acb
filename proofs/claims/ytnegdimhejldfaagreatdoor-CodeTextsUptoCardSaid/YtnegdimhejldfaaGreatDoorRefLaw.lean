/- The document's parse of an instruction is the program's: plain laws. -/
import Derived.Test.YtnegdimhejldfaaGreatDoorWhole
namespace Go.Proofs.YtnegdimhejldfaaGreatDoor.dec
open Go Go.Lib
set_option linter.unusedVariables false
/-- a text cut at each blank -/
def wordsOf : List UInt8 → List (List UInt8)
  | [] => [[]]
  | c :: r => if c = 32 then [] :: wordsOf r else match wordsOf r with | [] => [[c]] | w :: ws => (c :: w) :: ws
def ar (op : Nat) : Nat := if ka op = 0 then 0 else if kb op = 0 then 1 else 2
/-- the document's -/
def refAt (ws : List (List UInt8)) (op : Nat) : Ps :=
  if ws.length ≠ 1 + ar op then .args
  else if op = 8 then (match opers.idxOf? (ws.getD 1 []) with | some i => .ok op (i : Nat) 0 | none => .args)
  else if (1 < ws.length → (whole (ws.getD 1 [])).2 = true) ∧ (2 < ws.length → (whole (ws.getD 2 [])).2 = true)
    then .ok op (if 1 < ws.length then (whole (ws.getD 1 [])).1 else 0) (if 2 < ws.length then (whole (ws.getD 2 [])).1 else 0) else .args
def refParse (s : List UInt8) : Ps := match words.idxOf? ((wordsOf s).getD 0 []) with
  | none => .op
  | some op => refAt (wordsOf s) op
theorem wordsOf_plain : ∀ l : List UInt8, (∀ x ∈ l, x ≠ 32) → wordsOf l = [l]
  | [], _ => rfl
  | c :: r, h => by
    simp only [wordsOf]
    rw [if_neg (h c (List.mem_cons_self ..)), wordsOf_plain r (fun x hx => h x (List.mem_cons_of_mem _ hx))]
theorem wordsOf_at : ∀ (l r : List UInt8), (∀ x ∈ l, x ≠ 32) → wordsOf (l ++ 32 :: r) = l :: wordsOf r
  | [], r, _ => by simp [wordsOf]
  | c :: l, r, h => by
    rw [List.cons_append]
    simp only [wordsOf]
    rw [if_neg (h c (List.mem_cons_self ..)), wordsOf_at l r (fun x hx => h x (List.mem_cons_of_mem _ hx))]
theorem wordsOf_ne (s : List UInt8) : wordsOf s ≠ [] := by
  cases s with
  | nil => simp [wordsOf]
  | cons c r =>
    simp only [wordsOf]
    split
    · simp
    · split <;> simp
/-- the words put together again -/
theorem wordsOf_join : ∀ (s : List UInt8) (ws : List (List UInt8)), wordsOf s = ws → (∀ a, ws = [a] → s = a) ∧ (∀ a b, ws = [a, b] → s = a ++ 32 :: b) ∧ (∀ a b c, ws = [a, b, c] → s = a ++ 32 :: (b ++ 32 :: c)) := by
  intro s ws h
  subst h
  rcases cut_cases 32 s with h1 | ⟨l, r, rfl, h1⟩
  · rw [wordsOf_plain s h1]
    refine ⟨fun a h => (List.cons.inj h).1, fun a b h => ?_, fun a b c h => ?_⟩
    · simp at h
    · simp at h
  · rw [wordsOf_at l r h1]
    rcases cut_cases 32 r with h2 | ⟨l2, r2, rfl, h2⟩
    · rw [wordsOf_plain r h2]
      refine ⟨fun a h => ?_, fun a b h => ?_, fun a b c h => ?_⟩
      · simp at h
      · simp at h; rw [h.1, h.2]
      · simp at h
    · rw [wordsOf_at l2 r2 h2]
      rcases cut_cases 32 r2 with h3 | ⟨l3, r3, rfl, h3⟩
      · rw [wordsOf_plain r2 h3]
        refine ⟨fun a h => ?_, fun a b h => ?_, fun a b c h => ?_⟩
        · simp at h
        · simp at h
        · simp at h; rw [h.1, h.2.1, h.2.2]
      · rw [wordsOf_at l3 r3 h3]
        refine ⟨fun a h => ?_, fun a b h => ?_, fun a b c h => ?_⟩
        · simp at h
        · simp at h
        · simp at h
          exact absurd h.2.2.2 (wordsOf_ne r3)
theorem word0 (s : List UInt8) : (wordsOf s).getD 0 [] = (cut s [32]).1 := by
  rcases cut_cases 32 s with h1 | ⟨l, r, rfl, h1⟩
  · rw [wordsOf_plain s h1, cut_none 32 s h1]; rfl
  · rw [wordsOf_at l r h1, cut_at 32 l r h1]; rfl
def nA (op : Nat) (A : Int) : Int := if ka op = 0 then 0 else A
def nB (op : Nat) (B : Int) : Int := if kb op = 0 then 0 else B
theorem ka_8 : ∀ op, op < 47 → (ka op = 3 ↔ op = 8) := by decide
theorem kb_ka : ∀ op, op < 47 → ka op = 0 → kb op = 0 := by decide
/-- an instruction's text is read so, by both -/
theorem parse_txt (op : Nat) (hop : op < 47) (a b : Int) (ha : -9223372036854775808 ≤ a ∧ a ≤ 9223372036854775807) (hb : -9223372036854775808 ≤ b ∧ b ≤ 9223372036854775807) (s : List UInt8) (h : txt op a b = some s) :
    parse s = .ok op (nA op a) (nB op b) ∧ refParse s = .ok op (nA op a) (nB op b) := by
  have w1 := plain_ne (words_plain op hop)
  have w2 := words_find op hop
  unfold refParse
  by_cases k0 : ka op = 0
  · have kb0 := kb_ka op hop k0
    have k8 : op ≠ 8 := fun e => by subst e; exact absurd k0 (by decide)
    have hs : s = nm op := by unfold txt at h; rw [if_pos k0] at h; exact (Option.some.inj h).symm
    subst hs
    have har : ar op = 0 := by unfold ar; rw [if_pos k0]
    constructor
    · unfold parse parseAt nA nB
      rw [cut_none 32 _ w1, if_pos k0, if_pos kb0]
      simp only [w2, outOf, Bool.false_eq_true, if_false]
      rw [if_pos ⟨trivial, by unfold txt; rw [if_pos k0]⟩]
    · rw [wordsOf_plain _ w1]
      show (match words.idxOf? (nm op) with | none => Ps.op | some op => refAt [nm op] op) = _
      unfold nA nB
      rw [w2, if_pos k0, if_pos kb0]
      simp only [refAt, har, List.length_singleton]
      rw [if_neg (by omega), if_neg k8, if_pos ⟨fun h => absurd h (by omega), fun h => absurd h (by omega)⟩, if_neg (by omega), if_neg (by omega)]
  · by_cases k3 : ka op = 3
    · obtain rfl := (ka_8 op hop).1 k3
      unfold txt at h
      rw [if_neg k0, if_pos k3] at h
      split at h
      · rename_i hr
        have hs := (Option.some.inj h).symm
        subst hs
        have o1 := plain_ne (opers_plain a.toNat (by omega))
        have o2 := opers_find a.toNat (by omega)
        have o3 : ((a.toNat : Nat) : Int) = a := by omega
        constructor
        · unfold parse parseAt nA nB
          rw [cut_at 32 _ _ w1, if_neg k0, if_pos (show kb 8 = 0 by decide)]
          simp only [w2, outOf, if_true]
          rw [cut_none 32 (opw a) o1]
          simp only [opd, k3, if_true, show opers.idxOf? (opw a) = some a.toNat from o2, o3, Bool.false_and, Bool.false_eq_true, if_false]
          rw [if_pos ⟨trivial, by unfold txt; rw [if_neg k0, if_pos k3, if_pos hr]⟩]
        · rw [wordsOf_at _ _ w1, wordsOf_plain (opw a) o1]
          show (match words.idxOf? (nm 8) with | none => Ps.op | some op => refAt [nm 8, opw a] op) = _
          unfold nA nB
          rw [w2, if_neg k0, if_pos (show kb 8 = 0 by decide)]
          simp only [refAt]
          rw [if_neg (show ¬ ([nm 8, opw a].length ≠ 1 + ar 8) from by show ¬ (2 ≠ 1 + ar 8); decide), if_pos trivial]
          show (match opers.idxOf? (opw a) with | some i => Ps.ok 8 (i : Nat) 0 | none => .args) = _
          rw [show opers.idxOf? (opw a) = some a.toNat from o2]
          simp only [o3]
      · cases h
    · have k8 : op ≠ 8 := fun e => k3 ((ka_8 op hop).2 e)
      have i1 := itoa_ne32 a
      have i2 := atoi_itoa a ha.1 ha.2
      have i3 := whole_itoa a ha.1 ha.2
      by_cases kb0 : kb op = 0
      · have hs : s = nm op ++ 32 :: itoa a := by unfold txt at h; rw [if_neg k0, if_neg k3, if_pos kb0] at h; exact (Option.some.inj h).symm
        subst hs
        have har : ar op = 1 := by unfold ar; rw [if_neg k0, if_pos kb0]
        constructor
        · unfold parse parseAt nA nB
          rw [cut_at 32 _ _ w1, if_neg k0, if_pos kb0]
          simp only [w2, outOf, if_true]
          rw [cut_none 32 (itoa a) i1]
          simp only [opd, if_neg k3, i2, Bool.false_and, Bool.false_eq_true, if_false]
          rw [if_pos ⟨trivial, by unfold txt; rw [if_neg k0, if_neg k3, if_pos kb0]⟩]
        · rw [wordsOf_at _ _ w1, wordsOf_plain _ i1]
          show (match words.idxOf? (nm op) with | none => Ps.op | some op => refAt [nm op, itoa a] op) = _
          unfold nA nB
          rw [w2, if_neg k0, if_pos kb0]
          simp only [refAt, har]
          rw [if_neg (by simp), if_neg k8]
          have g0 : whole ([nm op, itoa a].getD 1 []) = (a, true) := i3
          rw [if_pos ⟨fun _ => by rw [g0], fun h => absurd h (by simp)⟩, if_pos (by simp), if_neg (by simp), g0]
      · have kb3 := kb_ne3 op hop
        have j1 := itoa_ne32 b
        have j2 := atoi_itoa b hb.1 hb.2
        have j3 := whole_itoa b hb.1 hb.2
        have hs : s = nm op ++ 32 :: (itoa a ++ 32 :: itoa b) := by unfold txt at h; rw [if_neg k0, if_neg k3, if_neg kb0] at h; exact (Option.some.inj h).symm
        subst hs
        have har : ar op = 2 := by unfold ar; rw [if_neg k0, if_neg kb0]
        constructor
        · unfold parse parseAt nA nB
          rw [cut_at 32 _ _ w1, if_neg k0, if_neg kb0]
          simp only [w2, outOf, if_true]
          rw [cut_at 32 (itoa a) (itoa b) i1]
          simp only [opd, if_neg k3, if_neg kb3, i2, j2, Bool.true_and, if_true]
          rw [if_pos ⟨trivial, by unfold txt; rw [if_neg k0, if_neg k3, if_neg kb0]⟩]
        · rw [wordsOf_at _ _ w1, wordsOf_at _ _ i1, wordsOf_plain _ j1]
          show (match words.idxOf? (nm op) with | none => Ps.op | some op => refAt [nm op, itoa a, itoa b] op) = _
          unfold nA nB
          rw [w2, if_neg k0, if_neg kb0]
          simp only [refAt, har]
          rw [if_neg (by simp), if_neg k8]
          have g0 : whole ([nm op, itoa a, itoa b].getD 1 []) = (a, true) := i3
          have g1 : whole ([nm op, itoa a, itoa b].getD 2 []) = (b, true) := j3
          rw [if_pos ⟨fun _ => by rw [g0], fun _ => by rw [g1]⟩, if_pos (by simp), if_pos (by simp), g0, g1]
theorem find_some {x : List UInt8} {op : Nat} (h : words.idxOf? x = some op) : op < 47 ∧ nm op = x := by
  have h1 := List.idxOf?_eq_some_iff.1 h
  obtain ⟨h2, h3, _⟩ := h1
  refine ⟨h2, ?_⟩
  unfold nm
  rw [List.getD_eq_getElem?_getD, List.getElem?_eq_getElem h2]
  simpa using h3
theorem operFind_some {x : List UInt8} {i : Nat} (h : opers.idxOf? x = some i) : i < 12 ∧ opers.getD i [] = x := by
  have h1 := List.idxOf?_eq_some_iff.1 h
  obtain ⟨h2, h3, _⟩ := h1
  refine ⟨h2, ?_⟩
  rw [List.getD_eq_getElem?_getD, List.getElem?_eq_getElem h2]
  simpa using h3
theorem atoi_in {x : List UInt8} {v : Int} (h : atoiAll x = .ok v) : -9223372036854775808 ≤ v ∧ v ≤ 9223372036854775807 := by
  unfold atoiAll at h
  split at h
  · cases h
  · simp only at h
    split at h
    · cases h
    · cases h
    · split at h
      · cases h
      · split at h
        · cases h
        · injection h with h
          subst h
          split <;> omega
theorem opd_in {k : Nat} {x : List UInt8} (h : (opd k x).2 = true) : -9223372036854775808 ≤ (opd k x).1 ∧ (opd k x).1 ≤ 9223372036854775807 := by
  unfold opd at h ⊢
  split
  · rename_i hk
    rw [if_pos hk] at h
    cases e : opers.idxOf? x with
    | none => rw [e] at h; cases h
    | some i => have := (operFind_some e).1; show _ ≤ (i : Int) ∧ (i : Int) ≤ _; omega
  · rename_i hk
    rw [if_neg hk] at h
    cases e : atoiAll x with
    | ok v => exact atoi_in e
    | range => rw [e] at h; cases h
    | _ => rw [e] at h; cases h
theorem len_two {α : Type} : ∀ {l : List α}, l.length = 2 → ∃ a b, l = [a, b]
  | [a, b], _ => ⟨a, b, rfl⟩
theorem len_three {α : Type} : ∀ {l : List α}, l.length = 3 → ∃ a b c, l = [a, b, c]
  | [a, b, c], _ => ⟨a, b, c, rfl⟩
/-- both read the same -/
theorem refParse_eq (s : List UInt8) : refParse s = parse s := by
  have hw := word0 s
  cases hf : words.idxOf? (cut s [32]).1 with
  | none => unfold refParse parse; rw [hw, hf]
  | some op =>
    obtain ⟨hop, hnm⟩ := find_some hf
    have e1 : refParse s = refAt (wordsOf s) op := by unfold refParse; rw [hw, hf]
    have e2 : parse s = parseAt s op := by unfold parse; rw [hf]
    have all : ∀ a b, (-9223372036854775808 ≤ a ∧ a ≤ 9223372036854775807) → (-9223372036854775808 ≤ b ∧ b ≤ 9223372036854775807) → txt op a b = some s → refParse s = parse s := fun a b ha hb h => by
      obtain ⟨k1, k2⟩ := parse_txt op hop a b ha hb s h
      rw [k1, k2]
    by_cases hp : (outOf op (cut s [32]).2.2 (cut s [32]).2.1).2.2 = true ∧ txt op (outOf op (cut s [32]).2.2 (cut s [32]).2.1).1 (outOf op (cut s [32]).2.2 (cut s [32]).2.1).2.1 = some s
    · refine all _ _ ?_ ?_ hp.2
      · have hp1 := hp.1
        unfold outOf at hp1 ⊢
        split
        · rename_i hm
          rw [if_pos hm] at hp1
          split
          · rename_i hb; simp at hb; exact opd_in hb.2
          · rename_i hb; rw [if_neg hb] at hp1; exact opd_in hp1
        · show (_ : Int) ≤ 0 ∧ (0 : Int) ≤ _; omega
      · have hp1 := hp.1
        unfold outOf at hp1 ⊢
        split
        · rename_i hm
          rw [if_pos hm] at hp1
          split
          · rename_i hb; rw [if_pos hb] at hp1; exact opd_in hp1
          · show (_ : Int) ≤ 0 ∧ (0 : Int) ≤ _; omega
        · show (_ : Int) ≤ 0 ∧ (0 : Int) ≤ _; omega
    · have e3 : parseAt s op = .args := by unfold parseAt; rw [if_neg hp]
      -- what the document reads has that text
      have hj := wordsOf_join s _ rfl
      by_cases hl : (wordsOf s).length = 1 + ar op
      · have h0 : (wordsOf s).getD 0 [] = nm op := by rw [hw, hnm]
        by_cases k0 : ka op = 0
        · have har : ar op = 0 := by unfold ar; rw [if_pos k0]
          obtain ⟨a, ha⟩ : ∃ a, wordsOf s = [a] := List.length_eq_one_iff.1 (by omega)
          rw [ha] at h0
          have hs := hj.1 a ha
          have h0 : a = nm op := h0
          exact all 0 0 (by omega) (by omega) (by unfold txt; rw [if_pos k0, hs, h0])
        · by_cases k3 : ka op = 3
          · obtain rfl := (ka_8 op hop).1 k3
            obtain ⟨a, b, ha⟩ : ∃ a b, wordsOf s = [a, b] := len_two (by rw [hl]; decide)
            rw [ha] at h0
            have h0 : a = nm 8 := h0
            have hs := hj.2.1 a b ha
            cases hi : opers.idxOf? b with
            | none =>
              rw [e1, e2, e3, ha]
              simp only [refAt]
              rw [if_neg (show ¬ ([a, b].length ≠ 1 + ar 8) from by show ¬ (2 ≠ 1 + ar 8); decide), if_pos trivial]
              show (match opers.idxOf? b with | some i => Ps.ok 8 (i : Nat) 0 | none => .args) = _
              rw [hi]
            | some i =>
              obtain ⟨q1, q2⟩ := operFind_some hi
              refine all (i : Nat) 0 (by omega) (by omega) ?_
              unfold txt
              rw [if_neg k0, if_pos k3, if_pos (by omega), hs, h0]
              congr 3
          · have k8 : op ≠ 8 := fun e => k3 ((ka_8 op hop).2 e)
            by_cases kb0 : kb op = 0
            · have har : ar op = 1 := by unfold ar; rw [if_neg k0, if_pos kb0]
              obtain ⟨a, b, ha⟩ : ∃ a b, wordsOf s = [a, b] := len_two (by omega)
              rw [ha] at h0
              have h0 : a = nm op := h0
              have hs := hj.2.1 a b ha
              cases hb : (whole b).2 with
              | true =>
                obtain ⟨q1, q2, q3⟩ := whole_only b (whole b).1 (by rw [← hb])
                refine all (whole b).1 0 ⟨q2, q3⟩ (by omega) ?_
                unfold txt
                rw [if_neg k0, if_neg k3, if_pos kb0, hs, h0, ← q1]
              | false =>
                rw [e1, e2, e3, ha]
                simp only [refAt, har]
                rw [if_neg (by simp), if_neg k8, if_neg]
                rintro ⟨g, _⟩
                have g : (whole b).2 = true := g (by simp)
                rw [hb] at g; cases g
            · have har : ar op = 2 := by unfold ar; rw [if_neg k0, if_neg kb0]
              obtain ⟨a, b, c, ha⟩ : ∃ a b c, wordsOf s = [a, b, c] := len_three (by omega)
              rw [ha] at h0
              have h0 : a = nm op := h0
              have hs := hj.2.2 a b c ha
              cases hb : (whole b).2 with
              | true =>
                cases hc : (whole c).2 with
                | true =>
                  obtain ⟨q1, q2, q3⟩ := whole_only b (whole b).1 (by rw [← hb])
                  obtain ⟨p1, p2, p3⟩ := whole_only c (whole c).1 (by rw [← hc])
                  refine all (whole b).1 (whole c).1 ⟨q2, q3⟩ ⟨p2, p3⟩ ?_
                  unfold txt
                  rw [if_neg k0, if_neg k3, if_neg kb0, hs, h0, ← q1, ← p1]
                | false =>
                  rw [e1, e2, e3, ha]
                  simp only [refAt, har]
                  rw [if_neg (by simp), if_neg k8, if_neg]
                  rintro ⟨_, g⟩
                  have g : (whole c).2 = true := g (by simp)
                  rw [hc] at g; cases g
              | false =>
                rw [e1, e2, e3, ha]
                simp only [refAt, har]
                rw [if_neg (by simp), if_neg k8, if_neg]
                rintro ⟨g, _⟩
                have g : (whole b).2 = true := g (by simp)
                rw [hb] at g; cases g
      · rw [e1, e2, e3]
        unfold refAt
        rw [if_pos hl]
end Go.Proofs.YtnegdimhejldfaaGreatDoor.dec
