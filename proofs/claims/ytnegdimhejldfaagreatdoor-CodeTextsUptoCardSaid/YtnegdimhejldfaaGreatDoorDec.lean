/- Numbers as text: plain laws. -/
import Derived.Lib.ItoaNum
import Derived.Lib.AtoiAll
import Derived.Lib.IndexMore
namespace Go.Proofs.YtnegdimhejldfaaGreatDoor.dec
open Go Go.Lib
set_option linter.unusedVariables false
theorem parse_append : ∀ (l1 l2 : List UInt8) (acc : Nat), parseUint10 acc (l1 ++ l2) = (match parseUint10 acc l1 with | .ok x => parseUint10 x l2 | .range => .range | e => e)
  | [], l2, acc => rfl
  | c :: r, l2, acc => by
    simp only [List.cons_append, parseUint10]
    split
    · split
      · rfl
      · split
        · rfl
        · exact parse_append r l2 _
    · rfl
theorem dig_nat (d : Nat) (h : d < 10) : (UInt8.ofNat (48 + d)).toNat = 48 + d := by
  simp only [UInt8.toNat_ofNat']
  omega
theorem parse_digits (u : Nat) : u < 18446744073709551616 → parseUint10 0 (decDigits u) = .ok u := by
  induction u using Nat.strongRecOn with
  | _ u ih =>
    intro hu
    rw [decDigits]
    split
    · rename_i h
      simp only [parseUint10, dig_nat u h]
      rw [if_pos (by omega), if_neg (by omega), if_neg (by omega)]
      congr 1
      omega
    · rename_i h
      rw [parse_append, ih (u / 10) (by omega) (by omega)]
      simp only [parseUint10, dig_nat (u % 10) (by omega)]
      rw [if_pos (by omega), if_neg (by omega), if_neg (by omega)]
      congr 1
      omega
theorem digits_mem (u : Nat) : ∀ c ∈ decDigits u, 48 ≤ c.toNat ∧ c.toNat ≤ 57 := by
  induction u using Nat.strongRecOn with
  | _ u ih =>
    intro c hc
    rw [decDigits] at hc
    split at hc
    · rename_i h
      simp only [List.mem_singleton] at hc
      subst hc
      rw [dig_nat u h]
      omega
    · rename_i h
      rcases List.mem_append.1 hc with hc | hc
      · exact ih (u / 10) (by omega) c hc
      · simp only [List.mem_singleton] at hc
        subst hc
        rw [dig_nat (u % 10) (by omega)]
        omega
theorem digits_ne (u : Nat) : decDigits u ≠ [] := by
  rw [decDigits]
  split
  · simp
  · simp
theorem digits_cons (u : Nat) : ∃ c r, decDigits u = c :: r ∧ 48 ≤ c.toNat ∧ c.toNat ≤ 57 := by
  cases h : decDigits u with
  | nil => exact absurd h (digits_ne u)
  | cons c r => exact ⟨c, r, rfl, digits_mem u c (by rw [h]; exact List.mem_cons_self ..)⟩
theorem itoa_ne (n : Int) : itoa n ≠ [] := by
  unfold itoa
  split
  · simp
  · exact digits_ne _
theorem atoiAll_cons (c : UInt8) (r : List UInt8) (u : Nat) (h : parseMag (if c.toNat = 43 ∨ c.toNat = 45 then r else c :: r) = .ok u) :
    atoiAll (c :: r) = if ¬ c.toNat = 45 ∧ 9223372036854775808 ≤ u then .range else if c.toNat = 45 ∧ 9223372036854775808 < u then .range else .ok (if c.toNat = 45 then -(u : Int) else u) := by
  simp only [atoiAll, h]
/-- what is written is read -/
theorem atoi_itoa (n : Int) (h0 : -9223372036854775808 ≤ n) (h1 : n ≤ 9223372036854775807) : atoiAll (itoa n) = .ok n := by
  by_cases hn : n < 0
  · have e : itoa n = 45 :: decDigits n.natAbs := by unfold itoa; rw [if_pos hn]
    rw [e]
    have hp : parseMag (decDigits n.natAbs) = .ok n.natAbs := by
      unfold parseMag
      rw [if_neg (digits_ne _), parse_digits _ (by omega)]
    rw [atoiAll_cons 45 _ n.natAbs (by rw [if_pos (.inr (by decide)), hp])]
    rw [if_neg (by simp), if_neg (by omega), if_pos (by decide)]
    congr 1
    omega
  · have e : itoa n = decDigits n.toNat := by unfold itoa; rw [if_neg hn]
    rw [e]
    obtain ⟨c, r, hc, h2, h3⟩ := digits_cons n.toNat
    have hp : parseMag (decDigits n.toNat) = .ok n.toNat := by
      unfold parseMag
      rw [if_neg (digits_ne _), parse_digits _ (by omega)]
    rw [hc] at hp ⊢
    rw [atoiAll_cons c r n.toNat (by rw [if_neg (by omega), hp])]
    rw [if_neg (by omega), if_neg (by omega), if_neg (by omega)]
    congr 1
    omega
theorem itoa_mem (n : Int) : ∀ c ∈ itoa n, c.toNat ≠ 32 ∧ c.toNat ≠ 10 := by
  intro c hc
  unfold itoa at hc
  split at hc
  · rcases List.mem_cons.1 hc with rfl | hc
    · decide
    · have := digits_mem _ c hc; omega
  · have := digits_mem _ c hc; omega
theorem index_cons1 (b c : UInt8) (l : List UInt8) : index (b :: l) [c] = if b = c then 0 else if index l [c] = -1 then -1 else index l [c] + 1 := by
  have e : [c].isPrefixOf (b :: l) = decide (c = b) := by simp [List.isPrefixOf]; rfl
  show (if [c].isPrefixOf (b :: l) then (0 : Int) else if (index l [c] == -1) then -1 else index l [c] + 1) = _
  rw [e]
  by_cases h : b = c
  · subst h; simp
  · have h' : ¬ c = b := fun e => h e.symm
    rw [if_neg h, if_neg (by simpa using h')]
    by_cases g : index l [c] = -1
    · rw [if_pos g, if_pos (by simpa using g)]
    · rw [if_neg g, if_neg (by simpa using g)]
theorem index_none1 (c : UInt8) : ∀ l : List UInt8, (∀ x ∈ l, x ≠ c) → index l [c] = -1
  | [], _ => rfl
  | b :: l, h => by rw [index_cons1, if_neg (h b (List.mem_cons_self ..)), index_none1 c l (fun x hx => h x (List.mem_cons_of_mem _ hx)), if_pos rfl]
theorem index_at1 (c : UInt8) (r : List UInt8) : ∀ l : List UInt8, (∀ x ∈ l, x ≠ c) → index (l ++ c :: r) [c] = l.length
  | [], _ => by simp [index_cons1]
  | b :: l, h => by
    have e := index_at1 c r l (fun x hx => h x (List.mem_cons_of_mem _ hx))
    rw [List.cons_append, index_cons1, if_neg (h b (List.mem_cons_self ..)), e, if_neg (by omega)]
    simp
theorem cut_none (c : UInt8) (l : List UInt8) (h : ∀ x ∈ l, x ≠ c) : cut l [c] = (l, [], false) := by
  unfold cut
  rw [index_none1 c l h]
  rfl
theorem cut_at (c : UInt8) (l r : List UInt8) (h : ∀ x ∈ l, x ≠ c) : cut (l ++ c :: r) [c] = (l, r, true) := by
  unfold cut
  rw [index_at1 c r l h, if_pos (by omega)]
  simp
/-- any text: cut at its first one, or without one -/
theorem cut_cases (c : UInt8) : ∀ s : List UInt8, (∀ x ∈ s, x ≠ c) ∨ ∃ l r, s = l ++ c :: r ∧ ∀ x ∈ l, x ≠ c
  | [] => .inl (fun x h => by cases h)
  | b :: s => by
    by_cases hb : b = c
    · subst hb; exact .inr ⟨[], s, rfl, fun x h => by cases h⟩
    · rcases cut_cases c s with h | ⟨l, r, rfl, h⟩
      · refine .inl (fun x hx => ?_)
        rcases List.mem_cons.1 hx with rfl | hx
        · exact hb
        · exact h x hx
      · refine .inr ⟨b :: l, r, rfl, fun x hx => ?_⟩
        rcases List.mem_cons.1 hx with rfl | hx
        · exact hb
        · exact h x hx
end Go.Proofs.YtnegdimhejldfaaGreatDoor.dec
