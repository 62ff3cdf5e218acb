/- Numbers as they must be written; texts cut at each blank; the document's parse of an instruction is the program's: plain laws. -/
import Derived.Test.YtnegdimhejldfaaGreatDoorCodeLaw
namespace Go.Proofs.YtnegdimhejldfaaGreatDoor.dec
open Go Go.Lib
set_option linter.unusedVariables false
/-! ### numbers -/
def digs : List UInt8 → Int → Option Int
  | [], x => some x
  | c :: r, x => if c.toNat < 48 ∨ 57 < c.toNat then none else if x < Int.tdiv (-9223372036854775808 + ((c.toNat : Int) - 48)) 10 then none else digs r (10 * x - ((c.toNat : Int) - 48))
def whole (s : List UInt8) : Int × Bool :=
  if (if s.head? = some 45 then s.drop 1 else s) = [] ∨ 19 < (if s.head? = some 45 then s.drop 1 else s).length ∨ ((if s.head? = some 45 then s.drop 1 else s).head? = some 48 ∧ (1 < (if s.head? = some 45 then s.drop 1 else s).length ∨ s.head? = some 45)) then (0, false)
  else match digs (if s.head? = some 45 then s.drop 1 else s) 0 with
    | none => (0, false)
    | some x => if s.head? = some 45 then (x, true) else if x = -9223372036854775808 then (0, false) else (-x, true)
def val (t : List UInt8) : Nat := t.foldl (fun a c => a * 10 + (c.toNat - 48)) 0
theorem val_snoc (t : List UInt8) (c : UInt8) : val (t ++ [c]) = val t * 10 + (c.toNat - 48) := by unfold val; rw [List.foldl_append]; rfl
theorem digs_append : ∀ (l1 l2 : List UInt8) (x : Int), digs (l1 ++ l2) x = (digs l1 x).bind (digs l2)
  | [], l2, x => rfl
  | c :: r, l2, x => by
    simp only [List.cons_append, digs]
    split
    · rfl
    · split
      · rfl
      · exact digs_append r l2 _
/-- digits one by one: what they come to -/
theorem digs_snoc (t : List UInt8) (c : UInt8) (x : Int) : digs (t ++ [c]) 0 = some x ↔ ∃ y, digs t 0 = some y ∧ 48 ≤ c.toNat ∧ c.toNat ≤ 57 ∧ ¬ y < Int.tdiv (-9223372036854775808 + ((c.toNat : Int) - 48)) 10 ∧ x = 10 * y - ((c.toNat : Int) - 48) := by
  rw [digs_append]
  constructor
  · intro h
    cases hy : digs t 0 with
    | none => rw [hy] at h; cases h
    | some y =>
      rw [hy] at h
      simp only [Option.bind, digs] at h
      split at h
      · cases h
      · split at h
        · cases h
        · refine ⟨y, rfl, by omega, by omega, by assumption, (Option.some.inj h).symm⟩
  · rintro ⟨y, hy, h1, h2, h3, rfl⟩
    rw [hy]
    simp only [Option.bind, digs]
    rw [if_neg (by omega), if_neg h3]
theorem digs_val (n : Nat) : ∀ (t : List UInt8) (x : Int), t.length = n → digs t 0 = some x → x = -(val t : Int) ∧ val t ≤ 9223372036854775808 ∧ ∀ c ∈ t, 48 ≤ c.toNat ∧ c.toNat ≤ 57 := by
  induction n with
  | zero =>
    intro t x ht h
    obtain rfl := List.eq_nil_of_length_eq_zero ht
    cases h
    exact ⟨rfl, by decide, fun c hc => by cases hc⟩
  | succ n ih =>
    intro t x ht h
    have hne : t ≠ [] := fun e => by subst e; simp at ht
    obtain ⟨l, c, rfl⟩ : ∃ l c, t = l ++ [c] := ⟨t.dropLast, t.getLast hne, (List.dropLast_concat_getLast hne).symm⟩
    obtain ⟨y, hy, h1, h2, h3, rfl⟩ := (digs_snoc l c x).1 h
    obtain ⟨rfl, k2, k3⟩ := ih l y (by simpa using ht) hy
    rw [val_snoc]
    have h4 : Int.tdiv (-9223372036854775808 + ((c.toNat : Int) - 48)) 10 = -((9223372036854775808 - ((c.toNat : Int) - 48)) / 10) := by
      rw [show (-9223372036854775808 + ((c.toNat : Int) - 48)) = -(9223372036854775808 - ((c.toNat : Int) - 48)) by omega, Int.neg_tdiv, Int.tdiv_eq_ediv_of_nonneg (by omega)]
    rw [h4] at h3
    refine ⟨by omega, by omega, fun d hd => ?_⟩
    rcases List.mem_append.1 hd with hd | hd
    · exact k3 d hd
    · simp only [List.mem_singleton] at hd
      subst hd
      exact ⟨h1, h2⟩
theorem digs_dec (u : Nat) : u ≤ 9223372036854775808 → digs (decDigits u) 0 = some (-(u : Int)) := by
  induction u using Nat.strongRecOn with
  | _ u ih =>
    intro hu
    rw [decDigits]
    split
    · rename_i h
      simp only [digs, dig_nat u h]
      have h4 : Int.tdiv (-9223372036854775808 + (((48 + u : Nat) : Int) - 48)) 10 = -((9223372036854775808 - (u : Int)) / 10) := by
        rw [show (-9223372036854775808 + (((48 + u : Nat) : Int) - 48)) = -(9223372036854775808 - (u : Int)) by omega, Int.neg_tdiv, Int.tdiv_eq_ediv_of_nonneg (by omega)]
      rw [if_neg (by omega), h4, if_neg (by omega)]
      congr 1
      omega
    · rename_i h
      rw [digs_append, ih (u / 10) (by omega) (by omega)]
      simp only [Option.bind, digs, dig_nat (u % 10) (by omega)]
      have h4 : Int.tdiv (-9223372036854775808 + (((48 + u % 10 : Nat) : Int) - 48)) 10 = -((9223372036854775808 - ((u % 10 : Nat) : Int)) / 10) := by
        rw [show (-9223372036854775808 + (((48 + u % 10 : Nat) : Int) - 48)) = -(9223372036854775808 - ((u % 10 : Nat) : Int)) by omega, Int.neg_tdiv, Int.tdiv_eq_ediv_of_nonneg (by omega)]
      rw [if_neg (by omega), h4, if_neg (by omega)]
      congr 1
      omega
theorem dec_len (k : Nat) : ∀ u, u < 10 ^ k → 1 ≤ k → (decDigits u).length ≤ k := by
  induction k with
  | zero => intro u _ h; omega
  | succ k ih =>
    intro u hu _
    rw [decDigits]
    split
    · simp
    · rename_i h
      have h1 : 1 ≤ k := by
        cases k with
        | zero => simp at hu; omega
        | succ k => omega
      have := ih (u / 10) (by rw [Nat.pow_succ] at hu; omega) h1
      simp
      exact this
theorem dec_head (u : Nat) : (decDigits u).head? = some 48 → u = 0 := by
  induction u using Nat.strongRecOn with
  | _ u ih =>
    intro h
    rw [decDigits] at h
    split at h
    · rename_i hu
      have h1 := Option.some.inj h
      have h2 := congrArg UInt8.toNat h1
      rw [dig_nat u hu] at h2
      have : (48 : UInt8).toNat = 48 := by decide
      omega
    · rename_i hu
      rw [List.head?_append] at h
      obtain ⟨c, r, hc, _⟩ := digits_cons (u / 10)
      rw [hc] at h
      have := ih (u / 10) (by omega) (by rw [hc]; exact h)
      omega
/-- digits without a nought ahead are the numeral of what they come to -/
theorem canon (n : Nat) : ∀ t : List UInt8, t.length = n → t ≠ [] → (∀ c ∈ t, 48 ≤ c.toNat ∧ c.toNat ≤ 57) → (t.head? = some 48 → t.length = 1) → t = decDigits (val t) ∧ (t.head? ≠ some 48 → 1 ≤ val t) := by
  induction n with
  | zero => intro t ht hne; exact absurd (List.eq_nil_of_length_eq_zero ht) hne
  | succ n ih =>
    intro t ht hne hd h0
    obtain ⟨l, c, rfl⟩ : ∃ l c, t = l ++ [c] := ⟨t.dropLast, t.getLast hne, (List.dropLast_concat_getLast hne).symm⟩
    have hc := hd c (by simp)
    have ec : UInt8.ofNat (48 + (c.toNat - 48)) = c := by
      apply UInt8.toNat_inj.1
      rw [dig_nat (c.toNat - 48) (by omega)]
      omega
    by_cases hl : l = []
    · subst hl
      have hv : val ([] ++ [c]) = c.toNat - 48 := by rw [val_snoc]; show 0 * 10 + _ = _; omega
      rw [hv, decDigits, dif_pos (by omega), ec]
      refine ⟨rfl, fun h => ?_⟩
      have : c.toNat ≠ 48 := fun e => h (by
        show some c = some 48
        congr 1
        exact UInt8.toNat_inj.1 (by rw [e]; decide))
      omega
    · have hh : l.head? = (l ++ [c]).head? := by
        obtain ⟨a, r, rfl⟩ := List.exists_cons_of_ne_nil hl
        rfl
      have hlen : 1 ≤ l.length := by
        obtain ⟨a, r, rfl⟩ := List.exists_cons_of_ne_nil hl
        simp
      have hn48 : l.head? ≠ some 48 := fun e => by
        have := h0 (hh ▸ e)
        rw [List.length_append] at this
        simp only [List.length_singleton] at this
        omega
      obtain ⟨k1, k2⟩ := ih l (by simpa using ht) hl (fun d hd' => hd d (by simp [hd'])) (fun e => absurd e hn48)
      have k3 := k2 hn48
      rw [val_snoc, decDigits, dif_neg (by omega), show (val l * 10 + (c.toNat - 48)) / 10 = val l by omega, show (val l * 10 + (c.toNat - 48)) % 10 = c.toNat - 48 by omega, ← k1, ec]
      exact ⟨rfl, fun _ => by omega⟩
theorem dec_head45 (u : Nat) : (decDigits u).head? ≠ some 45 := by
  obtain ⟨c, r, hc, h1, _⟩ := digits_cons u
  rw [hc]
  intro h
  have h2 := Option.some.inj h
  subst h2
  exact absurd h1 (by decide)
theorem whole_itoa (x : Int) (h0 : -9223372036854775808 ≤ x) (h1 : x ≤ 9223372036854775807) : whole (itoa x) = (x, true) := by
  by_cases hn : x < 0
  · have e : itoa x = 45 :: decDigits x.natAbs := by unfold itoa; rw [if_pos hn]
    rw [e]
    unfold whole
    simp only [List.head?_cons, if_true, List.drop_succ_cons, List.drop_zero]
    have hl := dec_len 19 x.natAbs (by rw [show (10 : Nat) ^ 19 = 10000000000000000000 from by decide]; omega) (by decide)
    rw [if_neg (by
      rintro (h | h | ⟨h, _⟩)
      · exact digits_ne _ h
      · omega
      · have := dec_head _ h; omega), digs_dec _ (by omega)]
    simp only []
    congr 1
    omega
  · have e : itoa x = decDigits x.toNat := by unfold itoa; rw [if_neg hn]
    rw [e]
    have h45 := dec_head45 x.toNat
    unfold whole
    simp only [if_neg h45]
    have hl := dec_len 19 x.toNat (by rw [show (10 : Nat) ^ 19 = 10000000000000000000 from by decide]; omega) (by decide)
    rw [if_neg (by
      rintro (h | h | ⟨h, h2⟩)
      · exact digits_ne _ h
      · omega
      · have := dec_head _ h
        rcases h2 with h2 | h2
        · rw [this, decDigits, dif_pos (by omega)] at h2; simp at h2
        · exact h45 h2), digs_dec _ (by omega)]
    simp only []
    rw [if_neg (by omega)]
    congr 1
    omega
theorem whole_only (s : List UInt8) (x : Int) (h : whole s = (x, true)) : s = itoa x ∧ -9223372036854775808 ≤ x ∧ x ≤ 9223372036854775807 := by
  unfold whole at h
  by_cases hs : s.head? = some 45
  · obtain ⟨t, rfl⟩ : ∃ t, s = 45 :: t := by
      cases s with
      | nil => cases hs
      | cons a t => exact ⟨t, by rw [Option.some.inj hs]⟩
    simp only [List.head?_cons, if_true, List.drop_succ_cons, List.drop_zero] at h
    split at h
    · cases h
    · rename_i hb
      split at h
      · cases h
      · rename_i y hy
        have hx := (Prod.mk.inj h).1
        subst hx
        obtain ⟨rfl, k2, k3⟩ := digs_val _ t y rfl hy
        have hne : t ≠ [] := fun e => hb (.inl e)
        have h48 : t.head? ≠ some 48 := fun e => hb (.inr (.inr ⟨e, .inr trivial⟩))
        obtain ⟨c1, c2⟩ := canon _ t rfl hne k3 (fun e => absurd e h48)
        have c3 := c2 h48
        refine ⟨?_, by omega, by omega⟩
        unfold itoa
        rw [if_pos (by omega), show (-(val t : Int)).natAbs = val t by omega, ← c1]
  · simp only [if_neg hs] at h
    split at h
    · cases h
    · rename_i hb
      split at h
      · cases h
      · rename_i y hy
        split at h
        · cases h
        · rename_i hmin
          have hx := (Prod.mk.inj h).1
          subst hx
          obtain ⟨rfl, k2, k3⟩ := digs_val _ s y rfl hy
          have hne : s ≠ [] := fun e => hb (.inl e)
          have hlen : s.head? = some 48 → s.length = 1 := fun e => by
            have h1 : ¬ 1 < s.length := fun g => hb (.inr (.inr ⟨e, .inl g⟩))
            have : s.length ≠ 0 := fun g => hne (List.eq_nil_of_length_eq_zero g)
            omega
          obtain ⟨c1, c2⟩ := canon _ s rfl hne k3 hlen
          refine ⟨?_, by omega, by omega⟩
          unfold itoa
          rw [if_neg (by omega), show (- -(val s : Int)).toNat = val s by omega, ← c1]
end Go.Proofs.YtnegdimhejldfaaGreatDoor.dec
