/- What the reference's each, power, floor answer. -/
import Derived.Test.YtkgpnbfgfolekaaLawR
namespace Go.Proofs.Ytkgpnbfgfolekaa.Arith
open Go.RowKit
theorem ret_num {a b : Int} (h : b = a) : Ending.returned (.int .i64 a) = .returned (.int .i64 b) := by rw [h]
theorem bit_test (x : Int) (i : Nat) : bitB x i = (bv x).testBit i := by
  unfold bitB
  rw [Nat.testBit_eq_decide_div_mod_eq]
  rw [Bool.eq_iff_iff]; simp
theorem low_step (m j : Nat) : m % 2 ^ (j + 1) = m % 2 ^ j + (if m.testBit j then 2 ^ j else 0) := by
  rw [Nat.mod_pow_succ, Nat.testBit_eq_decide_div_mod_eq]
  have : m / 2 ^ j % 2 = 0 ∨ m / 2 ^ j % 2 = 1 := by omega
  rcases this with h | h <;> simp [h]
theorem pow_le (j : Nat) (h : j ≤ 32) : 1 ≤ 2 ^ j ∧ 2 ^ j ≤ 4294967296 := by
  have h2 : (2 : Nat) ^ j ≤ 2 ^ 32 := Nat.pow_le_pow_right (by decide) h
  have h3 : 1 ≤ 2 ^ j := Nat.one_le_two_pow
  omega
set_option maxHeartbeats 1000000 in
theorem each_and (a b : Int) (W w : World) (ha : In32 a) (hb : In32 b) (hw : Grown W w) : Calls Try.prog 16 #[.int .i64 a, .int .i64 b, .int .i64 6] w fun e w' => e = .returned (.int .i64 (vand a b)) ∧ Grown W w' := by
  have hlt : bv a &&& bv b < 4294967296 := by
    have := (BitVec.ofInt 32 a &&& BitVec.ofInt 32 b).isLt
    rw [BitVec.toNat_and] at this
    exact this
  have HR : Hid (vand a b = wrap32 ((bv a &&& bv b : Nat) : Int)) := Go.Lib.hid (and_eq a b)
  have HT : Hid (∀ j, (bv a &&& bv b).testBit j = (match bitB a j, bitB b j with | x, y => (x && y))) := Go.Lib.hid (fun j => by rw [Nat.testBit_and, ← bit_test, ← bit_test])
  generalize hm : bv a &&& bv b = m at *
  clear hm
  go_enter Try.func16, Try.ntmps16
  go_wp2
  go_loop [7, 8, 9] (fun o p i => ∃ j : Nat, j ≤ 32 ∧ o = .int .i64 ((m % 2 ^ j : Nat) : Int) ∧ p = .int .i64 ((2 ^ j : Nat) : Int) ∧ i = .int .i64 (j : Int)) (fun _ _ i => 32 - (intOf i).toNat)
  case atStart => exact ⟨0, Nat.zero_le _, by simp [Nat.mod_one], by simp, rfl⟩
  case round =>
    obtain ⟨j, hj, rfl, rfl, rfl⟩ := hrel
    by_cases h32 : j < 32
    · have hp := pow_le j (by omega)
      have hl : m % 2 ^ j < 2 ^ j := Nat.mod_lt _ (by omega)
      have HS : Hid (m % 2 ^ (j + 1) = m % 2 ^ j + (if (match bitB a j, bitB b j with | x, y => (x && y)) then 2 ^ j else 0)) := Go.Lib.hid (by rw [low_step, HT.out])
      have HP : Hid (2 ^ (j + 1) = 2 ^ j * 2) := Go.Lib.hid (Nat.pow_succ _ _)
      have B1 := bit_any a j (hx := ha) (hi := h32)
      have B2 := bit_any b j (hx := hb) (hi := h32)
      generalize hL : m % 2 ^ j = L at *
      generalize hQ : (2 : Nat) ^ j = Q at *
      obtain ⟨hp1, hp2⟩ := hp
      generalize bitB a j = x at *
      generalize bitB b j = y at *
      cases x <;> cases y
      all_goals
        go_wp2_with (go_at_call 34; first
          | ((with_reducible refine (B1 _).mono ?_); rintro e w' ⟨rfl, rfl⟩)
          | ((with_reducible refine (B2 _).mono ?_); rintro e w' ⟨rfl, rfl⟩))
        go_round
        case rel => exact ⟨j + 1, by omega, by rw [HS.out]; first | go_num | simp, by rw [HP.out]; go_num, by go_num⟩
        case measure => simp [intOf]; omega
    · obtain rfl : j = 32 := by omega
      rw [Nat.mod_eq_of_lt (show m < 2 ^ 32 from hlt)]
      go_wp2_with (go_at_call 15; refine (wrap_any _ W _ hw).mono ?_; rintro e w1 ⟨rfl, hg1⟩)
      go_ret
      exact ⟨ret_num HR.out, hg1⟩
set_option maxHeartbeats 1000000 in
theorem each_or (a b : Int) (W w : World) (ha : In32 a) (hb : In32 b) (hw : Grown W w) : Calls Try.prog 16 #[.int .i64 a, .int .i64 b, .int .i64 7] w fun e w' => e = .returned (.int .i64 (vor a b)) ∧ Grown W w' := by
  have hlt : bv a ||| bv b < 4294967296 := by
    have := (BitVec.ofInt 32 a ||| BitVec.ofInt 32 b).isLt
    rw [BitVec.toNat_or] at this
    exact this
  have HR : Hid (vor a b = wrap32 ((bv a ||| bv b : Nat) : Int)) := Go.Lib.hid (or_eq a b)
  have HT : Hid (∀ j, (bv a ||| bv b).testBit j = (match bitB a j, bitB b j with | x, y => (x || y))) := Go.Lib.hid (fun j => by rw [Nat.testBit_or, ← bit_test, ← bit_test])
  generalize hm : bv a ||| bv b = m at *
  clear hm
  go_enter Try.func16, Try.ntmps16
  go_wp2
  go_loop [7, 8, 9] (fun o p i => ∃ j : Nat, j ≤ 32 ∧ o = .int .i64 ((m % 2 ^ j : Nat) : Int) ∧ p = .int .i64 ((2 ^ j : Nat) : Int) ∧ i = .int .i64 (j : Int)) (fun _ _ i => 32 - (intOf i).toNat)
  case atStart => exact ⟨0, Nat.zero_le _, by simp [Nat.mod_one], by simp, rfl⟩
  case round =>
    obtain ⟨j, hj, rfl, rfl, rfl⟩ := hrel
    by_cases h32 : j < 32
    · have hp := pow_le j (by omega)
      have hl : m % 2 ^ j < 2 ^ j := Nat.mod_lt _ (by omega)
      have HS : Hid (m % 2 ^ (j + 1) = m % 2 ^ j + (if (match bitB a j, bitB b j with | x, y => (x || y)) then 2 ^ j else 0)) := Go.Lib.hid (by rw [low_step, HT.out])
      have HP : Hid (2 ^ (j + 1) = 2 ^ j * 2) := Go.Lib.hid (Nat.pow_succ _ _)
      have B1 := bit_any a j (hx := ha) (hi := h32)
      have B2 := bit_any b j (hx := hb) (hi := h32)
      generalize hL : m % 2 ^ j = L at *
      generalize hQ : (2 : Nat) ^ j = Q at *
      obtain ⟨hp1, hp2⟩ := hp
      generalize bitB a j = x at *
      generalize bitB b j = y at *
      cases x <;> cases y
      all_goals
        go_wp2_with (go_at_call 34; first
          | ((with_reducible refine (B1 _).mono ?_); rintro e w' ⟨rfl, rfl⟩)
          | ((with_reducible refine (B2 _).mono ?_); rintro e w' ⟨rfl, rfl⟩))
        go_round
        case rel => exact ⟨j + 1, by omega, by rw [HS.out]; first | go_num | simp, by rw [HP.out]; go_num, by go_num⟩
        case measure => simp [intOf]; omega
    · obtain rfl : j = 32 := by omega
      rw [Nat.mod_eq_of_lt (show m < 2 ^ 32 from hlt)]
      go_wp2_with (go_at_call 15; refine (wrap_any _ W _ hw).mono ?_; rintro e w1 ⟨rfl, hg1⟩)
      go_ret
      exact ⟨ret_num HR.out, hg1⟩
set_option maxHeartbeats 1000000 in
theorem each_xor (a b : Int) (W w : World) (ha : In32 a) (hb : In32 b) (hw : Grown W w) : Calls Try.prog 16 #[.int .i64 a, .int .i64 b, .int .i64 8] w fun e w' => e = .returned (.int .i64 (vxor a b)) ∧ Grown W w' := by
  have hlt : bv a ^^^ bv b < 4294967296 := by
    have := (BitVec.ofInt 32 a ^^^ BitVec.ofInt 32 b).isLt
    rw [BitVec.toNat_xor] at this
    exact this
  have HR : Hid (vxor a b = wrap32 ((bv a ^^^ bv b : Nat) : Int)) := Go.Lib.hid (xor_eq a b)
  have HT : Hid (∀ j, (bv a ^^^ bv b).testBit j = (match bitB a j, bitB b j with | x, y => (x != y))) := Go.Lib.hid (fun j => by rw [Nat.testBit_xor, ← bit_test, ← bit_test])
  generalize hm : bv a ^^^ bv b = m at *
  clear hm
  go_enter Try.func16, Try.ntmps16
  go_wp2
  go_loop [7, 8, 9] (fun o p i => ∃ j : Nat, j ≤ 32 ∧ o = .int .i64 ((m % 2 ^ j : Nat) : Int) ∧ p = .int .i64 ((2 ^ j : Nat) : Int) ∧ i = .int .i64 (j : Int)) (fun _ _ i => 32 - (intOf i).toNat)
  case atStart => exact ⟨0, Nat.zero_le _, by simp [Nat.mod_one], by simp, rfl⟩
  case round =>
    obtain ⟨j, hj, rfl, rfl, rfl⟩ := hrel
    by_cases h32 : j < 32
    · have hp := pow_le j (by omega)
      have hl : m % 2 ^ j < 2 ^ j := Nat.mod_lt _ (by omega)
      have HS : Hid (m % 2 ^ (j + 1) = m % 2 ^ j + (if (match bitB a j, bitB b j with | x, y => (x != y)) then 2 ^ j else 0)) := Go.Lib.hid (by rw [low_step, HT.out])
      have HP : Hid (2 ^ (j + 1) = 2 ^ j * 2) := Go.Lib.hid (Nat.pow_succ _ _)
      have B1 := bit_any a j (hx := ha) (hi := h32)
      have B2 := bit_any b j (hx := hb) (hi := h32)
      generalize hL : m % 2 ^ j = L at *
      generalize hQ : (2 : Nat) ^ j = Q at *
      obtain ⟨hp1, hp2⟩ := hp
      generalize bitB a j = x at *
      generalize bitB b j = y at *
      cases x <;> cases y
      all_goals
        go_wp2_with (go_at_call 34; first
          | ((with_reducible refine (B1 _).mono ?_); rintro e w' ⟨rfl, rfl⟩)
          | ((with_reducible refine (B2 _).mono ?_); rintro e w' ⟨rfl, rfl⟩))
        go_round
        case rel => exact ⟨j + 1, by omega, by rw [HS.out]; first | go_num | simp, by rw [HP.out]; go_num, by go_num⟩
        case measure => simp [intOf]; omega
    · obtain rfl : j = 32 := by omega
      rw [Nat.mod_eq_of_lt (show m < 2 ^ 32 from hlt)]
      go_wp2_with (go_at_call 15; refine (wrap_any _ W _ hw).mono ?_; rintro e w1 ⟨rfl, hg1⟩)
      go_ret
      exact ⟨ret_num HR.out, hg1⟩
theorem power_any (b : Int) (w : World) (hb : In32 b) : Calls Try.prog 17 #[.int .i64 b] w fun e w' => e = .returned (.int .i64 ((2 ^ (b % 32).toNat : Nat) : Int)) ∧ w = w' := by
  have hm := tmod_lit b 32
  obtain ⟨n, hn⟩ : ∃ n : Nat, (b % 32).toNat = n := ⟨_, rfl⟩
  have hn32 : n < 32 := by omega
  have hc : (b.tmod 32 < 0 ∧ b.tmod 32 + 32 = n) ∨ (¬ b.tmod 32 < 0 ∧ b.tmod 32 = n) := by
    rw [hm]; split <;> omega
  rw [hn]
  clear hn hm
  generalize hy : b.tmod 32 = y at *
  have hb0 := hb
  clear hb0
  rcases hc with ⟨h0, h1⟩ | ⟨h0, h1⟩
  · obtain rfl : y = (n : Int) - 32 := by omega
    go_enter Try.func17, Try.ntmps17
    go_wp2
    go_loop [4, 5] (fun p i => ∃ j : Nat, j ≤ n ∧ p = .int .i64 ((2 ^ j : Nat) : Int) ∧ i = .int .i64 (j : Int)) (fun _ i => n - (intOf i).toNat)
    case atStart => exact ⟨0, Nat.zero_le _, by simp, rfl⟩
    case round =>
      obtain ⟨j, hj, rfl, rfl⟩ := hrel
      have hp := pow_le j (by omega)
      have HP : Hid (2 ^ (j + 1) = 2 ^ j * 2) := Go.Lib.hid (Nat.pow_succ _ _)
      by_cases hlt : j < n
      · generalize hQ : (2 : Nat) ^ j = Q at *
        obtain ⟨hp1, hp2⟩ := hp
        go_wp2
        go_round
        case rel => exact ⟨j + 1, by omega, by rw [HP.out]; go_num, by go_num⟩
        case measure => simp [intOf]; omega
      · obtain rfl : j = n := by omega
        clear hp HP
        go_wp2
        go_ret
        exact ⟨rfl, rfl⟩
  · subst h1
    go_enter Try.func17, Try.ntmps17
    go_wp2
    go_loop [4, 5] (fun p i => ∃ j : Nat, j ≤ n ∧ p = .int .i64 ((2 ^ j : Nat) : Int) ∧ i = .int .i64 (j : Int)) (fun _ i => n - (intOf i).toNat)
    case atStart => exact ⟨0, Nat.zero_le _, by simp, rfl⟩
    case round =>
      obtain ⟨j, hj, rfl, rfl⟩ := hrel
      have hp := pow_le j (by omega)
      have HP : Hid (2 ^ (j + 1) = 2 ^ j * 2) := Go.Lib.hid (Nat.pow_succ _ _)
      by_cases hlt : j < n
      · generalize hQ : (2 : Nat) ^ j = Q at *
        obtain ⟨hp1, hp2⟩ := hp
        go_wp2
        go_round
        case rel => exact ⟨j + 1, by omega, by rw [HP.out]; go_num, by go_num⟩
        case measure => simp [intOf]; omega
      · obtain rfl : j = n := by omega
        clear hp HP
        go_wp2
        go_ret
        exact ⟨rfl, rfl⟩
theorem floor_math (a p : Int) (hp : 0 < p) : (a.tmod p < 0 ∧ a / p = a.tdiv p - 1) ∨ (¬ a.tmod p < 0 ∧ a / p = a.tdiv p) := by
  rcases Int.lt_or_le a 0 with hn | hq
  · by_cases h : a.tmod p < 0
    · left
      refine ⟨h, ?_⟩
      have h1 := Int.mul_tdiv_add_tmod a p
      have h2 : -p < a.tmod p := Int.lt_tmod_of_pos a hp
      have : a = p * (a.tdiv p - 1) + (a.tmod p + p) := by rw [Int.mul_sub]; omega
      rw [this, Int.mul_add_ediv_left _ _ (by omega), Int.ediv_eq_zero_of_lt (by omega) (by omega)]
      have e2 : (p * (a.tdiv p - 1) + (a.tmod p + p)) = a := this.symm
      rw [e2]; omega
    · right
      refine ⟨h, ?_⟩
      have h1 := Int.mul_tdiv_add_tmod a p
      have h2 : a.tmod p ≤ 0 := by rcases tmod_sign a p with t | t <;> omega
      have h0 : a.tmod p = 0 := by omega
      have : a = p * a.tdiv p := by omega
      have e : a / p = (p * a.tdiv p) / p := by rw [← this]
      rw [e, Int.mul_ediv_cancel_left _ (by omega)]
  · right
    refine ⟨by have := Int.tmod_nonneg p hq; omega, ?_⟩
    rw [Int.tdiv_eq_ediv_of_nonneg hq]
theorem floor_any (a : Int) (p : Nat) (w : World) (ha : In32 a) (hp : 1 ≤ p ∧ p ≤ 4294967296) : Calls Try.prog 18 #[.int .i64 a, .int .i64 (p : Int)] w fun e w' => e = .returned (.int .i64 (a / (p : Int))) ∧ w = w' := by
  have hm := floor_math a p (by omega)
  have hq : (a.tdiv p).natAbs ≤ a.natAbs := by rw [Int.natAbs_tdiv]; exact Nat.div_le_self _ _
  have hr : -4294967296 ≤ a.tmod p ∧ a.tmod p ≤ 4294967296 := by
    have := Int.tmod_lt_of_pos a (b := (p : Int)) (by omega)
    have := Int.lt_tmod_of_pos a (b := (p : Int)) (by omega)
    omega
  have hp0 : ((p : Int) == 0) = false := by simp; omega
  have hp1 : ¬ (p : Int) = 0 := by omega
  unfold In32 at ha
  obtain ⟨Q, hQ⟩ : ∃ Q, a.tdiv p = Q := ⟨_, rfl⟩
  obtain ⟨R, hR⟩ : ∃ R, a.tmod p = R := ⟨_, rfl⟩
  rw [hQ] at hq hm
  rw [hR] at hr hm
  have hq1 : -4294967296 ≤ Q ∧ Q ≤ 4294967296 := by omega
  obtain ⟨hq1, hq2⟩ := hq1
  obtain ⟨hr1, hr2⟩ := hr
  clear hq
  rcases hm with ⟨h0, h1⟩ | ⟨h0, h1⟩
  · have H1 : Hid (a / (p : Int) = Q - 1) := Go.Lib.hid h1
    clear h1
    go_enter Try.func18, Try.ntmps18
    go_wp2
    go_ret
    exact ⟨ret_num H1.out, rfl⟩
  · have H1 : Hid (a / (p : Int) = Q) := Go.Lib.hid h1
    clear h1
    go_enter Try.func18, Try.ntmps18
    go_wp2
    go_ret
    exact ⟨ret_num H1.out, rfl⟩
end Go.Proofs.Ytkgpnbfgfolekaa.Arith
