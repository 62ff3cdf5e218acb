/- gneisslaw1.ArithDoes answers true. -/
import Derived.Test.YtkgpnbfgfolekaaLawR2
namespace Go.Proofs.Ytkgpnbfgfolekaa.Arith
open Go.RowKit
theorem isnum (x : Int) (w : World) (h : In32 x) : Calls Try.prog 14 #[.int .i64 x] w fun e w' => e = .returned (.bool true) ∧ w = w' := by
  obtain ⟨h1, h2⟩ := h
  go_enter Try.func14, Try.ntmps14
  go_wp2
  go_ret
  exact ⟨rfl, rfl⟩
theorem nonum (x : Int) (w : World) (h : ¬ In32 x) : Calls Try.prog 14 #[.int .i64 x] w fun e w' => e = .returned (.bool false) ∧ w = w' := by
  unfold In32 at h
  by_cases h1 : -2147483648 ≤ x
  · have h2 : ¬ x ≤ 2147483647 := fun h2 => h ⟨h1, h2⟩
    clear h
    go_enter Try.func14, Try.ntmps14
    go_wp2
    go_ret
    exact ⟨rfl, rfl⟩
  · clear h
    go_enter Try.func14, Try.ntmps14
    go_wp2
    go_ret
    exact ⟨rfl, rfl⟩
/-- the reference's Do answers this -/
def E8 (W : World) (op a b v : Int) (ok : Bool) : Prop := ∀ w, Grown W w → Calls Try.prog 8 #[.int .i64 op, .int .i64 a, .int .i64 b] w fun e w' => e = .returned (.tuple #[.int .i64 v, .bool ok]) ∧ Grown W w'
theorem E8.go {W w : World} {op a b v : Int} {ok : Bool} (h : E8 W op a b v ok) (hw : Grown W w) : Calls Try.prog 8 #[.int .i64 op, .int .i64 a, .int .i64 b] w fun e w' => e = .returned (.tuple #[.int .i64 v, .bool ok]) ∧ Grown W w' := h w hw
theorem mul_bd {a c : Int} (h1 : -2147483648 ≤ a) (h2 : a ≤ 2147483647) (h3 : -2147483648 ≤ c) (h4 : c ≤ 2147483648) : -4611686018427387904 ≤ a * c ∧ a * c ≤ 4611686018427387904 := by
  have k : (a * c).natAbs ≤ 4611686018427387904 := by
    rw [Int.natAbs_mul]
    have : a.natAbs ≤ 2147483648 := by omega
    have : c.natAbs ≤ 2147483648 := by omega
    exact Nat.le_trans (Nat.mul_le_mul ‹a.natAbs ≤ 2147483648› ‹c.natAbs ≤ 2147483648›) (by decide)
  omega
set_option maxHeartbeats 1000000 in
theorem r_add {W : World} {a b : Int} (ha : In32 a) (hb : In32 b) : E8 W 0 a b (vadd a b) true := by
  intro w hg
  have ha1 := ha.1
  have ha2 := ha.2
  have hb1 := hb.1
  have hb2 := hb.2
  rcases Bool.eq_false_or_eq_true (b == 0) with hz | hz
  · go_enter Try.func8, Try.ntmps8
    go_wp2_with (first
      | (go_at_call 14; first
        | ((with_reducible refine (isnum a _ ha).mono ?_); rintro e w1 ⟨rfl, rfl⟩)
        | ((with_reducible refine (isnum b _ hb).mono ?_); rintro e w1 ⟨rfl, rfl⟩))
      | (go_at_call 15; refine (wrap_any _ W _ (by assumption)).mono ?_; rintro e w1 ⟨rfl, hg1⟩))
    go_ret2
    exact ⟨ret_two (rfl), by assumption⟩
  · go_enter Try.func8, Try.ntmps8
    go_wp2_with (first
      | (go_at_call 14; first
        | ((with_reducible refine (isnum a _ ha).mono ?_); rintro e w1 ⟨rfl, rfl⟩)
        | ((with_reducible refine (isnum b _ hb).mono ?_); rintro e w1 ⟨rfl, rfl⟩))
      | (go_at_call 15; refine (wrap_any _ W _ (by assumption)).mono ?_; rintro e w1 ⟨rfl, hg1⟩))
    go_ret2
    exact ⟨ret_two (rfl), by assumption⟩
set_option maxHeartbeats 1000000 in
theorem r_sub {W : World} {a b : Int} (ha : In32 a) (hb : In32 b) : E8 W 1 a b (vsub a b) true := by
  intro w hg
  have ha1 := ha.1
  have ha2 := ha.2
  have hb1 := hb.1
  have hb2 := hb.2
  rcases Bool.eq_false_or_eq_true (b == 0) with hz | hz
  · go_enter Try.func8, Try.ntmps8
    go_wp2_with (first
      | (go_at_call 14; first
        | ((with_reducible refine (isnum a _ ha).mono ?_); rintro e w1 ⟨rfl, rfl⟩)
        | ((with_reducible refine (isnum b _ hb).mono ?_); rintro e w1 ⟨rfl, rfl⟩))
      | (go_at_call 15; refine (wrap_any _ W _ (by assumption)).mono ?_; rintro e w1 ⟨rfl, hg1⟩))
    go_ret2
    exact ⟨ret_two (rfl), by assumption⟩
  · go_enter Try.func8, Try.ntmps8
    go_wp2_with (first
      | (go_at_call 14; first
        | ((with_reducible refine (isnum a _ ha).mono ?_); rintro e w1 ⟨rfl, rfl⟩)
        | ((with_reducible refine (isnum b _ hb).mono ?_); rintro e w1 ⟨rfl, rfl⟩))
      | (go_at_call 15; refine (wrap_any _ W _ (by assumption)).mono ?_; rintro e w1 ⟨rfl, hg1⟩))
    go_ret2
    exact ⟨ret_two (rfl), by assumption⟩
set_option maxHeartbeats 1000000 in
theorem r_mul {W : World} {a b : Int} (ha : In32 a) (hb : In32 b) : E8 W 2 a b (vmul a b) true := by
  intro w hg
  have ha1 := ha.1
  have ha2 := ha.2
  have hb1 := hb.1
  have hb2 := hb.2
  obtain ⟨m1, m2⟩ := mul_bd ha1 ha2 hb1 (by omega)
  rcases Bool.eq_false_or_eq_true (b == 0) with hz | hz
  · go_enter Try.func8, Try.ntmps8
    go_wp2_with (first
      | (go_at_call 14; first
        | ((with_reducible refine (isnum a _ ha).mono ?_); rintro e w1 ⟨rfl, rfl⟩)
        | ((with_reducible refine (isnum b _ hb).mono ?_); rintro e w1 ⟨rfl, rfl⟩))
      | (go_at_call 15; refine (wrap_any _ W _ (by assumption)).mono ?_; rintro e w1 ⟨rfl, hg1⟩))
    go_ret2
    exact ⟨ret_two (rfl), by assumption⟩
  · go_enter Try.func8, Try.ntmps8
    go_wp2_with (first
      | (go_at_call 14; first
        | ((with_reducible refine (isnum a _ ha).mono ?_); rintro e w1 ⟨rfl, rfl⟩)
        | ((with_reducible refine (isnum b _ hb).mono ?_); rintro e w1 ⟨rfl, rfl⟩))
      | (go_at_call 15; refine (wrap_any _ W _ (by assumption)).mono ?_; rintro e w1 ⟨rfl, hg1⟩))
    go_ret2
    exact ⟨ret_two (rfl), by assumption⟩
set_option maxHeartbeats 1000000 in
theorem r_div {W : World} {a b : Int} (ha : In32 a) (hb : In32 b) (h0 : ¬ b = 0) : E8 W 3 a b (vdiv a b) true := by
  intro w hg
  have ha1 := ha.1
  have ha2 := ha.2
  have hb1 := hb.1
  have hb2 := hb.2
  have hz : (b == 0) = false := by simpa using h0
  have HQ : Hid (wrap64 (a.tdiv b) = a.tdiv b) := Go.Lib.hid (quo_in ha)
  go_enter Try.func8, Try.ntmps8
  go_wp2_with (first
    | (go_at_call 14; first
      | ((with_reducible refine (isnum a _ ha).mono ?_); rintro e w1 ⟨rfl, rfl⟩)
      | ((with_reducible refine (isnum b _ hb).mono ?_); rintro e w1 ⟨rfl, rfl⟩))
    | (go_at_call 15; refine (wrap_any _ W _ (by assumption)).mono ?_; rintro e w1 ⟨rfl, hg1⟩))
  go_ret2
  exact ⟨ret_two (by first | rfl | (rw [HQ.out]; rfl)), by assumption⟩
set_option maxHeartbeats 1000000 in
theorem r_rem {W : World} {a b : Int} (ha : In32 a) (hb : In32 b) (h0 : ¬ b = 0) : E8 W 4 a b (vrem a b) true := by
  intro w hg
  have ha1 := ha.1
  have ha2 := ha.2
  have hb1 := hb.1
  have hb2 := hb.2
  have hz : (b == 0) = false := by simpa using h0
  go_enter Try.func8, Try.ntmps8
  go_wp2_with (first
    | (go_at_call 14; first
      | ((with_reducible refine (isnum a _ ha).mono ?_); rintro e w1 ⟨rfl, rfl⟩)
      | ((with_reducible refine (isnum b _ hb).mono ?_); rintro e w1 ⟨rfl, rfl⟩))
    | (go_at_call 15; refine (wrap_any _ W _ (by assumption)).mono ?_; rintro e w1 ⟨rfl, hg1⟩))
  go_ret2
  exact ⟨ret_two (rfl), by assumption⟩
set_option maxHeartbeats 1000000 in
theorem r_neg {W : World} {a b : Int} (ha : In32 a) (hb : In32 b) : E8 W 5 a b (vneg a) true := by
  intro w hg
  have ha1 := ha.1
  have ha2 := ha.2
  have hb1 := hb.1
  have hb2 := hb.2
  rcases Bool.eq_false_or_eq_true (b == 0) with hz | hz
  · go_enter Try.func8, Try.ntmps8
    go_wp2_with (first
      | (go_at_call 14; first
        | ((with_reducible refine (isnum a _ ha).mono ?_); rintro e w1 ⟨rfl, rfl⟩)
        | ((with_reducible refine (isnum b _ hb).mono ?_); rintro e w1 ⟨rfl, rfl⟩))
      | (go_at_call 15; refine (wrap_any _ W _ (by assumption)).mono ?_; rintro e w1 ⟨rfl, hg1⟩))
    go_ret2
    exact ⟨ret_two (rfl), by assumption⟩
  · go_enter Try.func8, Try.ntmps8
    go_wp2_with (first
      | (go_at_call 14; first
        | ((with_reducible refine (isnum a _ ha).mono ?_); rintro e w1 ⟨rfl, rfl⟩)
        | ((with_reducible refine (isnum b _ hb).mono ?_); rintro e w1 ⟨rfl, rfl⟩))
      | (go_at_call 15; refine (wrap_any _ W _ (by assumption)).mono ?_; rintro e w1 ⟨rfl, hg1⟩))
    go_ret2
    exact ⟨ret_two (rfl), by assumption⟩
set_option maxHeartbeats 1000000 in
theorem r_and {W : World} {a b : Int} (ha : In32 a) (hb : In32 b) : E8 W 6 a b (vand a b) true := by
  intro w hg
  have ha1 := ha.1
  have ha2 := ha.2
  have hb1 := hb.1
  have hb2 := hb.2
  rcases Bool.eq_false_or_eq_true (b == 0) with hz | hz
  · go_enter Try.func8, Try.ntmps8
    go_wp2_with (first
      | (go_at_call 14; first
        | ((with_reducible refine (isnum a _ ha).mono ?_); rintro e w1 ⟨rfl, rfl⟩)
        | ((with_reducible refine (isnum b _ hb).mono ?_); rintro e w1 ⟨rfl, rfl⟩))
      | (go_at_call 16; refine (each_and a b W _ ha hb (by assumption)).mono ?_; rintro e w1 ⟨rfl, hg1⟩))
    go_ret2
    exact ⟨ret_two (rfl), by assumption⟩
  · go_enter Try.func8, Try.ntmps8
    go_wp2_with (first
      | (go_at_call 14; first
        | ((with_reducible refine (isnum a _ ha).mono ?_); rintro e w1 ⟨rfl, rfl⟩)
        | ((with_reducible refine (isnum b _ hb).mono ?_); rintro e w1 ⟨rfl, rfl⟩))
      | (go_at_call 16; refine (each_and a b W _ ha hb (by assumption)).mono ?_; rintro e w1 ⟨rfl, hg1⟩))
    go_ret2
    exact ⟨ret_two (rfl), by assumption⟩
set_option maxHeartbeats 1000000 in
theorem r_or {W : World} {a b : Int} (ha : In32 a) (hb : In32 b) : E8 W 7 a b (vor a b) true := by
  intro w hg
  have ha1 := ha.1
  have ha2 := ha.2
  have hb1 := hb.1
  have hb2 := hb.2
  rcases Bool.eq_false_or_eq_true (b == 0) with hz | hz
  · go_enter Try.func8, Try.ntmps8
    go_wp2_with (first
      | (go_at_call 14; first
        | ((with_reducible refine (isnum a _ ha).mono ?_); rintro e w1 ⟨rfl, rfl⟩)
        | ((with_reducible refine (isnum b _ hb).mono ?_); rintro e w1 ⟨rfl, rfl⟩))
      | (go_at_call 16; refine (each_or a b W _ ha hb (by assumption)).mono ?_; rintro e w1 ⟨rfl, hg1⟩))
    go_ret2
    exact ⟨ret_two (rfl), by assumption⟩
  · go_enter Try.func8, Try.ntmps8
    go_wp2_with (first
      | (go_at_call 14; first
        | ((with_reducible refine (isnum a _ ha).mono ?_); rintro e w1 ⟨rfl, rfl⟩)
        | ((with_reducible refine (isnum b _ hb).mono ?_); rintro e w1 ⟨rfl, rfl⟩))
      | (go_at_call 16; refine (each_or a b W _ ha hb (by assumption)).mono ?_; rintro e w1 ⟨rfl, hg1⟩))
    go_ret2
    exact ⟨ret_two (rfl), by assumption⟩
set_option maxHeartbeats 1000000 in
theorem r_xor {W : World} {a b : Int} (ha : In32 a) (hb : In32 b) : E8 W 8 a b (vxor a b) true := by
  intro w hg
  have ha1 := ha.1
  have ha2 := ha.2
  have hb1 := hb.1
  have hb2 := hb.2
  rcases Bool.eq_false_or_eq_true (b == 0) with hz | hz
  · go_enter Try.func8, Try.ntmps8
    go_wp2_with (first
      | (go_at_call 14; first
        | ((with_reducible refine (isnum a _ ha).mono ?_); rintro e w1 ⟨rfl, rfl⟩)
        | ((with_reducible refine (isnum b _ hb).mono ?_); rintro e w1 ⟨rfl, rfl⟩))
      | (go_at_call 16; refine (each_xor a b W _ ha hb (by assumption)).mono ?_; rintro e w1 ⟨rfl, hg1⟩))
    go_ret2
    exact ⟨ret_two (rfl), by assumption⟩
  · go_enter Try.func8, Try.ntmps8
    go_wp2_with (first
      | (go_at_call 14; first
        | ((with_reducible refine (isnum a _ ha).mono ?_); rintro e w1 ⟨rfl, rfl⟩)
        | ((with_reducible refine (isnum b _ hb).mono ?_); rintro e w1 ⟨rfl, rfl⟩))
      | (go_at_call 16; refine (each_xor a b W _ ha hb (by assumption)).mono ?_; rintro e w1 ⟨rfl, hg1⟩))
    go_ret2
    exact ⟨ret_two (rfl), by assumption⟩
set_option maxHeartbeats 1000000 in
theorem r_shl {W : World} {a b : Int} (ha : In32 a) (hb : In32 b) : E8 W 9 a b (vshl a b) true := by
  intro w hg
  have ha1 := ha.1
  have ha2 := ha.2
  have hb1 := hb.1
  have hb2 := hb.2
  have hn := pow_le (b % 32).toNat (by omega)
  have hn2 : 2 ^ (b % 32).toNat ≤ 2147483648 := by
    have : (2 : Nat) ^ (b % 32).toNat ≤ 2 ^ 31 := Nat.pow_le_pow_right (by decide) (by omega)
    omega
  have HV : Hid (vshl a b = wrap32 (a * ((2 ^ (b % 32).toNat : Nat) : Int))) := Go.Lib.hid (by unfold vshl; simp)
  have PW := power_any b (hb := hb)
  generalize (2 : Nat) ^ (b % 32).toNat = Q at *
  obtain ⟨m1, m2⟩ := mul_bd (c := (Q : Int)) ha1 ha2 (by omega) (by omega)
  have WS : ∀ w, Grown W w → Calls Try.prog 15 #[.int .i64 a] w fun e w' => e = .returned (.int .i64 a) ∧ Grown W w' := fun w hw => by have := wrap_any a W w hw; rwa [wrap_id ha] at this
  have WS2 : Hid (∀ w, Grown W w → Calls Try.prog 15 #[.int .i64 a] w fun e w' => e = .returned (.int .i64 a) ∧ Grown W w') := Go.Lib.hid WS
  clear WS hn hn2
  rcases Bool.eq_false_or_eq_true (b == 0) with hz | hz
  · go_enter Try.func8, Try.ntmps8
    go_wp2_with (first
      | (go_at_call 14; first
        | ((with_reducible refine (isnum a _ ha).mono ?_); rintro e w1 ⟨rfl, rfl⟩)
        | ((with_reducible refine (isnum b _ hb).mono ?_); rintro e w1 ⟨rfl, rfl⟩))
      | (go_at_call 15; first | ((with_reducible refine (WS2.out _ (by assumption)).mono ?_); rintro e w1 ⟨rfl, hg1⟩) | (refine (wrap_any _ W _ (by assumption)).mono ?_; rintro e w1 ⟨rfl, hg1⟩))
      | (go_at_call 17; refine (PW _).mono ?_; rintro e w1 ⟨rfl, rfl⟩))
    go_ret2
    exact ⟨ret_two (by rw [HV.out]), by assumption⟩
  · go_enter Try.func8, Try.ntmps8
    go_wp2_with (first
      | (go_at_call 14; first
        | ((with_reducible refine (isnum a _ ha).mono ?_); rintro e w1 ⟨rfl, rfl⟩)
        | ((with_reducible refine (isnum b _ hb).mono ?_); rintro e w1 ⟨rfl, rfl⟩))
      | (go_at_call 15; first | ((with_reducible refine (WS2.out _ (by assumption)).mono ?_); rintro e w1 ⟨rfl, hg1⟩) | (refine (wrap_any _ W _ (by assumption)).mono ?_; rintro e w1 ⟨rfl, hg1⟩))
      | (go_at_call 17; refine (PW _).mono ?_; rintro e w1 ⟨rfl, rfl⟩))
    go_ret2
    exact ⟨ret_two (by rw [HV.out]), by assumption⟩
set_option maxHeartbeats 1000000 in
theorem r_shr {W : World} {a b : Int} (ha : In32 a) (hb : In32 b) : E8 W 10 a b (vshr a b) true := by
  intro w hg
  have ha1 := ha.1
  have ha2 := ha.2
  have hb1 := hb.1
  have hb2 := hb.2
  have hn := pow_le (b % 32).toNat (by omega)
  have HV : Hid (vshr a b = a / ((2 ^ (b % 32).toNat : Nat) : Int)) := Go.Lib.hid (by unfold vshr; simp)
  have PW := power_any b (hb := hb)
  have FL : Hid (∀ w, Calls Try.prog 18 #[.int .i64 a, .int .i64 ((2 ^ (b % 32).toNat : Nat) : Int)] w fun e w' => e = .returned (.int .i64 (a / ((2 ^ (b % 32).toNat : Nat) : Int))) ∧ w = w') := Go.Lib.hid (fun w => floor_any a _ w ha hn)
  generalize (2 : Nat) ^ (b % 32).toNat = Q at *
  clear hn
  rcases Bool.eq_false_or_eq_true (b == 0) with hz | hz
  · go_enter Try.func8, Try.ntmps8
    go_wp2_with (first
      | (go_at_call 14; first
        | ((with_reducible refine (isnum a _ ha).mono ?_); rintro e w1 ⟨rfl, rfl⟩)
        | ((with_reducible refine (isnum b _ hb).mono ?_); rintro e w1 ⟨rfl, rfl⟩))
      | (go_at_call 17; refine (PW _).mono ?_; rintro e w1 ⟨rfl, rfl⟩)
      | (go_at_call 18; refine (FL.out _).mono ?_; rintro e w1 ⟨rfl, rfl⟩))
    go_ret2
    exact ⟨ret_two (by rw [HV.out]), by assumption⟩
  · go_enter Try.func8, Try.ntmps8
    go_wp2_with (first
      | (go_at_call 14; first
        | ((with_reducible refine (isnum a _ ha).mono ?_); rintro e w1 ⟨rfl, rfl⟩)
        | ((with_reducible refine (isnum b _ hb).mono ?_); rintro e w1 ⟨rfl, rfl⟩))
      | (go_at_call 17; refine (PW _).mono ?_; rintro e w1 ⟨rfl, rfl⟩)
      | (go_at_call 18; refine (FL.out _).mono ?_; rintro e w1 ⟨rfl, rfl⟩))
    go_ret2
    exact ⟨ret_two (by rw [HV.out]), by assumption⟩
set_option maxHeartbeats 1000000 in
theorem r_ushr0 {W : World} {a b : Int} (ha : In32 a) (hb : In32 b) (z : Bool) (hz : (b == 0) = z) : E8 W 11 a b (vushr a b) true := by
  intro w hg
  have ha1 := ha.1
  have ha2 := ha.2
  have hn := pow_le (b % 32).toNat (by omega)
  have HV : Hid (vushr a b = wrap32 (a % 4294967296 / ((2 ^ (b % 32).toNat : Nat) : Int))) := Go.Lib.hid (by unfold vushr; rw [IntKind.wrap_u32]; simp)
  have PW := power_any b (hb := hb)
  generalize (2 : Nat) ^ (b % 32).toNat = Q at *
  obtain ⟨hn1, hn2⟩ := hn
  have hq0 : ((Q : Int) == 0) = false := by simp; omega
  have hq1 : ¬ (Q : Int) = 0 := by omega
  obtain ⟨X, hX⟩ : ∃ X : Int, a % 4294967296 = X := ⟨_, rfl⟩
  rw [hX] at HV
  by_cases h0 : a < 0
  · have e : a + 4294967296 = X := by omega
    have hx0 : 0 ≤ X := by omega
    have hx1 : X ≤ 4294967295 := by omega
    have HD : Hid (X.tdiv (Q : Int) = X / (Q : Int)) := Go.Lib.hid (Int.tdiv_eq_ediv_of_nonneg hx0)
    clear hX
    go_enter Try.func8, Try.ntmps8
    go_wp2_with (first
      | (go_at_call 14; first
        | ((with_reducible refine (isnum a _ ha).mono ?_); rintro e w1 ⟨rfl, rfl⟩)
        | ((with_reducible refine (isnum b _ hb).mono ?_); rintro e w1 ⟨rfl, rfl⟩))
      | (go_at_call 15; refine (wrap_any _ W _ (by assumption)).mono ?_; rintro e w1 ⟨rfl, hg1⟩)
      | (go_at_call 17; refine (PW _).mono ?_; rintro e w1 ⟨rfl, rfl⟩))
    all_goals
      go_ret2
      exact ⟨ret_two (by rw [HV.out]; try rw [HD.out]), by assumption⟩
  · obtain rfl : a = X := by omega
    have hx0 : 0 ≤ a := by omega
    have HD : Hid (a.tdiv (Q : Int) = a / (Q : Int)) := Go.Lib.hid (Int.tdiv_eq_ediv_of_nonneg hx0)
    clear hX
    go_enter Try.func8, Try.ntmps8
    go_wp2_with (first
      | (go_at_call 14; first
        | ((with_reducible refine (isnum a _ ha).mono ?_); rintro e w1 ⟨rfl, rfl⟩)
        | ((with_reducible refine (isnum b _ hb).mono ?_); rintro e w1 ⟨rfl, rfl⟩))
      | (go_at_call 15; refine (wrap_any _ W _ (by assumption)).mono ?_; rintro e w1 ⟨rfl, hg1⟩)
      | (go_at_call 17; refine (PW _).mono ?_; rintro e w1 ⟨rfl, rfl⟩))
    all_goals
      go_ret2
      exact ⟨ret_two (by rw [HV.out]; try rw [HD.out]), by assumption⟩
theorem r_ushr {W : World} {a b : Int} (ha : In32 a) (hb : In32 b) : E8 W 11 a b (vushr a b) true := r_ushr0 ha hb _ rfl
theorem r_div0 {W : World} {a : Int} (ha : In32 a) : E8 W 3 a 0 0 false := by
  intro w hg
  have hb : In32 0 := ⟨by decide, by decide⟩
  obtain ⟨b, hb0⟩ : ∃ b : Int, b = 0 := ⟨0, rfl⟩
  subst hb0
  go_enter Try.func8, Try.ntmps8
  go_wp2_with (go_at_call 14; first
    | ((with_reducible refine (isnum a _ ha).mono ?_); rintro e w1 ⟨rfl, rfl⟩)
    | ((with_reducible refine (isnum 0 _ hb).mono ?_); rintro e w1 ⟨rfl, rfl⟩))
  go_ret2
  exact ⟨rfl, hg⟩
theorem r_rem0 {W : World} {a : Int} (ha : In32 a) : E8 W 4 a 0 0 false := by
  intro w hg
  have hb : In32 0 := ⟨by decide, by decide⟩
  obtain ⟨b, hb0⟩ : ∃ b : Int, b = 0 := ⟨0, rfl⟩
  subst hb0
  go_enter Try.func8, Try.ntmps8
  go_wp2_with (go_at_call 14; first
    | ((with_reducible refine (isnum a _ ha).mono ?_); rintro e w1 ⟨rfl, rfl⟩)
    | ((with_reducible refine (isnum 0 _ hb).mono ?_); rintro e w1 ⟨rfl, rfl⟩))
  go_ret2
  exact ⟨rfl, hg⟩
theorem r_no {W : World} {op a b : Int} (h : op < 0 ∨ 11 < op ∨ ¬ In32 a ∨ ¬ In32 b) : E8 W op a b 0 false := by
  intro w hg
  by_cases h0 : op < 0
  · clear h
    go_enter Try.func8, Try.ntmps8
    go_wp2
    go_ret2
    exact ⟨rfl, hg⟩
  · by_cases h1 : 11 < op
    · clear h
      go_enter Try.func8, Try.ntmps8
      go_wp2
      go_ret2
      exact ⟨rfl, hg⟩
    · by_cases ha : In32 a
      · have hb : ¬ In32 b := by
          rcases h with h | h | h | h
          · exact absurd h h0
          · exact absurd h h1
          · exact absurd ha h
          · exact h
        clear h
        go_enter Try.func8, Try.ntmps8
        go_wp2_with (go_at_call 14; first
          | ((with_reducible refine (isnum a _ ha).mono ?_); rintro e w1 ⟨rfl, rfl⟩)
          | ((with_reducible refine (nonum b _ hb).mono ?_); rintro e w1 ⟨rfl, rfl⟩))
        go_ret2
        exact ⟨rfl, hg⟩
      · clear h
        go_enter Try.func8, Try.ntmps8
        go_wp2_with (go_at_call 14; (with_reducible refine (nonum a _ ha).mono ?_); rintro e w1 ⟨rfl, rfl⟩)
        go_ret2
        exact ⟨rfl, hg⟩
theorem e_no {W : World} {op a b : Int} (h : op < 0 ∨ 11 < op ∨ ¬ In32 a ∨ ¬ In32 b) : E7 W op a b 0 false := by
  have key : ∀ x : Int, ¬ In32 x → (x == wrap64 (wrap32 x)) = false := by
    intro x hx
    have := wrap_in x
    have e : wrap64 (wrap32 x) = wrap32 x := w64 x
    rw [e]
    simp
    intro hh
    exact hx (hh ▸ this)
  refine .of (fun w => do_no op a b w ?_) rfl
  rcases h with h | h | h | h
  · exact .inl h
  · exact .inr (.inl h)
  · exact .inr (.inr (.inl (key a h)))
  · exact .inr (.inr (.inr (key b h)))
end Go.Proofs.Ytkgpnbfgfolekaa.Arith
