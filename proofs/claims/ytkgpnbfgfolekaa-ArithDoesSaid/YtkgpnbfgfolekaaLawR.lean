/- What the reference's gneissref1.Do answers. -/
import Derived.Test.YtkgpnbfgfolekaaLawL
import Derived.LoopTactic
import Derived.WalkKit
namespace Go.Proofs.Ytkgpnbfgfolekaa.Arith
open Go.RowKit
theorem wrap_any (x : Int) (W w : World) (hw : Grown W w) : Calls Try.prog 15 #[.int .i64 x] w fun e w' => e = .returned (.int .i64 (wrap32 x)) ∧ Grown W w' := by
  have hm := tmod_lit x 4294967296
  have hr : -4294967296 < x.tmod 4294967296 ∧ x.tmod 4294967296 < 4294967296 := by
    rw [hm]; split <;> omega
  have key : ∀ y : Int, -4294967296 < y → y < 4294967296 → y = x.tmod 4294967296 → wrap32 x = (if y < 0 then (if y + 4294967296 > 2147483647 then y + 4294967296 - 4294967296 else y + 4294967296) else if y > 2147483647 then y - 4294967296 else y) := by
    intro y h1 h2 e
    rw [e, hm]
    unfold wrap32
    split <;> split <;> split <;> omega
  have K := key _ hr.1 hr.2 rfl
  clear key hm
  obtain ⟨hr1, hr2⟩ := hr
  generalize hy : x.tmod 4294967296 = y at *
  have HY : Hid (x.tmod 4294967296 = y) := Go.Lib.hid hy
  clear hy
  have HK : Hid (wrap32 x = (if y < 0 then (if y + 4294967296 > 2147483647 then y + 4294967296 - 4294967296 else y + 4294967296) else if y > 2147483647 then y - 4294967296 else y)) := Go.Lib.hid K
  clear K
  have HY2 := HY.out
  by_cases h0 : y < 0
  · by_cases h1 : 2147483647 < y + 4294967296
    · go_enter Try.func15, Try.ntmps15
      go_wp2
      go_ret
      exact ⟨by rw [HK.out]; simp; omega, hw⟩
    · go_enter Try.func15, Try.ntmps15
      go_wp2
      go_ret
      exact ⟨by rw [HK.out]; simp; omega, hw⟩
  · by_cases h1 : 2147483647 < y
    · go_enter Try.func15, Try.ntmps15
      go_wp2
      go_ret
      exact ⟨by rw [HK.out]; simp; omega, hw⟩
    · go_enter Try.func15, Try.ntmps15
      go_wp2
      go_ret
      exact ⟨by rw [HK.out]; simp; omega, hw⟩
theorem ret_bool {a b : Bool} (h : b = a) : Ending.returned (.bool a) = .returned (.bool b) := by rw [h]
/-- bit i of the 32 bits of x -/
def bitB (x : Int) (i : Nat) : Bool := (bv x / 2 ^ i) % 2 == 1
theorem bit_any (x : Int) (i : Nat) (w : World) (hx : In32 x) (hi : i < 32) : Calls Try.prog 34 #[.int .i64 x, .int .i64 i] w fun e w' => e = .returned (.bool (bitB x i)) ∧ w = w' := by
  have hb := bv_eq x
  unfold In32 at hx
  obtain ⟨hx1, hx2⟩ := hx
  have HB : Hid (bitB x i = ((bv x / 2 ^ i) % 2 == 1)) := Go.Lib.hid rfl
  generalize hX : bv x = X at *
  clear hX
  by_cases h0 : x < 0
  · have e : x + 4294967296 = (X : Int) := by omega
    have HE : Hid (x + 4294967296 = (X : Int)) := Go.Lib.hid e
    have hX : X < 4294967296 := by omega
    clear e hb
    go_enter Try.func34, Try.ntmps34
    go_wp2
    rw [HE.out]
    go_loop [0, 5] (fun v k => ∃ j : Nat, j ≤ i ∧ v = .int .i64 ((X / 2 ^ j : Nat) : Int) ∧ k = .int .i64 (j : Int)) (fun _ k => i - (intOf k).toNat)
    case atStart => exact ⟨0, Nat.zero_le _, by simp, rfl⟩
    case round =>
      obtain ⟨j, hj, rfl, rfl⟩ := hrel
      have hz : X / 2 ^ j ≤ X := Nat.div_le_self _ _
      have HS : Hid (X / 2 ^ (j + 1) = X / 2 ^ j / 2) := Go.Lib.hid (by rw [Nat.pow_succ, Nat.div_div_eq_div_mul])
      generalize hY : X / 2 ^ j = Y at *
      by_cases hlt : j < i
      · go_wp2
        go_round
        case rel => exact ⟨j + 1, by omega, by rw [HS.out]; go_num, by go_num⟩
        case measure => simp [intOf]; omega
      · obtain rfl : j = i := by omega
        go_wp2
        go_ret
        exact ⟨ret_bool (by rw [HB.out, hY, Bool.eq_iff_iff]; simp; omega), rfl⟩
  · have e : x = (X : Int) := by omega
    have hX : X < 4294967296 := by omega
    subst e
    clear hb
    go_enter Try.func34, Try.ntmps34
    go_wp2
    go_loop [0, 5] (fun v k => ∃ j : Nat, j ≤ i ∧ v = .int .i64 ((X / 2 ^ j : Nat) : Int) ∧ k = .int .i64 (j : Int)) (fun _ k => i - (intOf k).toNat)
    case atStart => exact ⟨0, Nat.zero_le _, by simp, rfl⟩
    case round =>
      obtain ⟨j, hj, rfl, rfl⟩ := hrel
      have hz : X / 2 ^ j ≤ X := Nat.div_le_self _ _
      have HS : Hid (X / 2 ^ (j + 1) = X / 2 ^ j / 2) := Go.Lib.hid (by rw [Nat.pow_succ, Nat.div_div_eq_div_mul])
      generalize hY : X / 2 ^ j = Y at *
      by_cases hlt : j < i
      · go_wp2
        go_round
        case rel => exact ⟨j + 1, by omega, by rw [HS.out]; go_num, by go_num⟩
        case measure => simp [intOf]; omega
      · obtain rfl : j = i := by omega
        go_wp2
        go_ret
        exact ⟨ret_bool (by rw [HB.out, hY, Bool.eq_iff_iff]; simp; omega), rfl⟩
end Go.Proofs.Ytkgpnbfgfolekaa.Arith
