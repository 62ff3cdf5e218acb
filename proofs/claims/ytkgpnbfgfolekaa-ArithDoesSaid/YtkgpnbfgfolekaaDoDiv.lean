/- What arith.Do answers: quotients, rests, and what it refuses. -/
import Derived.Test.YtkgpnbfgfolekaaDo
namespace Go.Proofs.Ytkgpnbfgfolekaa.Arith
open Go.RowKit
set_option maxHeartbeats 1000000 in
theorem do_div (a b : Int) (w : World) (ha : -2147483648 ≤ a) (ha' : a ≤ 2147483647) (hb : -2147483648 ≤ b) (hb' : b ≤ 2147483647) (hz : (b == 0) = false) (hn : ¬ b = 0) :
    Calls Try.prog 7 #[.int .i64 3, .int .i64 a, .int .i64 b] w fun e w' => e = .returned (.tuple #[.int .i64 (wrap64 (wrap32 (wrap64 (a.tdiv b)))), .bool true]) ∧ Grown w w' := by
  have e1 : wrap32 a = a := by unfold wrap32; omega
  have e2 : wrap32 b = b := by unfold wrap32; omega
  go_enter Try.func7, Try.ntmps7
  go_wp2
  go_ret2
  exact ⟨rfl, by repeat (first | exact Grown.refl _ | apply Grown.drew | apply Grown.alloc | (refine Grown.setCell ?_ (by simp) _))⟩
set_option maxHeartbeats 1000000 in
theorem do_div0 (a : Int) (w : World) (ha : -2147483648 ≤ a) (ha' : a ≤ 2147483647) :
    Calls Try.prog 7 #[.int .i64 3, .int .i64 a, .int .i64 0] w fun e w' => e = .returned (.tuple #[.int .i64 0, .bool false]) ∧ Grown w w' := by
  have e1 : wrap32 a = a := by unfold wrap32; omega
  go_enter Try.func7, Try.ntmps7
  go_wp2
  go_ret2
  exact ⟨rfl, by repeat (first | exact Grown.refl _ | apply Grown.drew | apply Grown.alloc | (refine Grown.setCell ?_ (by simp) _))⟩
set_option maxHeartbeats 1000000 in
theorem do_rem (a b : Int) (w : World) (ha : -2147483648 ≤ a) (ha' : a ≤ 2147483647) (hb : -2147483648 ≤ b) (hb' : b ≤ 2147483647) (hz : (b == 0) = false) (hn : ¬ b = 0) :
    Calls Try.prog 7 #[.int .i64 4, .int .i64 a, .int .i64 b] w fun e w' => e = .returned (.tuple #[.int .i64 (wrap64 (wrap32 (a.tmod b))), .bool true]) ∧ Grown w w' := by
  have e1 : wrap32 a = a := by unfold wrap32; omega
  have e2 : wrap32 b = b := by unfold wrap32; omega
  go_enter Try.func7, Try.ntmps7
  go_wp2
  go_ret2
  exact ⟨rfl, by repeat (first | exact Grown.refl _ | apply Grown.drew | apply Grown.alloc | (refine Grown.setCell ?_ (by simp) _))⟩
set_option maxHeartbeats 1000000 in
theorem do_rem0 (a : Int) (w : World) (ha : -2147483648 ≤ a) (ha' : a ≤ 2147483647) :
    Calls Try.prog 7 #[.int .i64 4, .int .i64 a, .int .i64 0] w fun e w' => e = .returned (.tuple #[.int .i64 0, .bool false]) ∧ Grown w w' := by
  have e1 : wrap32 a = a := by unfold wrap32; omega
  go_enter Try.func7, Try.ntmps7
  go_wp2
  go_ret2
  exact ⟨rfl, by repeat (first | exact Grown.refl _ | apply Grown.drew | apply Grown.alloc | (refine Grown.setCell ?_ (by simp) _))⟩
set_option maxHeartbeats 1000000 in
theorem do_no (op a b : Int) (w : World) (h : op < 0 ∨ 11 < op ∨ (a == wrap64 (wrap32 a)) = false ∨ (b == wrap64 (wrap32 b)) = false) :
    Calls Try.prog 7 #[.int .i64 op, .int .i64 a, .int .i64 b] w fun e w' => e = .returned (.tuple #[.int .i64 0, .bool false]) ∧ Grown w w' := by
  by_cases h0 : op < 0
  · go_enter Try.func7, Try.ntmps7
    go_wp2
    go_ret2
    exact ⟨rfl, Grown.refl _⟩
  · by_cases h1 : 11 < op
    · go_enter Try.func7, Try.ntmps7
      go_wp2
      go_ret2
      exact ⟨rfl, Grown.refl _⟩
    · cases h2 : (a == wrap64 (wrap32 a)) with
      | false =>
        clear h
        go_enter Try.func7, Try.ntmps7
        go_wp2
        go_ret2
        exact ⟨rfl, Grown.refl _⟩
      | true =>
        have h3 : (b == wrap64 (wrap32 b)) = false := by simp [h0, h1, h2] at h; simpa using h
        clear h
        go_enter Try.func7, Try.ntmps7
        go_wp2
        go_ret2
        exact ⟨rfl, Grown.refl _⟩
end Go.Proofs.Ytkgpnbfgfolekaa.Arith
