/- What arith.Do answers: an operation of two numbers of 32 bits. -/
import Derived.Test.YtkgpnbfgfolekaaProg
import Derived.WalkKit
import Derived.WalkSpells
import Derived.WalkLawsBesides
import Derived.RowKit3
import Derived.Laws.BitsLemmas
namespace Go.Proofs.Ytkgpnbfgfolekaa.Arith
open Go.RowKit
theorem and31 (b : Int) : bits BinOp.and IntKind.i32 b 31 = b % 32 := by
  have e : ((BitVec.ofInt 32 b &&& BitVec.ofInt 32 31).toNat : Int) = b % 32 := by
    have h31 : (BitVec.ofInt 32 31).toNat = 2 ^ 5 - 1 := by decide
    rw [BitVec.toNat_and, h31, Nat.and_two_pow_sub_one_eq_mod, BitVec.toNat_ofInt]
    omega
  show IntKind.i32.wrap ((BitVec.ofInt 32 b &&& BitVec.ofInt 32 31).toNat : Int) = b % 32
  rw [e, IntKind.wrap_i32]
  omega
theorem w64 (x : Int) : wrap64 (wrap32 x) = wrap32 x := by unfold wrap64 wrap32; omega
theorem ret_two {x y : Int} {b : Bool} (h : x = y) : Ending.returned (.tuple #[.int .i64 x, .bool b]) = .returned (.tuple #[.int .i64 y, .bool b]) := by rw [h]
set_option maxHeartbeats 1000000 in
theorem do_add (a b : Int) (w : World) (ha : -2147483648 ≤ a) (ha' : a ≤ 2147483647) (hb : -2147483648 ≤ b) (hb' : b ≤ 2147483647) :
    Calls Try.prog 7 #[.int .i64 0, .int .i64 a, .int .i64 b] w fun e w' => e = .returned (.tuple #[.int .i64 (wrap64 (wrap32 (a + b))), .bool true]) ∧ Grown w w' := by
  have e1 : wrap32 a = a := by unfold wrap32; omega
  have e2 : wrap32 b = b := by unfold wrap32; omega
  go_enter Try.func7, Try.ntmps7
  go_wp2
  go_ret2
  exact ⟨rfl, by repeat (first | exact Grown.refl _ | apply Grown.drew | apply Grown.alloc | (refine Grown.setCell ?_ (by simp) _))⟩
set_option maxHeartbeats 1000000 in
theorem do_sub (a b : Int) (w : World) (ha : -2147483648 ≤ a) (ha' : a ≤ 2147483647) (hb : -2147483648 ≤ b) (hb' : b ≤ 2147483647) :
    Calls Try.prog 7 #[.int .i64 1, .int .i64 a, .int .i64 b] w fun e w' => e = .returned (.tuple #[.int .i64 (wrap64 (wrap32 (a - b))), .bool true]) ∧ Grown w w' := by
  have e1 : wrap32 a = a := by unfold wrap32; omega
  have e2 : wrap32 b = b := by unfold wrap32; omega
  go_enter Try.func7, Try.ntmps7
  go_wp2
  go_ret2
  exact ⟨rfl, by repeat (first | exact Grown.refl _ | apply Grown.drew | apply Grown.alloc | (refine Grown.setCell ?_ (by simp) _))⟩
set_option maxHeartbeats 1000000 in
theorem do_mul (a b : Int) (w : World) (ha : -2147483648 ≤ a) (ha' : a ≤ 2147483647) (hb : -2147483648 ≤ b) (hb' : b ≤ 2147483647) :
    Calls Try.prog 7 #[.int .i64 2, .int .i64 a, .int .i64 b] w fun e w' => e = .returned (.tuple #[.int .i64 (wrap64 (wrap32 (a * b))), .bool true]) ∧ Grown w w' := by
  have e1 : wrap32 a = a := by unfold wrap32; omega
  have e2 : wrap32 b = b := by unfold wrap32; omega
  go_enter Try.func7, Try.ntmps7
  go_wp2
  go_ret2
  exact ⟨rfl, by repeat (first | exact Grown.refl _ | apply Grown.drew | apply Grown.alloc | (refine Grown.setCell ?_ (by simp) _))⟩
set_option maxHeartbeats 1000000 in
theorem do_neg (a b : Int) (w : World) (ha : -2147483648 ≤ a) (ha' : a ≤ 2147483647) (hb : -2147483648 ≤ b) (hb' : b ≤ 2147483647) :
    Calls Try.prog 7 #[.int .i64 5, .int .i64 a, .int .i64 b] w fun e w' => e = .returned (.tuple #[.int .i64 (wrap64 (wrap32 (-a))), .bool true]) ∧ Grown w w' := by
  have e1 : wrap32 a = a := by unfold wrap32; omega
  have e2 : wrap32 b = b := by unfold wrap32; omega
  go_enter Try.func7, Try.ntmps7
  go_wp2
  go_ret2
  exact ⟨rfl, by repeat (first | exact Grown.refl _ | apply Grown.drew | apply Grown.alloc | (refine Grown.setCell ?_ (by simp) _))⟩
set_option maxHeartbeats 1000000 in
theorem do_and (a b : Int) (w : World) (ha : -2147483648 ≤ a) (ha' : a ≤ 2147483647) (hb : -2147483648 ≤ b) (hb' : b ≤ 2147483647) :
    Calls Try.prog 7 #[.int .i64 6, .int .i64 a, .int .i64 b] w fun e w' => e = .returned (.tuple #[.int .i64 (wrap64 (bits BinOp.and IntKind.i32 a b)), .bool true]) ∧ Grown w w' := by
  have e1 : wrap32 a = a := by unfold wrap32; omega
  have e2 : wrap32 b = b := by unfold wrap32; omega
  go_enter Try.func7, Try.ntmps7
  go_wp2
  go_ret2
  exact ⟨rfl, by repeat (first | exact Grown.refl _ | apply Grown.drew | apply Grown.alloc | (refine Grown.setCell ?_ (by simp) _))⟩
set_option maxHeartbeats 1000000 in
theorem do_or (a b : Int) (w : World) (ha : -2147483648 ≤ a) (ha' : a ≤ 2147483647) (hb : -2147483648 ≤ b) (hb' : b ≤ 2147483647) :
    Calls Try.prog 7 #[.int .i64 7, .int .i64 a, .int .i64 b] w fun e w' => e = .returned (.tuple #[.int .i64 (wrap64 (bits BinOp.or IntKind.i32 a b)), .bool true]) ∧ Grown w w' := by
  have e1 : wrap32 a = a := by unfold wrap32; omega
  have e2 : wrap32 b = b := by unfold wrap32; omega
  go_enter Try.func7, Try.ntmps7
  go_wp2
  go_ret2
  exact ⟨rfl, by repeat (first | exact Grown.refl _ | apply Grown.drew | apply Grown.alloc | (refine Grown.setCell ?_ (by simp) _))⟩
set_option maxHeartbeats 1000000 in
theorem do_xor (a b : Int) (w : World) (ha : -2147483648 ≤ a) (ha' : a ≤ 2147483647) (hb : -2147483648 ≤ b) (hb' : b ≤ 2147483647) :
    Calls Try.prog 7 #[.int .i64 8, .int .i64 a, .int .i64 b] w fun e w' => e = .returned (.tuple #[.int .i64 (wrap64 (bits BinOp.xor IntKind.i32 a b)), .bool true]) ∧ Grown w w' := by
  have e1 : wrap32 a = a := by unfold wrap32; omega
  have e2 : wrap32 b = b := by unfold wrap32; omega
  go_enter Try.func7, Try.ntmps7
  go_wp2
  go_ret2
  exact ⟨rfl, by repeat (first | exact Grown.refl _ | apply Grown.drew | apply Grown.alloc | (refine Grown.setCell ?_ (by simp) _))⟩
set_option maxHeartbeats 1000000 in
theorem do_shl (a b : Int) (w : World) (ha : -2147483648 ≤ a) (ha' : a ≤ 2147483647) (hb : -2147483648 ≤ b) (hb' : b ≤ 2147483647) :
    Calls Try.prog 7 #[.int .i64 9, .int .i64 a, .int .i64 b] w fun e w' => e = .returned (.tuple #[.int .i64 (wrap64 (wrap32 (a * 2 ^ (b % 32).toNat))), .bool true]) ∧ Grown w w' := by
  have e1 : wrap32 a = a := by unfold wrap32; omega
  have e2 : wrap32 b = b := by unfold wrap32; omega
  have e3 := and31 b
  have h0 : 0 ≤ b % 32 := by omega
  have h1 : b % 32 ≤ 32 := by omega
  go_enter Try.func7, Try.ntmps7
  go_wp2
  go_ret2
  exact ⟨rfl, by repeat (first | exact Grown.refl _ | apply Grown.drew | apply Grown.alloc | (refine Grown.setCell ?_ (by simp) _))⟩
set_option maxHeartbeats 1000000 in
theorem do_shr (a b : Int) (w : World) (ha : -2147483648 ≤ a) (ha' : a ≤ 2147483647) (hb : -2147483648 ≤ b) (hb' : b ≤ 2147483647) :
    Calls Try.prog 7 #[.int .i64 10, .int .i64 a, .int .i64 b] w fun e w' => e = .returned (.tuple #[.int .i64 (wrap64 (a / 2 ^ (b % 32).toNat)), .bool true]) ∧ Grown w w' := by
  have e1 : wrap32 a = a := by unfold wrap32; omega
  have e2 : wrap32 b = b := by unfold wrap32; omega
  have e3 := and31 b
  have h0 : 0 ≤ b % 32 := by omega
  have h1 : b % 32 ≤ 32 := by omega
  go_enter Try.func7, Try.ntmps7
  go_wp2
  go_ret2
  exact ⟨rfl, by repeat (first | exact Grown.refl _ | apply Grown.drew | apply Grown.alloc | (refine Grown.setCell ?_ (by simp) _))⟩
set_option maxHeartbeats 1000000 in
theorem do_ushr (a b : Int) (w : World) (ha : -2147483648 ≤ a) (ha' : a ≤ 2147483647) (hb : -2147483648 ≤ b) (hb' : b ≤ 2147483647) :
    Calls Try.prog 7 #[.int .i64 11, .int .i64 a, .int .i64 b] w fun e w' => e = .returned (.tuple #[.int .i64 (wrap64 (wrap32 (IntKind.u32.wrap a / 2 ^ (b % 32).toNat))), .bool true]) ∧ Grown w w' := by
  have e1 : wrap32 a = a := by unfold wrap32; omega
  have e2 : wrap32 b = b := by unfold wrap32; omega
  have e3 := and31 b
  have h0 : 0 ≤ b % 32 := by omega
  have h1 : b % 32 ≤ 32 := by omega
  go_enter Try.func7, Try.ntmps7
  go_wp2
  go_ret2
  exact ⟨rfl, by repeat (first | exact Grown.refl _ | apply Grown.drew | apply Grown.alloc | (refine Grown.setCell ?_ (by simp) _))⟩
end Go.Proofs.Ytkgpnbfgfolekaa.Arith
