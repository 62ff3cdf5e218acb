/- gneisslaw1.ArithBits answers true. -/
import Derived.Test.YtkgpnbfgfolekaaLawL
namespace Go.Proofs.Ytkgpnbfgfolekaa.Arith
open Go.RowKit
theorem and31' (k : Int) : ∃ s : Int, 0 ≤ s ∧ s ≤ 31 ∧ bits BinOp.and IntKind.i64 k 31 = s := by
  refine ⟨k % 32, by omega, by omega, ?_⟩
  have e : ((BitVec.ofInt 64 k &&& BitVec.ofInt 64 31).toNat : Int) = k % 32 := by
    have h31 : (BitVec.ofInt 64 31).toNat = 2 ^ 5 - 1 := by decide
    rw [BitVec.toNat_and, h31, Nat.and_two_pow_sub_one_eq_mod, BitVec.toNat_ofInt]
    omega
  show IntKind.i64.wrap ((BitVec.ofInt 64 k &&& BitVec.ofInt 64 31).toNat : Int) = k % 32
  rw [e, IntKind.wrap_i64]
  omega
theorem bits_at {W : World} {p q k a b : Int} (ha : In32 a) (hb : In32 b) (N1 : Num W p a) (N2 : Num W q b) : Calls Try.prog 5 #[.int .i64 p, .int .i64 q, .int .i64 k] W fun e w' => e = .returned (.bool true) ∧ Grown W w' := by
  obtain ⟨s, hs0, hs1, hs⟩ := and31' k
  have hs' : In32 s := by unfold In32; omega
  have hs2 : In32 (s + 32) := by unfold In32; omega
  have hs3 : In32 (s + 64) := by unfold In32; omega
  have h31 : In32 31 := ⟨by decide, by decide⟩
  have AW := awake_any W
  have C1 := (e_and (W := W) ha hb).d
  have C2 := (e_or (W := W) ha hb).d
  have C3 := (e_xor (W := W) ha hb).d
  have C4 : D W 0 (vand a b) (vor a b) (vadd a b) := ((e_add (W := W) (vand_in a b) (vor_in a b)).d).to (bits_add a b)
  have C5 := (e_add (W := W) ha hb).d
  have C6 : D W 1 (vor a b) (vand a b) (vxor a b) := ((e_sub (W := W) (vor_in a b) (vand_in a b)).d).to (bits_sub a b)
  have C7 : D W 8 (vxor a b) b a := ((e_xor (W := W) (vxor_in a b) hb).d).to (bits_xor b ha)
  have C8 := (e_shl (W := W) ha hs').d
  have C9 := (e_ushr (W := W) (vshl_in a s) hs').d
  have C10 : D W 9 (vushr (vshl a s) s) s (vshl a s) := ((e_shl (W := W) (vushr_in (vshl a s) s) hs').d).to (up_low hs0 hs1)
  have C11 : D W 9 a (s + 32) (vshl a s) := ((e_shl (W := W) ha hs2).d).to (shl_add32 a s)
  have C12 : D W 10 a (s + 64) (vshr a s) := ((e_shr (W := W) ha hs3).d).to (shr_add64 a s)
  have C13 := (e_shr (W := W) ha hs').d
  have hg := Grown.refl W
  by_cases h0 : a < 0
  · have C14 : D W 10 a 31 (-1) := ((e_shr (W := W) ha h31).d).to (by rw [shr31 ha]; simp [h0])
    have C15 : D W 11 a 31 1 := ((e_ushr (W := W) ha h31).d).to (by rw [ushr31 ha]; simp [h0])
    clear hs' hs2 hs3 h31
    go_enter Try.func5, Try.ntmps5
    go_wp2_with (first
      | (go_at_call 9; (with_reducible refine (AW.go ‹_›).mono ?_); rintro e w1 ⟨rfl, hg1⟩)
      | (go_at_call 10; first
        | ((with_reducible refine (N1.go ‹_›).mono ?_); rintro e w1 ⟨rfl, hg1⟩)
        | ((with_reducible refine (N2.go ‹_›).mono ?_); rintro e w1 ⟨rfl, hg1⟩))
      | (go_at_call 11; first
        | ((with_reducible refine (C1.go ‹_›).mono ?_); rintro e w1 ⟨rfl, hg1⟩)
        | ((with_reducible refine (C2.go ‹_›).mono ?_); rintro e w1 ⟨rfl, hg1⟩)
        | ((with_reducible refine (C3.go ‹_›).mono ?_); rintro e w1 ⟨rfl, hg1⟩)
        | ((with_reducible refine (C4.go ‹_›).mono ?_); rintro e w1 ⟨rfl, hg1⟩)
        | ((with_reducible refine (C5.go ‹_›).mono ?_); rintro e w1 ⟨rfl, hg1⟩)
        | ((with_reducible refine (C6.go ‹_›).mono ?_); rintro e w1 ⟨rfl, hg1⟩)
        | ((with_reducible refine (C7.go ‹_›).mono ?_); rintro e w1 ⟨rfl, hg1⟩)
        | ((with_reducible refine (C8.go ‹_›).mono ?_); rintro e w1 ⟨rfl, hg1⟩)
        | ((with_reducible refine (C9.go ‹_›).mono ?_); rintro e w1 ⟨rfl, hg1⟩)
        | ((with_reducible refine (C10.go ‹_›).mono ?_); rintro e w1 ⟨rfl, hg1⟩)
        | ((with_reducible refine (C11.go ‹_›).mono ?_); rintro e w1 ⟨rfl, hg1⟩)
        | ((with_reducible refine (C12.go ‹_›).mono ?_); rintro e w1 ⟨rfl, hg1⟩)
        | ((with_reducible refine (C13.go ‹_›).mono ?_); rintro e w1 ⟨rfl, hg1⟩)
        | ((with_reducible refine (C14.go ‹_›).mono ?_); rintro e w1 ⟨rfl, hg1⟩)
        | ((with_reducible refine (C15.go ‹_›).mono ?_); rintro e w1 ⟨rfl, hg1⟩)))
    go_ret
    exact ⟨rfl, by assumption⟩
  · have C14 : D W 10 a 31 0 := ((e_shr (W := W) ha h31).d).to (by rw [shr31 ha]; simp [h0])
    have C15 : D W 11 a 31 0 := ((e_ushr (W := W) ha h31).d).to (by rw [ushr31 ha]; simp [h0])
    have hd : decide (a < 0) = false := by simpa using h0
    clear hs' hs2 hs3 h31
    go_enter Try.func5, Try.ntmps5
    go_wp2_with (first
      | (go_at_call 9; (with_reducible refine (AW.go ‹_›).mono ?_); rintro e w1 ⟨rfl, hg1⟩)
      | (go_at_call 10; first
        | ((with_reducible refine (N1.go ‹_›).mono ?_); rintro e w1 ⟨rfl, hg1⟩)
        | ((with_reducible refine (N2.go ‹_›).mono ?_); rintro e w1 ⟨rfl, hg1⟩))
      | (go_at_call 11; first
        | ((with_reducible refine (C1.go ‹_›).mono ?_); rintro e w1 ⟨rfl, hg1⟩)
        | ((with_reducible refine (C2.go ‹_›).mono ?_); rintro e w1 ⟨rfl, hg1⟩)
        | ((with_reducible refine (C3.go ‹_›).mono ?_); rintro e w1 ⟨rfl, hg1⟩)
        | ((with_reducible refine (C4.go ‹_›).mono ?_); rintro e w1 ⟨rfl, hg1⟩)
        | ((with_reducible refine (C5.go ‹_›).mono ?_); rintro e w1 ⟨rfl, hg1⟩)
        | ((with_reducible refine (C6.go ‹_›).mono ?_); rintro e w1 ⟨rfl, hg1⟩)
        | ((with_reducible refine (C7.go ‹_›).mono ?_); rintro e w1 ⟨rfl, hg1⟩)
        | ((with_reducible refine (C8.go ‹_›).mono ?_); rintro e w1 ⟨rfl, hg1⟩)
        | ((with_reducible refine (C9.go ‹_›).mono ?_); rintro e w1 ⟨rfl, hg1⟩)
        | ((with_reducible refine (C10.go ‹_›).mono ?_); rintro e w1 ⟨rfl, hg1⟩)
        | ((with_reducible refine (C11.go ‹_›).mono ?_); rintro e w1 ⟨rfl, hg1⟩)
        | ((with_reducible refine (C12.go ‹_›).mono ?_); rintro e w1 ⟨rfl, hg1⟩)
        | ((with_reducible refine (C13.go ‹_›).mono ?_); rintro e w1 ⟨rfl, hg1⟩)
        | ((with_reducible refine (C14.go ‹_›).mono ?_); rintro e w1 ⟨rfl, hg1⟩)
        | ((with_reducible refine (C15.go ‹_›).mono ?_); rintro e w1 ⟨rfl, hg1⟩)))
    go_ret
    exact ⟨rfl, by assumption⟩
end Go.Proofs.Ytkgpnbfgfolekaa.Arith
