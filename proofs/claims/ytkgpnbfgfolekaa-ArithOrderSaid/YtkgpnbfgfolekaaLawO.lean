/- gneisslaw1.ArithOrder answers true. -/
import Derived.Test.YtkgpnbfgfolekaaLawL
namespace Go.Proofs.Ytkgpnbfgfolekaa.Arith
open Go.RowKit
set_option maxHeartbeats 4000000 in
theorem order_at {W : World} {p q k a b s : Int} (ha : In32 a) (hb : In32 b) (N1 : Num W p a) (N2 : Num W q b) (hk : (k.tmod 31 < 0 ∧ s = -(k.tmod 31)) ∨ (¬ k.tmod 31 < 0 ∧ s = k.tmod 31)) (h0 : 0 ≤ s) (h1 : s ≤ 30) : Calls Try.prog 6 #[.int .i64 p, .int .i64 q, .int .i64 k] W fun e w' => e = .returned (.bool true) ∧ Grown W w' := by
  have hs' : In32 s := by unfold In32; omega
  have one : In32 1 := ⟨by decide, by decide⟩
  have AW := awake_any W
  have C1 := (e_shl (W := W) one hs').d
  have C2 := (e_shl (W := W) ha hs').d
  have C3 : D W 2 a (vshl 1 s) (vshl a s) := ((e_mul (W := W) ha (vshl_in 1 s)).d).to (shl_mul h0 h1).symm
  have C4 := (e_shr (W := W) ha hs').d
  have C5 := (e_mul (W := W) (vshr_in s ha) (vshl_in 1 s)).d
  have C6 := (e_sub (W := W) ha (vmul_in (vshr a s) (vshl 1 s))).d
  obtain ⟨l1, l2, l3⟩ := low_in (a := a) h0 h1
  generalize vsub a (vmul (vshr a s) (vshl 1 s)) = low at *
  generalize vmul (vshr a s) (vshl 1 s) = m at *
  generalize vshr a s = down at *
  generalize vshl a s = up at *
  generalize vshl 1 s = two at *
  have l1' : ¬ low < 0 := by omega
  have l2' : ¬ two ≤ low := by omega
  clear one
  have hg := Grown.refl W
  generalize hy : k.tmod 31 = y at *
  by_cases hb0 : b = 0
  · subst hb0
    have C7 : E7 W 3 a 0 0 false := e_div0 ha
    rcases hk with ⟨hn, rfl⟩ | ⟨hn, rfl⟩
    · go_enter Try.func6, Try.ntmps6
      go_wp2_with (first
        | (go_at_call 9; (with_reducible refine (AW.go ‹_›).mono ?_); rintro e w1 ⟨rfl, hg1⟩)
        | (go_at_call 10; first
          | ((with_reducible refine (N1.go ‹_›).mono ?_); rintro e w1 ⟨rfl, hg1⟩)
          | ((with_reducible refine (N2.go ‹_›).mono ?_); rintro e w1 ⟨rfl, hg1⟩))
        | (go_at_call 7; first
          | ((with_reducible refine (C7.go ‹_›).mono ?_); rintro e w1 ⟨rfl, hg1⟩))
        | (go_at_call 11; first
          | ((with_reducible refine (C1.go ‹_›).mono ?_); rintro e w1 ⟨rfl, hg1⟩)
          | ((with_reducible refine (C2.go ‹_›).mono ?_); rintro e w1 ⟨rfl, hg1⟩)
          | ((with_reducible refine (C3.go ‹_›).mono ?_); rintro e w1 ⟨rfl, hg1⟩)
          | ((with_reducible refine (C4.go ‹_›).mono ?_); rintro e w1 ⟨rfl, hg1⟩)
          | ((with_reducible refine (C5.go ‹_›).mono ?_); rintro e w1 ⟨rfl, hg1⟩)
          | ((with_reducible refine (C6.go ‹_›).mono ?_); rintro e w1 ⟨rfl, hg1⟩)))
      go_ret
      exact ⟨rfl, by assumption⟩
    · go_enter Try.func6, Try.ntmps6
      go_wp2_with (first
        | (go_at_call 9; (with_reducible refine (AW.go ‹_›).mono ?_); rintro e w1 ⟨rfl, hg1⟩)
        | (go_at_call 10; first
          | ((with_reducible refine (N1.go ‹_›).mono ?_); rintro e w1 ⟨rfl, hg1⟩)
          | ((with_reducible refine (N2.go ‹_›).mono ?_); rintro e w1 ⟨rfl, hg1⟩))
        | (go_at_call 7; first
          | ((with_reducible refine (C7.go ‹_›).mono ?_); rintro e w1 ⟨rfl, hg1⟩))
        | (go_at_call 11; first
          | ((with_reducible refine (C1.go ‹_›).mono ?_); rintro e w1 ⟨rfl, hg1⟩)
          | ((with_reducible refine (C2.go ‹_›).mono ?_); rintro e w1 ⟨rfl, hg1⟩)
          | ((with_reducible refine (C3.go ‹_›).mono ?_); rintro e w1 ⟨rfl, hg1⟩)
          | ((with_reducible refine (C4.go ‹_›).mono ?_); rintro e w1 ⟨rfl, hg1⟩)
          | ((with_reducible refine (C5.go ‹_›).mono ?_); rintro e w1 ⟨rfl, hg1⟩)
          | ((with_reducible refine (C6.go ‹_›).mono ?_); rintro e w1 ⟨rfl, hg1⟩)))
      go_ret
      exact ⟨rfl, by assumption⟩
  · have C8 := (e_rem (W := W) ha hb hb0).d
    have hz : (b == 0) = false := by simpa using hb0
    have hr := rem_sign b ha
    generalize vrem a b = r at *
    clear hb0
    by_cases hr0 : r = 0
    · have hrz : (r == 0) = true := by simpa using hr0
      clear hr0 hr
      rcases hk with ⟨hn, rfl⟩ | ⟨hn, rfl⟩
      · go_enter Try.func6, Try.ntmps6
        go_wp2_with (first
          | (go_at_call 9; (with_reducible refine (AW.go ‹_›).mono ?_); rintro e w1 ⟨rfl, hg1⟩)
          | (go_at_call 10; first
            | ((with_reducible refine (N1.go ‹_›).mono ?_); rintro e w1 ⟨rfl, hg1⟩)
            | ((with_reducible refine (N2.go ‹_›).mono ?_); rintro e w1 ⟨rfl, hg1⟩))
          | (go_at_call 11; first
            | ((with_reducible refine (C1.go ‹_›).mono ?_); rintro e w1 ⟨rfl, hg1⟩)
            | ((with_reducible refine (C2.go ‹_›).mono ?_); rintro e w1 ⟨rfl, hg1⟩)
            | ((with_reducible refine (C3.go ‹_›).mono ?_); rintro e w1 ⟨rfl, hg1⟩)
            | ((with_reducible refine (C4.go ‹_›).mono ?_); rintro e w1 ⟨rfl, hg1⟩)
            | ((with_reducible refine (C5.go ‹_›).mono ?_); rintro e w1 ⟨rfl, hg1⟩)
            | ((with_reducible refine (C6.go ‹_›).mono ?_); rintro e w1 ⟨rfl, hg1⟩)
            | ((with_reducible refine (C8.go ‹_›).mono ?_); rintro e w1 ⟨rfl, hg1⟩)))
        go_ret
        exact ⟨rfl, by assumption⟩
      · go_enter Try.func6, Try.ntmps6
        go_wp2_with (first
          | (go_at_call 9; (with_reducible refine (AW.go ‹_›).mono ?_); rintro e w1 ⟨rfl, hg1⟩)
          | (go_at_call 10; first
            | ((with_reducible refine (N1.go ‹_›).mono ?_); rintro e w1 ⟨rfl, hg1⟩)
            | ((with_reducible refine (N2.go ‹_›).mono ?_); rintro e w1 ⟨rfl, hg1⟩))
          | (go_at_call 11; first
            | ((with_reducible refine (C1.go ‹_›).mono ?_); rintro e w1 ⟨rfl, hg1⟩)
            | ((with_reducible refine (C2.go ‹_›).mono ?_); rintro e w1 ⟨rfl, hg1⟩)
            | ((with_reducible refine (C3.go ‹_›).mono ?_); rintro e w1 ⟨rfl, hg1⟩)
            | ((with_reducible refine (C4.go ‹_›).mono ?_); rintro e w1 ⟨rfl, hg1⟩)
            | ((with_reducible refine (C5.go ‹_›).mono ?_); rintro e w1 ⟨rfl, hg1⟩)
            | ((with_reducible refine (C6.go ‹_›).mono ?_); rintro e w1 ⟨rfl, hg1⟩)
            | ((with_reducible refine (C8.go ‹_›).mono ?_); rintro e w1 ⟨rfl, hg1⟩)))
        go_ret
        exact ⟨rfl, by assumption⟩
    · have hrz : (r == 0) = false := by simpa using hr0
      have hra : r < 0 ↔ a < 0 := by rcases hr with hr | hr; exact absurd hr hr0; exact hr
      clear hr0 hr
      by_cases hneg : a < 0
      · have hrn : r < 0 := hra.2 hneg
        have hd1 : decide (r < 0) = true := by simpa using hrn
        have hd2 : decide (a < 0) = true := by simpa using hneg
        clear hra hneg hrn
        rcases hk with ⟨hn, rfl⟩ | ⟨hn, rfl⟩
        · go_enter Try.func6, Try.ntmps6
          go_wp2_with (first
            | (go_at_call 9; (with_reducible refine (AW.go ‹_›).mono ?_); rintro e w1 ⟨rfl, hg1⟩)
            | (go_at_call 10; first
              | ((with_reducible refine (N1.go ‹_›).mono ?_); rintro e w1 ⟨rfl, hg1⟩)
              | ((with_reducible refine (N2.go ‹_›).mono ?_); rintro e w1 ⟨rfl, hg1⟩))
            | (go_at_call 11; first
              | ((with_reducible refine (C1.go ‹_›).mono ?_); rintro e w1 ⟨rfl, hg1⟩)
              | ((with_reducible refine (C2.go ‹_›).mono ?_); rintro e w1 ⟨rfl, hg1⟩)
              | ((with_reducible refine (C3.go ‹_›).mono ?_); rintro e w1 ⟨rfl, hg1⟩)
              | ((with_reducible refine (C4.go ‹_›).mono ?_); rintro e w1 ⟨rfl, hg1⟩)
              | ((with_reducible refine (C5.go ‹_›).mono ?_); rintro e w1 ⟨rfl, hg1⟩)
              | ((with_reducible refine (C6.go ‹_›).mono ?_); rintro e w1 ⟨rfl, hg1⟩)
              | ((with_reducible refine (C8.go ‹_›).mono ?_); rintro e w1 ⟨rfl, hg1⟩)))
          go_ret
          exact ⟨rfl, by assumption⟩
        · go_enter Try.func6, Try.ntmps6
          go_wp2_with (first
            | (go_at_call 9; (with_reducible refine (AW.go ‹_›).mono ?_); rintro e w1 ⟨rfl, hg1⟩)
            | (go_at_call 10; first
              | ((with_reducible refine (N1.go ‹_›).mono ?_); rintro e w1 ⟨rfl, hg1⟩)
              | ((with_reducible refine (N2.go ‹_›).mono ?_); rintro e w1 ⟨rfl, hg1⟩))
            | (go_at_call 11; first
              | ((with_reducible refine (C1.go ‹_›).mono ?_); rintro e w1 ⟨rfl, hg1⟩)
              | ((with_reducible refine (C2.go ‹_›).mono ?_); rintro e w1 ⟨rfl, hg1⟩)
              | ((with_reducible refine (C3.go ‹_›).mono ?_); rintro e w1 ⟨rfl, hg1⟩)
              | ((with_reducible refine (C4.go ‹_›).mono ?_); rintro e w1 ⟨rfl, hg1⟩)
              | ((with_reducible refine (C5.go ‹_›).mono ?_); rintro e w1 ⟨rfl, hg1⟩)
              | ((with_reducible refine (C6.go ‹_›).mono ?_); rintro e w1 ⟨rfl, hg1⟩)
              | ((with_reducible refine (C8.go ‹_›).mono ?_); rintro e w1 ⟨rfl, hg1⟩)))
          go_ret
          exact ⟨rfl, by assumption⟩
      · have hrn : ¬ r < 0 := fun h => hneg (hra.1 h)
        have hd1 : decide (r < 0) = false := by simpa using hrn
        have hd2 : decide (a < 0) = false := by simpa using hneg
        clear hra hneg hrn
        rcases hk with ⟨hn, rfl⟩ | ⟨hn, rfl⟩
        · go_enter Try.func6, Try.ntmps6
          go_wp2_with (first
            | (go_at_call 9; (with_reducible refine (AW.go ‹_›).mono ?_); rintro e w1 ⟨rfl, hg1⟩)
            | (go_at_call 10; first
              | ((with_reducible refine (N1.go ‹_›).mono ?_); rintro e w1 ⟨rfl, hg1⟩)
              | ((with_reducible refine (N2.go ‹_›).mono ?_); rintro e w1 ⟨rfl, hg1⟩))
            | (go_at_call 11; first
              | ((with_reducible refine (C1.go ‹_›).mono ?_); rintro e w1 ⟨rfl, hg1⟩)
              | ((with_reducible refine (C2.go ‹_›).mono ?_); rintro e w1 ⟨rfl, hg1⟩)
              | ((with_reducible refine (C3.go ‹_›).mono ?_); rintro e w1 ⟨rfl, hg1⟩)
              | ((with_reducible refine (C4.go ‹_›).mono ?_); rintro e w1 ⟨rfl, hg1⟩)
              | ((with_reducible refine (C5.go ‹_›).mono ?_); rintro e w1 ⟨rfl, hg1⟩)
              | ((with_reducible refine (C6.go ‹_›).mono ?_); rintro e w1 ⟨rfl, hg1⟩)
              | ((with_reducible refine (C8.go ‹_›).mono ?_); rintro e w1 ⟨rfl, hg1⟩)))
          go_ret
          exact ⟨rfl, by assumption⟩
        · go_enter Try.func6, Try.ntmps6
          go_wp2_with (first
            | (go_at_call 9; (with_reducible refine (AW.go ‹_›).mono ?_); rintro e w1 ⟨rfl, hg1⟩)
            | (go_at_call 10; first
              | ((with_reducible refine (N1.go ‹_›).mono ?_); rintro e w1 ⟨rfl, hg1⟩)
              | ((with_reducible refine (N2.go ‹_›).mono ?_); rintro e w1 ⟨rfl, hg1⟩))
            | (go_at_call 11; first
              | ((with_reducible refine (C1.go ‹_›).mono ?_); rintro e w1 ⟨rfl, hg1⟩)
              | ((with_reducible refine (C2.go ‹_›).mono ?_); rintro e w1 ⟨rfl, hg1⟩)
              | ((with_reducible refine (C3.go ‹_›).mono ?_); rintro e w1 ⟨rfl, hg1⟩)
              | ((with_reducible refine (C4.go ‹_›).mono ?_); rintro e w1 ⟨rfl, hg1⟩)
              | ((with_reducible refine (C5.go ‹_›).mono ?_); rintro e w1 ⟨rfl, hg1⟩)
              | ((with_reducible refine (C6.go ‹_›).mono ?_); rintro e w1 ⟨rfl, hg1⟩)
              | ((with_reducible refine (C8.go ‹_›).mono ?_); rintro e w1 ⟨rfl, hg1⟩)))
          go_ret
          exact ⟨rfl, by assumption⟩
end Go.Proofs.Ytkgpnbfgfolekaa.Arith
