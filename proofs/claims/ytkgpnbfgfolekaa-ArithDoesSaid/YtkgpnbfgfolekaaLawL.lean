/- gneisslaw1.awake and gneisslaw1.ArithLaws answer true. -/
import Derived.Test.YtkgpnbfgfolekaaLawA
namespace Go.Proofs.Ytkgpnbfgfolekaa.Arith
open Go.RowKit
def Num (W : World) (x v : Int) : Prop := ∀ w, Grown W w → Calls Try.prog 10 #[.int .i64 x] w fun e w' => e = .returned (.int .i64 v) ∧ Grown W w'
def Aw (W : World) : Prop := ∀ w, Grown W w → Calls Try.prog 9 #[] w fun e w' => e = .returned (.bool true) ∧ Grown W w'
theorem E7.go {W w : World} {op a b v : Int} {ok : Bool} (h : E7 W op a b v ok) (hw : Grown W w) : Calls Try.prog 7 #[.int .i64 op, .int .i64 a, .int .i64 b] w fun e w' => e = .returned (.tuple #[.int .i64 v, .bool ok]) ∧ Grown W w' := h w hw
theorem D.go {W w : World} {op a b v : Int} (h : D W op a b v) (hw : Grown W w) : Calls Try.prog 11 #[.int .i64 op, .int .i64 a, .int .i64 b] w fun e w' => e = .returned (.int .i64 v) ∧ Grown W w' := h w hw
theorem Num.go {W w : World} {x v : Int} (h : Num W x v) (hw : Grown W w) : Calls Try.prog 10 #[.int .i64 x] w fun e w' => e = .returned (.int .i64 v) ∧ Grown W w' := h w hw
theorem Aw.go {W w : World} (h : Aw W) (hw : Grown W w) : Calls Try.prog 9 #[] w fun e w' => e = .returned (.bool true) ∧ Grown W w' := h w hw
theorem nm0 (W w : World) (hw : Grown W w) : Calls Try.prog 19 #[.int .i64 0] w fun e w' => e = .returned (.int .i64 0) ∧ Grown W w' := by
  go_enter Try.func19, Try.ntmps19
  go_wp2
  go_ret
  exact ⟨rfl, hw⟩
theorem num_of (W : World) (x : Int) : ∃ v, In32 v ∧ Num W x v := ⟨wrap32 x, wrap_in x, fun w hw => number_any x W w hw⟩
theorem E7.to {W : World} {op a b u v : Int} {ok : Bool} (h : E7 W op a b u ok) (e : u = v) : E7 W op a b v ok := e ▸ h
theorem awake_any (W : World) : Aw W := by
  intro w hg
  have A1 : E7 W 3 (-2147483648) (-1) (-2147483648) true := (e_div (W := W) (a := -2147483648) (b := -1) ⟨by decide, by decide⟩ ⟨by decide, by decide⟩ (by decide)).to (by decide +kernel)
  have A2 : E7 W 4 5 0 0 false := e_rem0 (W := W) (a := 5) ⟨by decide, by decide⟩
  have A3 : E7 W 9 3 33 6 true := (e_shl (W := W) (a := 3) (b := 33) ⟨by decide, by decide⟩ ⟨by decide, by decide⟩).to (by decide +kernel)
  go_enter Try.func9, Try.ntmps9
  go_wp2_with (first
    | (go_at_call 7; first
      | ((with_reducible refine (A1.go ‹_›).mono ?_); rintro e w1 ⟨rfl, hg1⟩)
      | ((with_reducible refine (A2.go ‹_›).mono ?_); rintro e w1 ⟨rfl, hg1⟩)
      | ((with_reducible refine (A3.go ‹_›).mono ?_); rintro e w1 ⟨rfl, hg1⟩))
    | (go_at_call 19; (with_reducible refine (nm0 _ _ ‹_›).mono ?_); rintro e w1 ⟨rfl, hg1⟩))
  go_ret
  exact ⟨rfl, by assumption⟩
theorem laws_at {W : World} {p q r a b c : Int} (ha : In32 a) (hb : In32 b) (hc : In32 c) (N1 : Num W p a) (N2 : Num W q b) (N3 : Num W r c) : Calls Try.prog 4 #[.int .i64 p, .int .i64 q, .int .i64 r] W fun e w' => e = .returned (.bool true) ∧ Grown W w' := by
  have z0 : In32 0 := ⟨by decide, by decide⟩
  have AW := awake_any W
  have C1 := (e_add (W := W) ha hb).d
  have C2 := (e_mul (W := W) ha hb).d
  have C3 : D W 0 b a (vadd a b) := ((e_add (W := W) hb ha).d).to (add_turn b a)
  have C4 : D W 2 b a (vmul a b) := ((e_mul (W := W) hb ha).d).to (mul_turn b a)
  have C5 : D W 1 (vadd a b) b a := ((e_sub (W := W) (vadd_in a b) hb).d).to (sub_add b ha)
  have C6 := (e_neg (W := W) ha z0).d
  have C7 : D W 5 (vneg a) 0 a := ((e_neg (W := W) (vneg_in a) z0).d).to (neg_neg ha)
  have C8 := (e_mul (W := W) (vadd_in a b) hc).d
  have C9 := (e_mul (W := W) ha hc).d
  have C10 := (e_mul (W := W) hb hc).d
  have C11 : D W 0 (vmul a c) (vmul b c) (vmul (vadd a b) c) := ((e_add (W := W) (vmul_in a c) (vmul_in b c)).d).to (mul_spread a b c).symm
  have hg := Grown.refl W
  by_cases h0 : b = 0
  · have hz : (b == 0) = true := by simpa using h0
    clear h0
    go_enter Try.func4, Try.ntmps4
    go_wp2_with (first
      | (go_at_call 9; (with_reducible refine (AW.go ‹_›).mono ?_); rintro e w1 ⟨rfl, hg1⟩)
      | (go_at_call 10; first
        | ((with_reducible refine (N1.go ‹_›).mono ?_); rintro e w1 ⟨rfl, hg1⟩)
        | ((with_reducible refine (N2.go ‹_›).mono ?_); rintro e w1 ⟨rfl, hg1⟩)
        | ((with_reducible refine (N3.go ‹_›).mono ?_); rintro e w1 ⟨rfl, hg1⟩))
      | (go_at_call 11; first
        | ((with_reducible refine (C1.go ‹_›).mono ?_); rintro e w1 ⟨rfl, hg1⟩)
        | ((with_reducible refine (C2.go ‹_›).mono ?_); rintro e w1 ⟨rfl, hg1⟩)
        | ((with_reducible refine (C3.go ‹_›).mono ?_); rintro e w1 ⟨rfl, hg1⟩)
        | ((with_reducible refine (C4.go ‹_›).mono ?_); rintro e w1 ⟨rfl, hg1⟩)
        | ((with_reducible refine (C5.go ‹_›).mono ?_); rintro e w1 ⟨rfl, hg1⟩)
        | ((with_reducible refine (C6.go ‹_›).mono ?_); rintro e w1 ⟨rfl, hg1⟩)
        | ((with_reducible refine (C7.go ‹_›).mono ?_); rintro e w1 ⟨rfl, hg1⟩)
        | ((with_reducible refine (C8.go ‹_›).mono ?_); rintro e w1 ⟨rfl, hg1⟩)
        | ((with_reducible refine (C9.go ‹_›).mono ?_); rintro e w1 ⟨rfl, hg1⟩)
        | ((with_reducible refine (C10.go ‹_›).mono ?_); rintro e w1 ⟨rfl, hg1⟩)
        | ((with_reducible refine (C11.go ‹_›).mono ?_); rintro e w1 ⟨rfl, hg1⟩)))
    go_ret
    exact ⟨rfl, by assumption⟩
  · have C12 := (e_div (W := W) ha hb h0).d
    have C13 := (e_mul (W := W) (vdiv_in a b) hb).d
    have C14 := (e_rem (W := W) ha hb h0).d
    have C15 : D W 0 (vmul (vdiv a b) b) (vrem a b) a := ((e_add (W := W) (vmul_in (vdiv a b) b) (vrem_in a b)).d).to (div_rem ha)
    have hz : (b == 0) = false := by simpa using h0
    clear h0
    go_enter Try.func4, Try.ntmps4
    go_wp2_with (first
      | (go_at_call 9; (with_reducible refine (AW.go ‹_›).mono ?_); rintro e w1 ⟨rfl, hg1⟩)
      | (go_at_call 10; first
        | ((with_reducible refine (N1.go ‹_›).mono ?_); rintro e w1 ⟨rfl, hg1⟩)
        | ((with_reducible refine (N2.go ‹_›).mono ?_); rintro e w1 ⟨rfl, hg1⟩)
        | ((with_reducible refine (N3.go ‹_›).mono ?_); rintro e w1 ⟨rfl, hg1⟩))
      | (go_at_call 11; first
        | ((with_reducible refine (C1.go ‹_›).mono ?_); rintro e w1 ⟨rfl, hg1⟩)
        | ((with_reducible refine (C2.go ‹_›).mono ?_); rintro e w1 ⟨rfl, hg1⟩)
        | ((with_reducible refine (C3.go ‹_›).mono ?_); rintro e w1 ⟨rfl, hg1⟩)
        | ((with_reducible refine (C4.go ‹_›).mono ?_); rintro e w1 ⟨rfl, hg1⟩)
        | ((with_reducible refine (C5.go ‹_›).mono ?_); rintro e w1 ⟨rfl, hg1⟩)
        | ((with_reducible refine (C6.go ‹_›).mono ?_); rintro e w1 ⟨rfl, hg1⟩)
        | ((with_reducible refine (C7.go ‹_›).mono ?_); rintro e w1 ⟨rfl, hg1⟩)
        | ((with_reducible refine (C8.go ‹_›).mono ?_); rintro e w1 ⟨rfl, hg1⟩)
        | ((with_reducible refine (C9.go ‹_›).mono ?_); rintro e w1 ⟨rfl, hg1⟩)
        | ((with_reducible refine (C10.go ‹_›).mono ?_); rintro e w1 ⟨rfl, hg1⟩)
        | ((with_reducible refine (C11.go ‹_›).mono ?_); rintro e w1 ⟨rfl, hg1⟩)
        | ((with_reducible refine (C12.go ‹_›).mono ?_); rintro e w1 ⟨rfl, hg1⟩)
        | ((with_reducible refine (C13.go ‹_›).mono ?_); rintro e w1 ⟨rfl, hg1⟩)
        | ((with_reducible refine (C14.go ‹_›).mono ?_); rintro e w1 ⟨rfl, hg1⟩)
        | ((with_reducible refine (C15.go ‹_›).mono ?_); rintro e w1 ⟨rfl, hg1⟩)))
    go_ret
    exact ⟨rfl, by assumption⟩
end Go.Proofs.Ytkgpnbfgfolekaa.Arith
