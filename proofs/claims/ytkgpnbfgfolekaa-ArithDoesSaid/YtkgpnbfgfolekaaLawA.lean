/- What 'do' and 'number' answer, and 'awake'. -/
import Derived.Test.YtkgpnbfgfolekaaDoDiv
import Derived.Test.YtkgpnbfgfolekaaMath
import Derived.Lib.Hide
import Derived.ChangeFn
namespace Go.Proofs.Ytkgpnbfgfolekaa.Arith
open Go.RowKit
/-- arith.Do answers this, and leaves what was since W -/
def E7 (W : World) (op a b v : Int) (ok : Bool) : Prop := ∀ w, Grown W w → Calls Try.prog 7 #[.int .i64 op, .int .i64 a, .int .i64 b] w fun e w' => e = .returned (.tuple #[.int .i64 v, .bool ok]) ∧ Grown W w'
def D (W : World) (op a b v : Int) : Prop := ∀ w, Grown W w → Calls Try.prog 11 #[.int .i64 op, .int .i64 a, .int .i64 b] w fun e w' => e = .returned (.int .i64 v) ∧ Grown W w'
theorem grown_trans {a b c : World} (h1 : Grown a b) (h2 : Grown b c) : Grown a c := ⟨World.keptBut_trans h1.1 h2.1, fun x => (h2.2.1 x).trans (h1.2.1 x), Nat.le_trans h1.2.2 h2.2.2⟩
theorem E7.of {W : World} {op a b u v : Int} {ok : Bool} (h : ∀ w, Calls Try.prog 7 #[.int .i64 op, .int .i64 a, .int .i64 b] w fun e w' => e = .returned (.tuple #[.int .i64 u, .bool ok]) ∧ Grown w w') (e : u = v) : E7 W op a b v ok := by
  subst e
  intro w hw
  exact (h w).mono fun e w' ⟨h1, h2⟩ => ⟨h1, grown_trans hw h2⟩
theorem E7.d {W : World} {op a b v : Int} {ok : Bool} (h : E7 W op a b v ok) : D W op a b v := by
  intro w hw
  go_enter Try.func11, Try.ntmps11
  go_wp2_with (go_at_call 7; refine (h _ hw).mono ?_; rintro e w1 ⟨rfl, hg⟩)
  go_ret
  exact ⟨rfl, hg⟩
theorem e_add {W : World} {a b : Int} (ha : In32 a) (hb : In32 b) : E7 W 0 a b (vadd a b) true := .of (fun w => do_add a b w ha.1 ha.2 hb.1 hb.2) (w64 _)
theorem e_sub {W : World} {a b : Int} (ha : In32 a) (hb : In32 b) : E7 W 1 a b (vsub a b) true := .of (fun w => do_sub a b w ha.1 ha.2 hb.1 hb.2) (w64 _)
theorem e_mul {W : World} {a b : Int} (ha : In32 a) (hb : In32 b) : E7 W 2 a b (vmul a b) true := .of (fun w => do_mul a b w ha.1 ha.2 hb.1 hb.2) (w64 _)
theorem quo_in {a b : Int} (ha : In32 a) : wrap64 (a.tdiv b) = a.tdiv b := by
  unfold In32 at ha
  have h1 : (a.tdiv b).natAbs ≤ a.natAbs := by rw [Int.natAbs_tdiv]; exact Nat.div_le_self _ _
  unfold wrap64; omega
theorem e_div {W : World} {a b : Int} (ha : In32 a) (hb : In32 b) (h0 : ¬ b = 0) : E7 W 3 a b (vdiv a b) true := .of (fun w => do_div a b w ha.1 ha.2 hb.1 hb.2 (by simpa using h0) h0) (by rw [quo_in ha, w64]; rfl)
theorem e_div0 {W : World} {a : Int} (ha : In32 a) : E7 W 3 a 0 0 false := .of (fun w => do_div0 a w ha.1 ha.2) rfl
theorem e_rem {W : World} {a b : Int} (ha : In32 a) (hb : In32 b) (h0 : ¬ b = 0) : E7 W 4 a b (vrem a b) true := .of (fun w => do_rem a b w ha.1 ha.2 hb.1 hb.2 (by simpa using h0) h0) (w64 _)
theorem e_rem0 {W : World} {a : Int} (ha : In32 a) : E7 W 4 a 0 0 false := .of (fun w => do_rem0 a w ha.1 ha.2) rfl
theorem e_neg {W : World} {a b : Int} (ha : In32 a) (hb : In32 b) : E7 W 5 a b (vneg a) true := .of (fun w => do_neg a b w ha.1 ha.2 hb.1 hb.2) (w64 _)
theorem e_and {W : World} {a b : Int} (ha : In32 a) (hb : In32 b) : E7 W 6 a b (vand a b) true := .of (fun w => do_and a b w ha.1 ha.2 hb.1 hb.2) (w64id (bits_in _ _ _))
theorem e_or {W : World} {a b : Int} (ha : In32 a) (hb : In32 b) : E7 W 7 a b (vor a b) true := .of (fun w => do_or a b w ha.1 ha.2 hb.1 hb.2) (w64id (bits_in _ _ _))
theorem e_xor {W : World} {a b : Int} (ha : In32 a) (hb : In32 b) : E7 W 8 a b (vxor a b) true := .of (fun w => do_xor a b w ha.1 ha.2 hb.1 hb.2) (w64id (bits_in _ _ _))
theorem e_shl {W : World} {a b : Int} (ha : In32 a) (hb : In32 b) : E7 W 9 a b (vshl a b) true := .of (fun w => do_shl a b w ha.1 ha.2 hb.1 hb.2) (w64 _)
theorem e_shr {W : World} {a b : Int} (ha : In32 a) (hb : In32 b) : E7 W 10 a b (vshr a b) true := .of (fun w => do_shr a b w ha.1 ha.2 hb.1 hb.2) (w64id (vshr_in b ha))
theorem e_ushr {W : World} {a b : Int} (ha : In32 a) (hb : In32 b) : E7 W 11 a b (vushr a b) true := .of (fun w => do_ushr a b w ha.1 ha.2 hb.1 hb.2) (w64 _)
theorem D.to {W : World} {op a b u v : Int} (h : D W op a b u) (e : u = v) : D W op a b v := e ▸ h
theorem tmod_lit (x m : Int) : x.tmod m = if 0 ≤ x then x % m else -((-x) % m) := by
  split
  · rename_i h; exact Int.tmod_eq_emod_of_nonneg h
  · rename_i h
    have : x = -(-x) := by omega
    rw [this, Int.neg_tmod, Int.tmod_eq_emod_of_nonneg (by omega), Int.neg_neg]
theorem number_any (x : Int) (W w : World) (hw : Grown W w) : Calls Try.prog 10 #[.int .i64 x] w fun e w' => e = .returned (.int .i64 (wrap32 x)) ∧ Grown W w' := by
  have hm := tmod_lit x 4294967296
  have hr : -4294967296 < x.tmod 4294967296 ∧ x.tmod 4294967296 < 4294967296 := by
    rw [hm]; split <;> omega
  have key : ∀ y : Int, -4294967296 < y → y < 4294967296 → y = x.tmod 4294967296 → wrap32 x = (if y < 0 then (if y + 4294967296 > 2147483647 then y + 4294967296 - 4294967296 else y + 4294967296) else if y > 2147483647 then y - 4294967296 else y) := by
    intro y h1 h2 e
    rw [e, hm]
    unfold wrap32
    split <;> split <;> split <;> omega
  have K := key _ hr.1 hr.2 rfl
  clear key hm
  obtain ⟨hr1, hr2⟩ := hr
  generalize hy : x.tmod 4294967296 = y at *
  have HY : Hid (x.tmod 4294967296 = y) := Go.Lib.hid hy
  clear hy
  have HK : Hid (wrap32 x = (if y < 0 then (if y + 4294967296 > 2147483647 then y + 4294967296 - 4294967296 else y + 4294967296) else if y > 2147483647 then y - 4294967296 else y)) := Go.Lib.hid K
  clear K
  have HY2 := HY.out
  by_cases h0 : y < 0
  · by_cases h1 : 2147483647 < y + 4294967296
    · go_enter Try.func10, Try.ntmps10
      go_wp2
      go_ret
      exact ⟨by rw [HK.out]; simp; omega, hw⟩
    · go_enter Try.func10, Try.ntmps10
      go_wp2
      go_ret
      exact ⟨by rw [HK.out]; simp; omega, hw⟩
  · by_cases h1 : 2147483647 < y
    · go_enter Try.func10, Try.ntmps10
      go_wp2
      go_ret
      exact ⟨by rw [HK.out]; simp; omega, hw⟩
    · go_enter Try.func10, Try.ntmps10
      go_wp2
      go_ret
      exact ⟨by rw [HK.out]; simp; omega, hw⟩
end Go.Proofs.Ytkgpnbfgfolekaa.Arith
