/- Plain laws of 32-bit numbers: sums, products, quotients, bits, shifts. -/
import Derived.RowKit
import Derived.Laws.BitsLemmas
namespace Go.Proofs.Ytkgpnbfgfolekaa.Arith
open Go.RowKit
/-- within 32 bits -/
def In32 (a : Int) : Prop := -2147483648 ≤ a ∧ a ≤ 2147483647
theorem wrap_in (x : Int) : In32 (wrap32 x) := by unfold In32 wrap32; omega
theorem wrap_id {x : Int} (h : In32 x) : wrap32 x = x := by unfold In32 at h; unfold wrap32; omega
theorem w64id {x : Int} (h : In32 x) : wrap64 x = x := by unfold In32 at h; unfold wrap64; omega
theorem wrap_ex (x : Int) : ∃ k : Int, wrap32 x = x + 4294967296 * k := ⟨-((x + 2147483648) / 4294967296), by unfold wrap32; omega⟩
theorem wrap_eq {x y : Int} (h : ∃ k : Int, x = y + 4294967296 * k) : wrap32 x = wrap32 y := by
  obtain ⟨k, rfl⟩ := h
  unfold wrap32; omega
def vadd (a b : Int) : Int := wrap32 (a + b)
def vsub (a b : Int) : Int := wrap32 (a - b)
def vmul (a b : Int) : Int := wrap32 (a * b)
def vdiv (a b : Int) : Int := wrap32 (a.tdiv b)
def vrem (a b : Int) : Int := wrap32 (a.tmod b)
def vneg (a : Int) : Int := wrap32 (-a)
def vand (a b : Int) : Int := bits BinOp.and IntKind.i32 a b
def vor (a b : Int) : Int := bits BinOp.or IntKind.i32 a b
def vxor (a b : Int) : Int := bits BinOp.xor IntKind.i32 a b
def vshl (a b : Int) : Int := wrap32 (a * 2 ^ (b % 32).toNat)
def vshr (a b : Int) : Int := a / 2 ^ (b % 32).toNat
def vushr (a b : Int) : Int := wrap32 (IntKind.u32.wrap a / 2 ^ (b % 32).toNat)
theorem vadd_in (a b : Int) : In32 (vadd a b) := wrap_in _
theorem vsub_in (a b : Int) : In32 (vsub a b) := wrap_in _
theorem vmul_in (a b : Int) : In32 (vmul a b) := wrap_in _
theorem vdiv_in (a b : Int) : In32 (vdiv a b) := wrap_in _
theorem vrem_in (a b : Int) : In32 (vrem a b) := wrap_in _
theorem vneg_in (a : Int) : In32 (vneg a) := wrap_in _
theorem vshl_in (a b : Int) : In32 (vshl a b) := wrap_in _
theorem vushr_in (a b : Int) : In32 (vushr a b) := wrap_in _
theorem bits_i32 (op : BinOp) (a b : Int) : ∃ x : Int, bits op IntKind.i32 a b = IntKind.i32.wrap x := by
  cases op <;> exact ⟨_, rfl⟩
theorem bits_in (op : BinOp) (a b : Int) : In32 (bits op IntKind.i32 a b) := by
  obtain ⟨x, h⟩ := bits_i32 op a b
  rw [h, IntKind.wrap_i32]; exact wrap_in x
theorem vand_in (a b : Int) : In32 (vand a b) := bits_in _ _ _
theorem vor_in (a b : Int) : In32 (vor a b) := bits_in _ _ _
theorem vxor_in (a b : Int) : In32 (vxor a b) := bits_in _ _ _
theorem vshr_in {a : Int} (b : Int) (h : In32 a) : In32 (vshr a b) := by
  unfold In32 vshr at *
  have hp : (0 : Int) < 2 ^ (b % 32).toNat := Int.pow_pos (by omega)
  constructor
  · by_cases h0 : 0 ≤ a
    · have := Int.ediv_nonneg h0 (Int.le_of_lt hp); omega
    · have : a ≤ a / 2 ^ (b % 32).toNat := by
        apply (Int.le_ediv_iff_mul_le hp).2
        have : a * 2 ^ (b % 32).toNat ≤ a * 1 := Int.mul_le_mul_of_nonpos_left (by omega) (by omega)
        omega
      omega
  · by_cases h0 : 0 ≤ a
    · have := Int.ediv_le_self (2 ^ (b % 32).toNat) h0; omega
    · have : a / 2 ^ (b % 32).toNat < 0 := Int.ediv_neg_of_neg_of_pos (by omega) hp
      omega
/-! ### sums, products -/
theorem add_turn (a b : Int) : vadd a b = vadd b a := by unfold vadd; rw [Int.add_comm]
theorem mul_turn (a b : Int) : vmul a b = vmul b a := by unfold vmul; rw [Int.mul_comm]
theorem sub_add {a : Int} (b : Int) (h : In32 a) : vsub (vadd a b) b = a := by
  unfold In32 at h; unfold vsub vadd wrap32; omega
theorem neg_neg {a : Int} (h : In32 a) : vneg (vneg a) = a := by
  unfold In32 at h; unfold vneg wrap32; omega
theorem mul_spread (a b c : Int) : vmul (vadd a b) c = vadd (vmul a c) (vmul b c) := by
  unfold vmul vadd
  obtain ⟨k, hk⟩ := wrap_ex (a + b)
  obtain ⟨l, hl⟩ := wrap_ex (a * c)
  obtain ⟨m, hm⟩ := wrap_ex (b * c)
  rw [hk, hl, hm]
  refine wrap_eq ⟨k * c - l - m, ?_⟩
  simp only [Int.add_mul, Int.mul_sub, Int.mul_assoc]
  omega
theorem div_rem {a b : Int} (h : In32 a) : vadd (vmul (vdiv a b) b) (vrem a b) = a := by
  unfold vadd vmul vdiv vrem
  obtain ⟨k, hk⟩ := wrap_ex (a.tdiv b)
  obtain ⟨m, hm⟩ := wrap_ex (a.tmod b)
  rw [hk, hm]
  obtain ⟨l, hl⟩ := wrap_ex ((a.tdiv b + 4294967296 * k) * b)
  rw [hl]
  have e : (a.tdiv b + 4294967296 * k) * b + 4294967296 * l + (a.tmod b + 4294967296 * m) = a + 4294967296 * (k * b + l + m) := by
    have := Int.mul_tdiv_add_tmod a b
    rw [Int.add_mul, Int.mul_comm (a.tdiv b) b, Int.mul_assoc]
    simp only [Int.mul_add]
    omega
  rw [e, wrap_eq ⟨_, rfl⟩, wrap_id h]
/-! ### bits -/
theorem nat_bits : ∀ (n x y : Nat), x < n → (x &&& y) + (x ||| y) = x + y ∧ (x ||| y) = (x &&& y) + (x ^^^ y)
  | 0, x, y, h => by omega
  | n + 1, x, y, h => by
    by_cases hx : x = 0
    · subst hx; simp
    · obtain ⟨h1, h2⟩ := nat_bits n (x / 2) (y / 2) (by omega)
      have a1 : (x &&& y) / 2 = x / 2 &&& y / 2 := Nat.and_div_two
      have o1 : (x ||| y) / 2 = x / 2 ||| y / 2 := Nat.or_div_two
      have e1 : (x ^^^ y) / 2 = x / 2 ^^^ y / 2 := Nat.xor_div_two
      have am : (x &&& y) % 2 = (x % 2) &&& (y % 2) := Nat.and_mod_two_pow (n := 1)
      have om : (x ||| y) % 2 = (x % 2) ||| (y % 2) := Nat.or_mod_two_pow (n := 1)
      have em : (x ^^^ y) % 2 = (x % 2) ^^^ (y % 2) := Nat.xor_mod_two_pow (n := 1)
      have hx2 : x % 2 = 0 ∨ x % 2 = 1 := by omega
      have hy2 : y % 2 = 0 ∨ y % 2 = 1 := by omega
      rcases hx2 with hx2 | hx2 <;> rcases hy2 with hy2 | hy2 <;> rw [hx2, hy2] at am om em <;> simp only [Nat.reduceAnd, Nat.reduceOr, Nat.reduceXor] at am om em <;> constructor <;> omega
def bv (a : Int) : Nat := (BitVec.ofInt 32 a).toNat
theorem bv_eq (a : Int) : (bv a : Int) = a % 4294967296 := by
  unfold bv
  rw [BitVec.toNat_ofInt]
  omega
theorem and_eq (a b : Int) : vand a b = wrap32 ((bv a &&& bv b : Nat) : Int) := by
  show IntKind.i32.wrap ((BitVec.ofInt 32 a &&& BitVec.ofInt 32 b).toNat : Int) = _
  rw [IntKind.wrap_i32, BitVec.toNat_and]; rfl
theorem or_eq (a b : Int) : vor a b = wrap32 ((bv a ||| bv b : Nat) : Int) := by
  show IntKind.i32.wrap ((BitVec.ofInt 32 a ||| BitVec.ofInt 32 b).toNat : Int) = _
  rw [IntKind.wrap_i32, BitVec.toNat_or]; rfl
theorem xor_eq (a b : Int) : vxor a b = wrap32 ((bv a ^^^ bv b : Nat) : Int) := by
  show IntKind.i32.wrap ((BitVec.ofInt 32 a ^^^ BitVec.ofInt 32 b).toNat : Int) = _
  rw [IntKind.wrap_i32, BitVec.toNat_xor]; rfl
theorem wrap_add (x y : Int) : wrap32 (wrap32 x + wrap32 y) = wrap32 (x + y) := by
  obtain ⟨k, hk⟩ := wrap_ex x
  obtain ⟨l, hl⟩ := wrap_ex y
  rw [hk, hl]
  exact wrap_eq ⟨k + l, by omega⟩
theorem add_key {p q x y : Nat} {a b : Int} (h : p + q = x + y) (ha : (x : Int) = a % 4294967296) (hb : (y : Int) = b % 4294967296) : wrap32 (wrap32 (p : Int) + wrap32 (q : Int)) = wrap32 (a + b) := by
  rw [wrap_add]
  have e : (p : Int) + (q : Int) = (x : Int) + (y : Int) := by omega
  rw [e, ha, hb]
  refine wrap_eq ⟨-(a / 4294967296) - b / 4294967296, by omega⟩
theorem sub_key {p q r : Nat} (h : q = p + r) : wrap32 (wrap32 (q : Int) - wrap32 (p : Int)) = wrap32 (r : Int) := by
  unfold wrap32; omega
theorem bits_add (a b : Int) : vadd (vand a b) (vor a b) = vadd a b := by
  rw [and_eq, or_eq]
  exact add_key (nat_bits (bv a + 1) (bv a) (bv b) (Nat.lt_succ_self _)).1 (bv_eq a) (bv_eq b)
theorem bits_sub (a b : Int) : vsub (vor a b) (vand a b) = vxor a b := by
  rw [and_eq, or_eq, xor_eq]
  exact sub_key (nat_bits (bv a + 1) (bv a) (bv b) (Nat.lt_succ_self _)).2
theorem xor_key {r : Nat} (h : r < 4294967296) : (wrap32 (r : Int) % 4294967296).toNat = r := by
  unfold wrap32; omega
theorem bits_xor {a : Int} (b : Int) (h : In32 a) : vxor (vxor a b) b = a := by
  have hb : BitVec.ofInt 32 (vxor a b) = BitVec.ofInt 32 a ^^^ BitVec.ofInt 32 b := by
    apply BitVec.eq_of_toNat_eq
    rw [BitVec.toNat_ofInt, xor_eq, BitVec.toNat_xor]
    have hlt : bv a ^^^ bv b < 4294967296 := by
      have := (BitVec.ofInt 32 a ^^^ BitVec.ofInt 32 b).isLt
      rw [BitVec.toNat_xor] at this
      exact this
    exact xor_key hlt
  show IntKind.i32.wrap ((BitVec.ofInt 32 (vxor a b) ^^^ BitVec.ofInt 32 b).toNat : Int) = a
  rw [hb, BitVec.xor_assoc, BitVec.xor_self, BitVec.xor_zero, BitVec.toNat_ofInt, IntKind.wrap_i32]
  unfold In32 at h
  omega
/-! ### shifts -/
theorem amt {s : Int} (h0 : 0 ≤ s) (h1 : s ≤ 31) : ∃ n : Nat, n < 32 ∧ s = n ∧ (s % 32).toNat = n := ⟨s.toNat, by omega, by omega, by omega⟩
theorem each32 {P : Nat → Prop} (h : P 0 ∧ P 1 ∧ P 2 ∧ P 3 ∧ P 4 ∧ P 5 ∧ P 6 ∧ P 7 ∧ P 8 ∧ P 9 ∧ P 10 ∧ P 11 ∧ P 12 ∧ P 13 ∧ P 14 ∧ P 15 ∧ P 16 ∧ P 17 ∧ P 18 ∧ P 19 ∧ P 20 ∧ P 21 ∧ P 22 ∧ P 23 ∧ P 24 ∧ P 25 ∧ P 26 ∧ P 27 ∧ P 28 ∧ P 29 ∧ P 30 ∧ P 31) : ∀ n, n < 32 → P n := by
  intro n hn
  match n, hn with
  | 0, _ => exact h.1
  | 1, _ => exact h.2.1
  | 2, _ => exact h.2.2.1
  | 3, _ => exact h.2.2.2.1
  | 4, _ => exact h.2.2.2.2.1
  | 5, _ => exact h.2.2.2.2.2.1
  | 6, _ => exact h.2.2.2.2.2.2.1
  | 7, _ => exact h.2.2.2.2.2.2.2.1
  | 8, _ => exact h.2.2.2.2.2.2.2.2.1
  | 9, _ => exact h.2.2.2.2.2.2.2.2.2.1
  | 10, _ => exact h.2.2.2.2.2.2.2.2.2.2.1
  | 11, _ => exact h.2.2.2.2.2.2.2.2.2.2.2.1
  | 12, _ => exact h.2.2.2.2.2.2.2.2.2.2.2.2.1
  | 13, _ => exact h.2.2.2.2.2.2.2.2.2.2.2.2.2.1
  | 14, _ => exact h.2.2.2.2.2.2.2.2.2.2.2.2.2.2.1
  | 15, _ => exact h.2.2.2.2.2.2.2.2.2.2.2.2.2.2.2.1
  | 16, _ => exact h.2.2.2.2.2.2.2.2.2.2.2.2.2.2.2.2.1
  | 17, _ => exact h.2.2.2.2.2.2.2.2.2.2.2.2.2.2.2.2.2.1
  | 18, _ => exact h.2.2.2.2.2.2.2.2.2.2.2.2.2.2.2.2.2.2.1
  | 19, _ => exact h.2.2.2.2.2.2.2.2.2.2.2.2.2.2.2.2.2.2.2.1
  | 20, _ => exact h.2.2.2.2.2.2.2.2.2.2.2.2.2.2.2.2.2.2.2.2.1
  | 21, _ => exact h.2.2.2.2.2.2.2.2.2.2.2.2.2.2.2.2.2.2.2.2.2.1
  | 22, _ => exact h.2.2.2.2.2.2.2.2.2.2.2.2.2.2.2.2.2.2.2.2.2.2.1
  | 23, _ => exact h.2.2.2.2.2.2.2.2.2.2.2.2.2.2.2.2.2.2.2.2.2.2.2.1
  | 24, _ => exact h.2.2.2.2.2.2.2.2.2.2.2.2.2.2.2.2.2.2.2.2.2.2.2.2.1
  | 25, _ => exact h.2.2.2.2.2.2.2.2.2.2.2.2.2.2.2.2.2.2.2.2.2.2.2.2.2.1
  | 26, _ => exact h.2.2.2.2.2.2.2.2.2.2.2.2.2.2.2.2.2.2.2.2.2.2.2.2.2.2.1
  | 27, _ => exact h.2.2.2.2.2.2.2.2.2.2.2.2.2.2.2.2.2.2.2.2.2.2.2.2.2.2.2.1
  | 28, _ => exact h.2.2.2.2.2.2.2.2.2.2.2.2.2.2.2.2.2.2.2.2.2.2.2.2.2.2.2.2.1
  | 29, _ => exact h.2.2.2.2.2.2.2.2.2.2.2.2.2.2.2.2.2.2.2.2.2.2.2.2.2.2.2.2.2.1
  | 30, _ => exact h.2.2.2.2.2.2.2.2.2.2.2.2.2.2.2.2.2.2.2.2.2.2.2.2.2.2.2.2.2.2.1
  | 31, _ => exact h.2.2.2.2.2.2.2.2.2.2.2.2.2.2.2.2.2.2.2.2.2.2.2.2.2.2.2.2.2.2.2
  | n + 32, h' => omega
theorem shl_add32 (a s : Int) : vshl a (s + 32) = vshl a s := by
  unfold vshl
  rw [show (s + 32) % 32 = s % 32 by omega]
theorem shr_add64 (a s : Int) : vshr a (s + 64) = vshr a s := by
  unfold vshr
  rw [show (s + 64) % 32 = s % 32 by omega]
theorem up_low {a s : Int} (h0 : 0 ≤ s) (h1 : s ≤ 31) : vshl (vushr (vshl a s) s) s = vshl a s := by
  obtain ⟨n, hn, -, e⟩ := amt h0 h1
  unfold vshl vushr
  rw [e]
  unfold wrap32
  simp only [IntKind.wrap_u32]
  clear e h0 h1
  revert n
  refine each32 ?_
  refine ⟨?_, ?_, ?_, ?_, ?_, ?_, ?_, ?_, ?_, ?_, ?_, ?_, ?_, ?_, ?_, ?_, ?_, ?_, ?_, ?_, ?_, ?_, ?_, ?_, ?_, ?_, ?_, ?_, ?_, ?_, ?_, ?_⟩ <;> simp only [Int.reducePow] <;> omega
theorem shr31 {a : Int} (h : In32 a) : vshr a 31 = if a < 0 then -1 else 0 := by
  unfold In32 at h
  show a / 2147483648 = _
  split <;> omega
theorem ushr31 {a : Int} (h : In32 a) : vushr a 31 = if a < 0 then 1 else 0 := by
  unfold In32 at h
  show wrap32 (IntKind.u32.wrap a / 2147483648) = _
  rw [IntKind.wrap_u32]
  unfold wrap32
  split <;> omega
theorem shl_one {s : Int} (h0 : 0 ≤ s) (h1 : s ≤ 30) : vshl 1 s = 2 ^ (s % 32).toNat := by
  obtain ⟨n, hn, es, e⟩ := amt h0 (by omega)
  unfold vshl
  rw [e]
  have hn : n < 31 := by omega
  unfold wrap32
  clear e es h0 h1
  have hp : ∀ m : Nat, m < 31 → (1 : Int) ≤ 2 ^ m ∧ (2 : Int) ^ m ≤ 1073741824 := by
    intro m hm
    have h2 : (2 : Nat) ^ m ≤ 2 ^ 30 := Nat.pow_le_pow_right (by decide) (by omega)
    have h3 : 1 ≤ 2 ^ m := Nat.one_le_two_pow
    have h4 : ((2 : Int) ^ m) = ((2 ^ m : Nat) : Int) := by simp
    rw [h4]; omega
  have := hp n hn
  omega
theorem shl_mul {a s : Int} (h0 : 0 ≤ s) (h1 : s ≤ 30) : vshl a s = vmul a (vshl 1 s) := by
  rw [shl_one h0 h1]; rfl
theorem low_in {a s : Int} (h0 : 0 ≤ s) (h1 : s ≤ 30) : 0 ≤ vsub a (vmul (vshr a s) (vshl 1 s)) ∧ vsub a (vmul (vshr a s) (vshl 1 s)) < vshl 1 s ∧ 0 < vshl 1 s := by
  rw [shl_one h0 h1]
  obtain ⟨n, hn, es, e⟩ := amt h0 (by omega)
  unfold vshr
  rw [e]
  have hn : n < 31 := by omega
  have hp : (1 : Int) ≤ 2 ^ n ∧ (2 : Int) ^ n ≤ 1073741824 := by
    have h2 : (2 : Nat) ^ n ≤ 2 ^ 30 := Nat.pow_le_pow_right (by decide) (by omega)
    have h3 : 1 ≤ 2 ^ n := Nat.one_le_two_pow
    have h4 : ((2 : Int) ^ n) = ((2 ^ n : Nat) : Int) := by simp
    rw [h4]; omega
  generalize (2 : Int) ^ n = p at hp ⊢
  have e1 : a / p * p + a % p = a := by rw [Int.mul_comm]; exact Int.mul_ediv_add_emod a p
  have e2 : 0 ≤ a % p := Int.emod_nonneg _ (by omega)
  have e3 : a % p < p := Int.emod_lt_of_pos _ (by omega)
  unfold vsub vmul
  obtain ⟨k, hk⟩ := wrap_ex (a / p * p)
  rw [hk]
  have : wrap32 (a - (a / p * p + 4294967296 * k)) = wrap32 (a % p) := wrap_eq ⟨-k, by omega⟩
  rw [this, wrap_id (by unfold In32; omega)]
  omega
theorem tmod_pos {a : Int} (b : Int) (h : 0 ≤ a) : 0 ≤ a.tmod b ∧ a.tmod b ≤ a := by
  have h1 : (a.tmod b).natAbs ≤ a.natAbs := by rw [Int.natAbs_tmod]; exact Nat.mod_le _ _
  have h2 : 0 ≤ a.tmod b := Int.tmod_nonneg _ h
  generalize a.tmod b = r at *
  omega
theorem tmod_sign (a b : Int) : (0 ≤ a ∧ 0 ≤ a.tmod b ∧ a.tmod b ≤ a) ∨ (a < 0 ∧ a.tmod b ≤ 0 ∧ a ≤ a.tmod b) := by
  rcases Int.lt_or_le a 0 with hn | hp
  · right
    have e : a.tmod b = -((-a).tmod b) := by rw [Int.neg_tmod]; simp
    have := tmod_pos b (a := -a) (by omega)
    rw [e]
    omega
  · left
    exact ⟨hp, tmod_pos b hp⟩
theorem rem_sign {a : Int} (b : Int) (h : In32 a) : vrem a b = 0 ∨ (vrem a b < 0 ↔ a < 0) := by
  unfold In32 at h
  have hs := tmod_sign a b
  have hr : vrem a b = a.tmod b := by
    apply wrap_id
    unfold In32
    omega
  rw [hr]
  omega
end Go.Proofs.Ytkgpnbfgfolekaa.Arith
