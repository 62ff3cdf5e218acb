/- The abstract machine's reckoning: lists, whole numbers, what is assumed of unknown numbers, equality of values. -/
import Derived.Test.YtfedjkcigdgcoaaGreatDoorAiB
import Derived.Laws.Cells
import Derived.Laws.Append
namespace Go.Ai
open Go Go.RowKit
set_option linter.unusedVariables false

/-! ### lists -/
section
variable {α : Type}
noncomputable def nthL (l : List α) : Nat → Option α := List.rec (fun _ => none) (fun a _ ih n => Nat.rec (some a) (fun m _ => ih m) n) l
theorem nthL_eq (l : List α) (n : Nat) : nthL l n = l[n]? := by
  induction l generalizing n with
  | nil => rfl
  | cons a l ih => cases n with
    | zero => rfl
    | succ n => exact (ih n).trans (by simp)
noncomputable def dropL (n : Nat) : List α → List α := Nat.rec (fun l => l) (fun _ ih l => List.casesOn l [] (fun _ t => ih t)) n
theorem dropL_eq (n : Nat) (l : List α) : dropL n l = l.drop n := by
  induction n generalizing l with
  | zero => rfl
  | succ n ih => cases l with
    | nil => rfl
    | cons a l => exact ih l
noncomputable def takeL (n : Nat) : List α → List α := Nat.rec (fun _ => []) (fun _ ih l => List.casesOn l [] (fun a t => a :: ih t)) n
theorem takeL_eq (n : Nat) (l : List α) : takeL n l = l.take n := by
  induction n generalizing l with
  | zero => rfl
  | succ n ih => cases l with
    | nil => rfl
    | cons a l => exact congrArg (a :: ·) (ih l)
noncomputable def lenL (l : List α) : Nat := List.rec 0 (fun _ _ ih => Nat.succ ih) l
theorem lenL_eq (l : List α) : lenL l = l.length := by
  induction l with
  | nil => rfl
  | cons a l ih => exact congrArg Nat.succ ih
/-- cells written over from a place on -/
noncomputable def spliceL (n : Nat) : List α → List α → List α := Nat.rec (fun l vs => List.rec (fun l => l) (fun v _ ih l => v :: ih (List.casesOn l [] (fun _ t => t))) vs l) (fun _ ih l vs => List.casesOn l (ih [] vs) (fun a t => a :: ih t vs)) n
noncomputable def splice0K {R : Type} (vs : List α) : List α → (List α → R) → R :=
  List.rec (fun l k => k l) (fun v _ ih l k => ih (List.casesOn l [] (fun _ t => t)) (fun t' => k (v :: t'))) vs
noncomputable def spliceK {R : Type} (n : Nat) (vs : List α) : List α → (List α → R) → R :=
  Nat.rec (fun l k => splice0K vs l k) (fun _ ih l k => List.casesOn l (ih [] k) (fun a t => ih t (fun t' => k (a :: t')))) n
theorem splice0K_eq {R : Type} (vs l : List α) (k : List α → R) : splice0K vs l k = k (vs ++ l.drop vs.length) := by
  induction vs generalizing l k with
  | nil => rfl
  | cons v vs ih => cases l with
    | nil => exact (ih [] _).trans (by simp)
    | cons a l => exact (ih l _).trans (by simp)
theorem spliceK_eq {R : Type} (n : Nat) (vs l : List α) (k : List α → R) (h : n ≤ l.length) : spliceK n vs l k = k (l.take n ++ vs ++ l.drop (n + vs.length)) := by
  induction n generalizing l k with
  | zero => exact (splice0K_eq vs l k).trans (by simp)
  | succ n ih => cases l with
    | nil => simp at h
    | cons a l => exact (ih l _ (by simpa using h)).trans (by simp [Nat.add_right_comm n 1])
end

/-! ### whole numbers, handed on written out -/
noncomputable def forceN {R : Type} (m : Nat) (k : Nat → R) : R := Nat.rec (k 0) (fun p _ => k (Nat.succ p)) m
theorem forceN_eq {R : Type} (m : Nat) (k : Nat → R) : forceN m k = k m := by cases m <;> rfl
noncomputable def forceI {R : Type} (n : Int) (k : Int → R) : R := Int.rec (fun m => forceN m (fun m => k (.ofNat m))) (fun m => forceN m (fun m => k (.negSucc m))) n
theorem forceI_eq {R : Type} (n : Int) (k : Int → R) : forceI n k = k n := by
  cases n with
  | ofNat m => exact forceN_eq m (fun m => k (.ofNat m))
  | negSucc m => exact forceN_eq m (fun m => k (.negSucc m))
def eqI (a b : Int) : Bool := match a, b with
  | .ofNat m, .ofNat n => Nat.beq m n
  | .negSucc m, .negSucc n => Nat.beq m n
  | _, _ => false
theorem beqN (m n : Nat) : Nat.beq m n = decide (m = n) := by
  cases h : Nat.beq m n with
  | true => simp [Nat.eq_of_beq_eq_true h]
  | false => simp [Nat.ne_of_beq_eq_false h]
theorem eqI_eq (a b : Int) : eqI a b = decide (a = b) := by
  cases a <;> cases b <;> simp [eqI, beqN] <;> omega
def ltI (a b : Int) : Bool := match a, b with
  | .ofNat m, .ofNat n => Nat.ble (Nat.succ m) n
  | .negSucc m, .negSucc n => Nat.ble (Nat.succ n) m
  | .negSucc _, .ofNat _ => true
  | .ofNat _, .negSucc _ => false
theorem bleN (m n : Nat) : Nat.ble m n = decide (m ≤ n) := by
  cases h : Nat.ble m n with
  | true => simp [Nat.le_of_ble_eq_true h]
  | false =>
    have := Nat.not_le_of_not_ble_eq_true (m := n) (n := m) (by simp [h])
    simp; omega
theorem ltI_eq (a b : Int) : ltI a b = decide (a < b) := by
  cases a <;> cases b <;> simp [ltI, bleN]
  · omega
  · rename_i m n; have : ¬ ((m : Int) < Int.negSucc n) := by omega
    omega
  · rename_i m n; have : Int.negSucc m < (n : Int) := by omega
    omega
  · rename_i m n; omega
/-- the greatest and (its turned sign, less one) the least of a kind -/
def maxN : IntKind → Nat
  | .i8 => 127 | .i16 => 32767 | .i32 => 2147483647 | .i64 => 9223372036854775807 | .u8 => 255 | .u16 => 65535 | .u32 => 4294967295 | .u64 => 18446744073709551615
def modN : IntKind → Nat
  | .i8 | .u8 => 256 | .i16 | .u16 => 65536 | .i32 | .u32 => 4294967296 | .i64 | .u64 => 18446744073709551616
def sgn : IntKind → Bool
  | .i8 | .i16 | .i32 | .i64 => true
  | _ => false
def wrapF (k : IntKind) (n : Int) : Int :=
  match n with
  | .ofNat m => match Nat.ble m (maxN k) with
    | true => .ofNat m
    | false => k.wrap (.ofNat m)
  | .negSucc m => match sgn k with
    | true => match Nat.ble m (maxN k) with
      | true => .negSucc m
      | false => k.wrap (.negSucc m)
    | false => k.wrap (.negSucc m)
theorem wrapF_eq (k : IntKind) (n : Int) : wrapF k n = k.wrap n := by
  cases n with
  | ofNat m =>
    simp only [wrapF, bleN]
    by_cases h : m ≤ maxN k
    · simp only [h, decide_true]
      cases k <;> simp only [IntKind.wrap, IntKind.bits, IntKind.signed, maxN] at * <;> simp <;> omega
    · simp only [h, decide_false]
  | negSucc m =>
    simp only [wrapF, bleN]
    cases hs : sgn k with
    | false => rfl
    | true =>
      by_cases h : m ≤ maxN k
      · simp only [h, decide_true]
        cases k <;> simp only [sgn, Bool.false_eq_true] at hs <;> simp only [IntKind.wrap, IntKind.bits, IntKind.signed, maxN] at * <;> simp <;> omega
      · simp only [h, decide_false]
def opLit (op : BinOp) (k : IntKind) (a b : Int) : Int :=
  match op with
  | .add => wrapF k (a + b)
  | .sub => wrapF k (a - b)
  | .mul => wrapF k (a * b)
  | .quo => wrapF k (a.tdiv b)
  | .rem => a.tmod b
  | _ => opVal op k a b
theorem opLit_eq (op : BinOp) (k : IntKind) (a b : Int) : opLit op k a b = opVal op k a b := by
  cases op <;> simp [opLit, opVal, wrapF_eq]
def kbeq : IntKind → IntKind → Bool
  | .i8, .i8 | .i16, .i16 | .i32, .i32 | .i64, .i64 | .u8, .u8 | .u16, .u16 | .u32, .u32 | .u64, .u64 => true
  | _, _ => false
theorem kbeq_iff (a b : IntKind) : kbeq a b = true ↔ a = b := by cases a <;> cases b <;> simp [kbeq]
def obeq (a b : BinOp) : Bool := match a, b with
  | .add, .add | .sub, .sub | .mul, .mul | .quo, .quo | .rem, .rem | .and, .and | .or, .or | .xor, .xor | .shl, .shl | .shr, .shr | .andNot, .andNot | .eql, .eql | .neq, .neq | .lss, .lss | .leq, .leq | .gtr, .gtr | .geq, .geq => true
  | _, _ => false
theorem obeq_iff (a b : BinOp) : obeq a b = true ↔ a = b := by cases a <;> cases b <;> simp [obeq]
def SI.beq : SI → SI → Bool
  | .lit a, .lit b => eqI a b
  | .var i, .var j => Nat.beq i j
  | .bin op k a b, .bin op' k' a' b' => obeq op op' && kbeq k k' && SI.beq a a' && SI.beq b b'
  | .conv k a, .conv k' a' => kbeq k k' && SI.beq a a'
  | _, _ => false
theorem SI.beq_eq : ∀ {a b : SI}, SI.beq a b = true → a = b
  | .lit a, .lit b, h => by simp [SI.beq, eqI_eq] at h; rw [h]
  | .var i, .var j, h => by simp [SI.beq, beqN] at h; rw [h]
  | .bin op k a b, .bin op' k' a' b', h => by
    simp only [SI.beq, Bool.and_eq_true] at h
    obtain ⟨⟨⟨h1, h2⟩, h3⟩, h4⟩ := h
    rw [(obeq_iff _ _).1 h1, (kbeq_iff _ _).1 h2, SI.beq_eq h3, SI.beq_eq h4]
  | .conv k a, .conv k' a', h => by
    simp only [SI.beq, Bool.and_eq_true] at h
    rw [(kbeq_iff _ _).1 h.1, SI.beq_eq h.2]
  | .lit _, .var _, h => by simp [SI.beq] at h
  | .lit _, .bin .., h => by simp [SI.beq] at h
  | .lit _, .conv .., h => by simp [SI.beq] at h
  | .var _, .lit _, h => by simp [SI.beq] at h
  | .var _, .bin .., h => by simp [SI.beq] at h
  | .var _, .conv .., h => by simp [SI.beq] at h
  | .bin .., .lit _, h => by simp [SI.beq] at h
  | .bin .., .var _, h => by simp [SI.beq] at h
  | .bin .., .conv .., h => by simp [SI.beq] at h
  | .conv .., .lit _, h => by simp [SI.beq] at h
  | .conv .., .var _, h => by simp [SI.beq] at h
  | .conv .., .bin .., h => by simp [SI.beq] at h

/-! ### what is assumed of unknown numbers -/
def cmpVal (op : BinOp) (a b : Int) : Bool :=
  match op with
  | .eql => decide (a = b)
  | .neq => !decide (a = b)
  | .lss => decide (a < b)
  | .leq => !decide (b < a)
  | .gtr => decide (b < a)
  | .geq => !decide (a < b)
  | _ => false
def cmpLit (op : BinOp) (a b : Int) : Bool :=
  match op with
  | .eql => eqI a b
  | .neq => !eqI a b
  | .lss => ltI a b
  | .leq => !ltI b a
  | .gtr => ltI b a
  | .geq => !ltI a b
  | _ => false
theorem cmpLit_eq (op : BinOp) (a b : Int) : cmpLit op a b = cmpVal op a b := by cases op <;> simp [cmpLit, cmpVal, eqI_eq, ltI_eq]
/-- the assumptions: what unknown numbers may be written for, how comparisons come out; 'most': how great the rooms asked for may be -/
structure Cf where
  rw : List (SI × SI)
  cmp : List (BinOp × SI × SI × Bool)
  iv : List (SI × Int × Int)
  oth : BinOp → SI → SI → Option Bool
  gl : Nat → Option (List AV)
def Cf.ok (cf : Cf) (σ : Nat → Int) : Prop := (∀ a b, (a, b) ∈ cf.rw → a.ev σ = b.ev σ) ∧ (∀ op a b r, (op, a, b, r) ∈ cf.cmp → cmpVal op (a.ev σ) (b.ev σ) = r) ∧ (∀ a lo hi, (a, lo, hi) ∈ cf.iv → lo ≤ a.ev σ ∧ a.ev σ ≤ hi) ∧ ∀ op a b r, cf.oth op a b = some r → cmpVal op (a.ev σ) (b.ev σ) = r
noncomputable def findRw (a : SI) (l : List (SI × SI)) : SI := List.rec a (fun x _ ih => Bool.rec ih x.2 (SI.beq x.1 a)) l
noncomputable def findCmp (op : BinOp) (a b : SI) (l : List (BinOp × SI × SI × Bool)) : Option Bool :=
  List.rec none (fun x _ ih => Bool.rec ih (some x.2.2.2) (obeq x.1 op && SI.beq x.2.1 a && SI.beq x.2.2.1 b)) l
theorem findRw_ok {σ : Nat → Int} (a : SI) : ∀ (l : List (SI × SI)), (∀ a b, (a, b) ∈ l → a.ev σ = b.ev σ) → (findRw a l).ev σ = a.ev σ
  | [], _ => rfl
  | x :: l, h => by
    show (Bool.rec (findRw a l) x.2 (SI.beq x.1 a) : SI).ev σ = _
    cases e : SI.beq x.1 a with
    | false => exact findRw_ok a l (fun a b m => h a b (List.mem_cons_of_mem _ m))
    | true =>
      have := SI.beq_eq e
      subst this
      exact (h x.1 x.2 (by simp)).symm
theorem findCmp_ok {σ : Nat → Int} {op : BinOp} {a b : SI} {r : Bool} : ∀ (l : List (BinOp × SI × SI × Bool)), (∀ op a b r, (op, a, b, r) ∈ l → cmpVal op (a.ev σ) (b.ev σ) = r) → findCmp op a b l = some r → cmpVal op (a.ev σ) (b.ev σ) = r
  | [], _, e => by simp [findCmp] at e
  | x :: l, h, e => by
    have e' : (Bool.rec (findCmp op a b l) (some x.2.2.2) (obeq x.1 op && SI.beq x.2.1 a && SI.beq x.2.2.1 b) : Option Bool) = some r := e
    cases c : (obeq x.1 op && SI.beq x.2.1 a && SI.beq x.2.2.1 b) with
    | false => rw [c] at e'; exact findCmp_ok l (fun op a b r m => h op a b r (List.mem_cons_of_mem _ m)) e'
    | true =>
      rw [c] at e'
      simp only [Bool.and_eq_true] at c
      obtain ⟨⟨h1, h2⟩, h3⟩ := c
      have h1 := (obeq_iff _ _).1 h1
      have h2 := SI.beq_eq h2
      have h3 := SI.beq_eq h3
      subst h1 h2 h3
      have e' : some x.2.2.2 = some r := e'
      cases e'
      exact h _ _ _ _ (by simp)
/-! ### within what a number lies -/
noncomputable def findIv (a : SI) (l : List (SI × Int × Int)) : Option (Int × Int) := List.rec none (fun x _ ih => Bool.rec ih (some x.2) (SI.beq x.1 a)) l
theorem findIv_ok {σ : Nat → Int} {a : SI} {lo hi : Int} : ∀ {l : List (SI × Int × Int)}, (∀ a lo hi, (a, lo, hi) ∈ l → lo ≤ a.ev σ ∧ a.ev σ ≤ hi) → findIv a l = some (lo, hi) → lo ≤ a.ev σ ∧ a.ev σ ≤ hi
  | [], _, e => by simp [findIv] at e
  | (u, p) :: l, h, e => by
    have e' : (Bool.rec (findIv a l) (some p) (SI.beq u a) : Option (Int × Int)) = some (lo, hi) := e
    cases c : SI.beq u a with
    | false => rw [c] at e'; exact findIv_ok (fun a lo hi m => h a lo hi (List.mem_cons_of_mem _ m)) e'
    | true =>
      rw [c] at e'
      have h1 := SI.beq_eq c
      have e2 : p = (lo, hi) := Option.some.inj e'
      subst h1 e2
      exact h _ _ _ (by simp)
def inK (k : IntKind) (n : Int) : Bool := match n with
  | .ofNat m => Nat.ble m (maxN k)
  | .negSucc m => match sgn k with
    | true => Nat.ble m (maxN k)
    | false => false
theorem inK_wrap {k : IntKind} {n : Int} (h : inK k n = true) : k.wrap n = n := by
  rw [← wrapF_eq]
  cases n with
  | ofNat m =>
    have h' : Nat.ble m (maxN k) = true := h
    simp only [wrapF, h']
  | negSucc m =>
    simp only [inK] at h
    simp only [wrapF]
    split at h
    · rename_i hs
      simp only [h]
    · cases h
theorem inK_iff (k : IntKind) (n : Int) : inK k n = true ↔ (match sgn k with | true => -(maxN k : Int) - 1 | false => 0) ≤ n ∧ n ≤ maxN k := by
  cases n with
  | ofNat m =>
    simp only [inK, bleN, decide_eq_true_eq, Int.ofNat_eq_natCast]
    cases sgn k
    · simp
    · simp only []; omega
  | negSucc m =>
    simp only [inK]
    cases sgn k with
    | true => simp only [bleN, decide_eq_true_eq]; omega
    | false => simp
theorem inK_mid {k : IntKind} {lo n hi : Int} (h1 : inK k lo = true) (h2 : inK k hi = true) (a : lo ≤ n) (b : n ≤ hi) : inK k n = true := by
  rw [inK_iff] at *
  omega
def okIv (k : IntKind) (lo hi : Int) : Option (Int × Int) := match inK k lo, inK k hi with
  | true, true => some (lo, hi)
  | _, _ => none
theorem okIv_ok {k : IntKind} {lo hi lo' hi' n : Int} (h : okIv k lo hi = some (lo', hi')) (a : lo ≤ n) (b : n ≤ hi) : lo' ≤ k.wrap n ∧ k.wrap n ≤ hi' := by
  unfold okIv at h
  split at h
  · rename_i h1 h2
    cases h
    rw [inK_wrap (inK_mid h1 h2 a b)]
    exact ⟨a, b⟩
  · cases h
def mulIv (k : IntKind) (lo hi c : Int) : Option (Int × Int) := match ltI c 0 with
  | false => okIv k (lo * c) (hi * c)
  | true => okIv k (hi * c) (lo * c)
theorem mulIv_ok {k : IntKind} {lo hi c lo' hi' n : Int} (h : mulIv k lo hi c = some (lo', hi')) (a : lo ≤ n) (b : n ≤ hi) : lo' ≤ k.wrap (n * c) ∧ k.wrap (n * c) ≤ hi' := by
  unfold mulIv at h
  split at h
  · rename_i e
    simp only [ltI_eq, decide_eq_false_iff_not] at e
    exact okIv_ok h (Int.mul_le_mul_of_nonneg_right a (by omega)) (Int.mul_le_mul_of_nonneg_right b (by omega))
  · rename_i e
    simp only [ltI_eq, decide_eq_true_eq] at e
    exact okIv_ok h (Int.mul_le_mul_of_nonpos_right b (by omega)) (Int.mul_le_mul_of_nonpos_right a (by omega))
def ivBin (op : BinOp) (k : IntKind) (x y : Option (Int × Int)) : Option (Int × Int) := match op, x, y with
  | .add, some (a, b), some (c, d) => okIv k (a + c) (b + d)
  | .sub, some (a, b), some (c, d) => okIv k (a - d) (b - c)
  | .mul, some (a, b), some (c, d) => match eqI c d with
    | true => mulIv k a b c
    | false => match eqI a b with
      | true => mulIv k c d a
      | false => none
  | .and, _, some (c, d) => match ltI c 0, eqI c d, inK k d with
    | false, true, true => some (0, d)
    | _, _, _ => none
  | .shr, some (a, b), some (c, d) => match ltI c 0, eqI c d, ltI c 64, Nat.ble 64 k.bits with
    | false, true, true, true => some (a.fdiv (2 ^ c.toNat), b.fdiv (2 ^ c.toNat))
    | _, _, _, _ => none
  | .rem, some (a, _), some (c, d) => match ltI 0 c, eqI c d with
    | true, true => match ltI a 0 with
      | false => some (0, d - 1)
      | true => some (1 - d, d - 1)
    | _, _ => none
  | .rem, none, some (c, d) => match ltI 0 c, eqI c d with
    | true, true => some (1 - d, d - 1)
    | _, _ => none
  | _, _, _ => none
theorem ivBin_ok {op : BinOp} {k : IntKind} {x y : Option (Int × Int)} {lo hi m n : Int} (h : ivBin op k x y = some (lo, hi)) (hx : ∀ a b, x = some (a, b) → a ≤ m ∧ m ≤ b) (hy : ∀ a b, y = some (a, b) → a ≤ n ∧ n ≤ b) : lo ≤ opVal op k m n ∧ opVal op k m n ≤ hi := by
  have rem : ∀ {c d : Int}, ltI 0 c = true → eqI c d = true → c ≤ n → n ≤ d → 0 < d ∧ n = d := by
    intro c d h1 h2 h3 h4
    simp only [ltI_eq, eqI_eq, decide_eq_true_eq] at h1 h2
    omega
  unfold ivBin at h
  split at h
  · rename_i a b c d
    obtain ⟨h1, h2⟩ := hx _ _ rfl
    obtain ⟨h3, h4⟩ := hy _ _ rfl
    exact okIv_ok h (by omega) (by omega)
  · rename_i a b c d
    obtain ⟨h1, h2⟩ := hx _ _ rfl
    obtain ⟨h3, h4⟩ := hy _ _ rfl
    exact okIv_ok h (by omega) (by omega)
  · rename_i a b c d
    obtain ⟨h1, h2⟩ := hx _ _ rfl
    obtain ⟨h3, h4⟩ := hy _ _ rfl
    split at h
    · rename_i e2
      simp only [eqI_eq, decide_eq_true_eq] at e2
      have hn : n = c := by omega
      subst hn
      exact mulIv_ok h h1 h2
    · split at h
      · rename_i e2
        simp only [eqI_eq, decide_eq_true_eq] at e2
        have hm : m = a := by omega
        subst hm
        have := mulIv_ok h h3 h4
        rw [Int.mul_comm n m] at this
        exact this
      · cases h
  · rename_i c d
    obtain ⟨h3, h4⟩ := hy _ _ rfl
    split at h
    · rename_i e1 e2 e3
      cases h
      simp only [ltI_eq, eqI_eq, decide_eq_true_eq, decide_eq_false_iff_not] at e1 e2
      have hn : n = hi := by omega
      subst hn
      have hle : (BitVec.ofInt k.bits m &&& BitVec.ofInt k.bits n).toNat ≤ n.toNat := by
        rw [BitVec.toNat_and]
        refine Nat.le_trans Nat.and_le_right ?_
        rw [BitVec.toNat_ofInt]
        have : n % (2 ^ k.bits : Nat) ≤ n := by
          obtain ⟨q, rfl⟩ : ∃ q : Nat, n = q := ⟨n.toNat, by omega⟩
          exact_mod_cast Nat.mod_le q _
        omega
      have := okIv_ok (k := k) (lo := 0) (hi := n) (lo' := 0) (hi' := n) (n := ((BitVec.ofInt k.bits m &&& BitVec.ofInt k.bits n).toNat : Int)) (by simp only [okIv, e3, show inK k 0 = true from rfl]) (by omega) (by omega)
      exact this
    · cases h
  · rename_i a b c d
    obtain ⟨h1, h2⟩ := hx _ _ rfl
    obtain ⟨h3, h4⟩ := hy _ _ rfl
    split at h
    · rename_i e1 e2 e3 e4
      cases h
      simp only [ltI_eq, eqI_eq, decide_eq_true_eq, decide_eq_false_iff_not] at e1 e2 e3
      have e4 := Nat.le_of_ble_eq_true e4
      have hn : n = c := by omega
      subst hn
      show a.fdiv (2 ^ n.toNat) ≤ m.fdiv (2 ^ (min n.toNat k.bits)) ∧ m.fdiv (2 ^ (min n.toNat k.bits)) ≤ b.fdiv (2 ^ n.toNat)
      rw [Nat.min_eq_left (by omega)]
      have hp : (0 : Int) < 2 ^ n.toNat := Int.pow_pos (by omega)
      rw [Int.fdiv_eq_ediv_of_nonneg _ (by omega), Int.fdiv_eq_ediv_of_nonneg _ (by omega), Int.fdiv_eq_ediv_of_nonneg _ (by omega)]
      exact ⟨Int.ediv_le_ediv hp h1, Int.ediv_le_ediv hp h2⟩
    · cases h
  · rename_i a b c d
    obtain ⟨h1, h2⟩ := hx _ _ rfl
    obtain ⟨h3, h4⟩ := hy _ _ rfl
    split at h
    · rename_i e1 e2
      obtain ⟨hd, rfl⟩ := rem e1 e2 h3 h4
      split at h
      · rename_i e3
        cases h
        simp only [ltI_eq, decide_eq_false_iff_not] at e3
        have := Int.tmod_lt_of_pos m hd
        have := Int.tmod_nonneg n (a := m) (by omega)
        show 0 ≤ m.tmod n ∧ m.tmod n ≤ n - 1
        omega
      · cases h
        have := Int.tmod_lt_of_pos m hd
        have := Int.lt_tmod_of_pos m hd
        show 1 - n ≤ m.tmod n ∧ m.tmod n ≤ n - 1
        omega
    · cases h
  · rename_i c d
    obtain ⟨h3, h4⟩ := hy _ _ rfl
    split at h
    · rename_i e1 e2
      obtain ⟨hd, rfl⟩ := rem e1 e2 h3 h4
      cases h
      have := Int.tmod_lt_of_pos m hd
      have := Int.lt_tmod_of_pos m hd
      show 1 - n ≤ m.tmod n ∧ m.tmod n ≤ n - 1
      omega
    · cases h
  · cases h
def minK (k : IntKind) : Int := match sgn k with
  | true => .negSucc (maxN k)
  | false => 0
theorem wrap_range (k : IntKind) (n : Int) : minK k ≤ k.wrap n ∧ k.wrap n ≤ maxN k := by
  cases k <;> simp only [minK, sgn, maxN, IntKind.wrap, IntKind.bits, IntKind.signed] <;> simp <;> omega
/-- of an operation that is brought back into its kind: the kind's range -/
def kindIv (op : BinOp) (k : IntKind) : Option (Int × Int) := match op with
  | .add | .sub | .mul | .quo | .and | .or | .xor | .andNot | .shl => some (minK k, .ofNat (maxN k))
  | _ => none
theorem kindIv_ok {op : BinOp} {k : IntKind} {lo hi m n : Int} (h : kindIv op k = some (lo, hi)) : lo ≤ opVal op k m n ∧ opVal op k m n ≤ hi := by
  cases op <;> first | (cases h; done) | (cases h; exact wrap_range k _)
def orIv (a b : Option (Int × Int)) : Option (Int × Int) := match a with
  | some p => some p
  | none => b
def convIv (k : IntKind) (x : Option (Int × Int)) : Option (Int × Int) := match x with
  | some (a, b) => okIv k a b
  | none => none
noncomputable def bnd (iv : List (SI × Int × Int)) : SI → Option (Int × Int) := fun e =>
  SI.rec (motive := fun _ => Option (Int × Int)) (fun n => some (n, n)) (fun i => findIv (.var i) iv)
    (fun op k a b iha ihb => Option.rec (orIv (ivBin op k iha ihb) (kindIv op k)) some (findIv (.bin op k a b) iv))
    (fun k a iha => Option.rec (orIv (convIv k iha) (some (minK k, .ofNat (maxN k)))) some (findIv (.conv k a) iv)) e
theorem bnd_ok {iv : List (SI × Int × Int)} {σ : Nat → Int} (h : ∀ a lo hi, (a, lo, hi) ∈ iv → lo ≤ a.ev σ ∧ a.ev σ ≤ hi) : ∀ (e : SI) {lo hi : Int}, bnd iv e = some (lo, hi) → lo ≤ e.ev σ ∧ e.ev σ ≤ hi := by
  intro e
  induction e with
  | lit n => intro lo hi e; cases e; exact ⟨Int.le_refl _, Int.le_refl _⟩
  | var i => intro lo hi e; exact findIv_ok h e
  | bin op k a b iha ihb =>
    intro lo hi e
    have e' : (Option.rec (orIv (ivBin op k (bnd iv a) (bnd iv b)) (kindIv op k)) some (findIv (.bin op k a b) iv) : Option (Int × Int)) = some (lo, hi) := e
    cases hf : findIv (.bin op k a b) iv with
    | some p => rw [hf] at e'; exact findIv_ok h (hf.trans e')
    | none =>
      rw [hf] at e'
      have e'' : orIv (ivBin op k (bnd iv a) (bnd iv b)) (kindIv op k) = some (lo, hi) := e'
      unfold orIv at e''
      split at e''
      · rename_i p hp
        cases e''
        exact ivBin_ok hp (fun x y h => iha h) (fun x y h => ihb h)
      · exact kindIv_ok e''
  | conv k a iha =>
    intro lo hi e
    have e' : (Option.rec (orIv (convIv k (bnd iv a)) (some (minK k, .ofNat (maxN k)))) some (findIv (.conv k a) iv) : Option (Int × Int)) = some (lo, hi) := e
    cases hf : findIv (.conv k a) iv with
    | some p => rw [hf] at e'; exact findIv_ok h (hf.trans e')
    | none =>
      rw [hf] at e'
      have e'' : orIv (convIv k (bnd iv a)) (some (minK k, .ofNat (maxN k))) = some (lo, hi) := e'
      unfold orIv at e''
      split at e''
      · rename_i p hp
        cases e''
        unfold convIv at hp
        split at hp
        · rename_i x y hb
          obtain ⟨h1, h2⟩ := iha hb
          exact okIv_ok hp h1 h2
        · cases hp
      · cases e''
        exact wrap_range k _
def ltIv (x y : Option (Int × Int)) : Option Bool := match x, y with
  | some (a, b), some (c, d) => match ltI b c with
    | true => some true
    | false => match ltI a d with
      | false => some false
      | true => none
  | _, _ => none
theorem ltIv_ok {x y : Option (Int × Int)} {m n : Int} {r : Bool} (h : ltIv x y = some r) (hx : ∀ a b, x = some (a, b) → a ≤ m ∧ m ≤ b) (hy : ∀ a b, y = some (a, b) → a ≤ n ∧ n ≤ b) : decide (m < n) = r := by
  unfold ltIv at h
  split at h
  · obtain ⟨h1, h2⟩ := hx _ _ rfl
    obtain ⟨h3, h4⟩ := hy _ _ rfl
    split at h
    · rename_i e
      cases h
      simp only [ltI_eq, decide_eq_true_eq] at e
      exact decide_eq_true (by omega)
    · split at h
      · rename_i e
        cases h
        simp only [ltI_eq, decide_eq_false_iff_not] at e
        exact decide_eq_false (by omega)
      · cases h
  · cases h
def ivCmp (op : BinOp) (x y : Option (Int × Int)) : Option Bool := match op with
  | .lss => ltIv x y
  | .gtr => ltIv y x
  | .leq => match ltIv y x with | some r => some (!r) | none => none
  | .geq => match ltIv x y with | some r => some (!r) | none => none
  | .eql => match ltIv x y, ltIv y x with
    | some true, _ => some false
    | _, some true => some false
    | some false, some false => some true
    | _, _ => none
  | .neq => match ltIv x y, ltIv y x with
    | some true, _ => some true
    | _, some true => some true
    | some false, some false => some false
    | _, _ => none
  | _ => none
theorem ivCmp_ok {op : BinOp} {x y : Option (Int × Int)} {m n : Int} {r : Bool} (h : ivCmp op x y = some r) (hx : ∀ a b, x = some (a, b) → a ≤ m ∧ m ≤ b) (hy : ∀ a b, y = some (a, b) → a ≤ n ∧ n ≤ b) : cmpVal op m n = r := by
  unfold ivCmp at h
  split at h
  · exact ltIv_ok h hx hy
  · exact ltIv_ok h hy hx
  · split at h
    · rename_i q hq; cases h; rw [← ltIv_ok hq hy hx]; rfl
    · cases h
  · split at h
    · rename_i q hq; cases h; rw [← ltIv_ok hq hx hy]; rfl
    · cases h
  · split at h
    · rename_i hq
      cases h
      have := of_decide_eq_true (ltIv_ok hq hx hy)
      exact decide_eq_false (by omega)
    · rename_i hq _
      cases h
      have := of_decide_eq_true (ltIv_ok hq hy hx)
      exact decide_eq_false (by omega)
    · rename_i hq hq2
      cases h
      have := of_decide_eq_false (ltIv_ok hq hx hy)
      have := of_decide_eq_false (ltIv_ok hq2 hy hx)
      exact decide_eq_true (by omega)
    · cases h
  · split at h
    · rename_i hq
      cases h
      have := of_decide_eq_true (ltIv_ok hq hx hy)
      show (!decide (m = n)) = true
      rw [decide_eq_false (by omega)]; rfl
    · rename_i hq _
      cases h
      have := of_decide_eq_true (ltIv_ok hq hy hx)
      show (!decide (m = n)) = true
      rw [decide_eq_false (by omega)]; rfl
    · rename_i hq hq2
      cases h
      have := of_decide_eq_false (ltIv_ok hq hx hy)
      have := of_decide_eq_false (ltIv_ok hq2 hy hx)
      show (!decide (m = n)) = false
      rw [decide_eq_true (by omega)]; rfl
    · cases h
  · cases h
/-- an expression that can be one number alone is that number -/
noncomputable def singK {R : Type} (cf : Cf) (e : SI) (K : SI → R) : R := match bnd cf.iv e with
  | some (lo, hi) => match eqI lo hi with
    | true => forceI lo (fun n => K (.lit n))
    | false => K e
  | none => K e
theorem singK_ok {R : Type} {cf : Cf} {σ : Nat → Int} (h : cf.ok σ) (e : SI) (K : SI → R) : ∃ c : SI, singK cf e K = K c ∧ c.ev σ = e.ev σ := by
  unfold singK
  split
  · rename_i lo hi hb
    obtain ⟨h1, h2⟩ := bnd_ok h.2.2.1 e hb
    split
    · rename_i he
      rw [eqI_eq, decide_eq_true_eq] at he
      exact ⟨.lit lo, forceI_eq _ (fun n => K (.lit n)), by show lo = _; omega⟩
    · exact ⟨e, rfl, rfl⟩
  · exact ⟨e, rfl, rfl⟩
/-- an operation of whole numbers, handed on written out -/
noncomputable def binK {R : Type} (cf : Cf) (op : BinOp) (k : IntKind) (a b : SI) (K : SI → R) : R :=
  match a, b with
  | .lit x, .lit y => forceI (opLit op k x y) (fun n => K (.lit n))
  | a, b => singK cf (findRw (.bin op k a b) cf.rw) K
def fitsIv (k : IntKind) (x : Option (Int × Int)) : Bool := match x with
  | some (a, b) => match inK k a with
    | true => inK k b
    | false => false
  | none => false
noncomputable def convK {R : Type} (cf : Cf) (k : IntKind) (a : SI) (K : SI → R) : R :=
  match a with
  | .lit x => forceI (wrapF k x) (fun n => K (.lit n))
  | a => match fitsIv k (bnd cf.iv a) with
    | true => singK cf a K
    | false => singK cf (findRw (.conv k a) cf.rw) K
theorem binK_ok {R : Type} {cf : Cf} {σ : Nat → Int} (h : cf.ok σ) (op : BinOp) (k : IntKind) (a b : SI) (K : SI → R) : ∃ c : SI, binK cf op k a b K = K c ∧ c.ev σ = opVal op k (a.ev σ) (b.ev σ) := by
  have main : ∀ a b, ∃ c : SI, singK cf (findRw (.bin op k a b) cf.rw) K = K c ∧ c.ev σ = opVal op k (a.ev σ) (b.ev σ) := fun a b =>
    let ⟨c, h1, h2⟩ := singK_ok h (findRw (.bin op k a b) cf.rw) K
    ⟨c, h1, h2.trans ((findRw_ok _ _ h.1).trans (by simp [SI.ev]))⟩
  cases a with
  | lit x =>
    cases b with
    | lit y => exact ⟨.lit (opLit op k x y), forceI_eq _ (fun n => K (.lit n)), by simp [SI.ev, opLit_eq]⟩
    | _ => exact main _ _
  | _ => cases b <;> exact main _ _
theorem convK_ok {R : Type} {cf : Cf} {σ : Nat → Int} (h : cf.ok σ) (k : IntKind) (a : SI) (K : SI → R) : ∃ c : SI, convK cf k a K = K c ∧ c.ev σ = k.wrap (a.ev σ) := by
  have main : ∀ a, ∃ c : SI, (match fitsIv k (bnd cf.iv a) with | true => singK cf a K | false => singK cf (findRw (.conv k a) cf.rw) K) = K c ∧ c.ev σ = k.wrap (a.ev σ) := by
    intro a
    split
    · rename_i hf
      obtain ⟨c, hc1, hc2⟩ := singK_ok h a K
      refine ⟨c, hc1, hc2.trans (inK_wrap ?_).symm⟩
      unfold fitsIv at hf
      split at hf
      · rename_i x y hb
        obtain ⟨h1, h2⟩ := bnd_ok h.2.2.1 a hb
        split at hf
        · rename_i hx; exact inK_mid hx hf h1 h2
        · cases hf
      · cases hf
    · obtain ⟨c, hc1, hc2⟩ := singK_ok h (findRw (.conv k a) cf.rw) K
      exact ⟨c, hc1, hc2.trans ((findRw_ok _ _ h.1).trans (by simp [SI.ev]))⟩
  cases a with
  | lit x => exact ⟨.lit (wrapF k x), forceI_eq _ (fun n => K (.lit n)), by simp [SI.ev, wrapF_eq]⟩
  | _ => exact main _
def selfO : BinOp → Bool
  | .eql | .leq | .geq => true
  | _ => false
noncomputable def cmpO (cf : Cf) (op : BinOp) (a b : SI) : Option Bool :=
  match a, b with
  | .lit x, .lit y => some (cmpLit op x y)
  | a, b => match findCmp op a b cf.cmp with
    | some r => some r
    | none => match SI.beq a b with
      | true => some (selfO op)
      | false => match ivCmp op (bnd cf.iv a) (bnd cf.iv b) with
        | some r => some r
        | none => cf.oth op a b
theorem cmpVal_same (op : BinOp) (a : Int) : cmpVal op a a = selfO op := by cases op <;> simp [cmpVal, selfO]
theorem cmpO_ok {cf : Cf} {σ : Nat → Int} (h : cf.ok σ) {op : BinOp} {a b : SI} {r : Bool} (e : cmpO cf op a b = some r) : cmpVal op (a.ev σ) (b.ev σ) = r := by
  have main : ∀ a b, (match findCmp op a b cf.cmp with | some r => some r | none => match SI.beq a b with | true => some (selfO op) | false => match ivCmp op (bnd cf.iv a) (bnd cf.iv b) with | some r => some r | none => cf.oth op a b) = some r → cmpVal op (a.ev σ) (b.ev σ) = r := by
    intro a b e
    split at e
    · rename_i r' hr
      have e := Option.some.inj e
      rw [← e]
      exact findCmp_ok _ h.2.1 hr
    · split at e
      · rename_i hb
        have := SI.beq_eq hb
        subst this
        have e := Option.some.inj e
        rw [← e]
        exact cmpVal_same _ _
      · split at e
        · rename_i q hq
          cases e
          exact ivCmp_ok hq (fun x y hb => bnd_ok h.2.2.1 _ hb) (fun x y hb => bnd_ok h.2.2.1 _ hb)
        · exact h.2.2.2 _ _ _ _ e
  cases a with
  | lit x =>
    cases b with
    | lit y => exact (cmpLit_eq op x y).symm.trans (Option.some.inj e)
    | _ => exact main _ _ e
  | _ => cases b <;> exact main _ _ e
end Go.Ai
