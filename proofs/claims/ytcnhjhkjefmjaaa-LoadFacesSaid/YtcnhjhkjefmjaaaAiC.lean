/- The abstract machine's reckoning: lists, whole numbers, what is assumed of unknown numbers, equality of values. -/
import Derived.Test.YtcnhjhkjefmjaaaAiB
import Derived.Laws.Cells
import Derived.Laws.Append
namespace Go.Ai
open Go Go.RowKit
set_option linter.unusedVariables false

/-! ### lists -/
section
variable {α : Type}
noncomputable def nthL (l : List α) : Nat → Option α := List.rec (fun _ => none) (fun a _ ih n => Nat.rec (some a) (fun m _ => ih m) n) l
theorem nthL_eq (l : List α) (n : Nat) : nthL l n = l[n]? := by
  induction l generalizing n with
  | nil => rfl
  | cons a l ih => cases n with
    | zero => rfl
    | succ n => exact (ih n).trans (by simp)
noncomputable def dropL (n : Nat) : List α → List α := Nat.rec (fun l => l) (fun _ ih l => List.casesOn l [] (fun _ t => ih t)) n
theorem dropL_eq (n : Nat) (l : List α) : dropL n l = l.drop n := by
  induction n generalizing l with
  | zero => rfl
  | succ n ih => cases l with
    | nil => rfl
    | cons a l => exact ih l
noncomputable def takeL (n : Nat) : List α → List α := Nat.rec (fun _ => []) (fun _ ih l => List.casesOn l [] (fun a t => a :: ih t)) n
theorem takeL_eq (n : Nat) (l : List α) : takeL n l = l.take n := by
  induction n generalizing l with
  | zero => rfl
  | succ n ih => cases l with
    | nil => rfl
    | cons a l => exact congrArg (a :: ·) (ih l)
noncomputable def lenL (l : List α) : Nat := List.rec 0 (fun _ _ ih => Nat.succ ih) l
theorem lenL_eq (l : List α) : lenL l = l.length := by
  induction l with
  | nil => rfl
  | cons a l ih => exact congrArg Nat.succ ih
/-- cells written over from a place on -/
noncomputable def spliceL (n : Nat) : List α → List α → List α := Nat.rec (fun l vs => List.rec (fun l => l) (fun v _ ih l => v :: ih (List.casesOn l [] (fun _ t => t))) vs l) (fun _ ih l vs => List.casesOn l (ih [] vs) (fun a t => a :: ih t vs)) n
noncomputable def splice0K {R : Type} (vs : List α) : List α → (List α → R) → R :=
  List.rec (fun l k => k l) (fun v _ ih l k => ih (List.casesOn l [] (fun _ t => t)) (fun t' => k (v :: t'))) vs
noncomputable def spliceK {R : Type} (n : Nat) (vs : List α) : List α → (List α → R) → R :=
  Nat.rec (fun l k => splice0K vs l k) (fun _ ih l k => List.casesOn l (ih [] k) (fun a t => ih t (fun t' => k (a :: t')))) n
theorem splice0K_eq {R : Type} (vs l : List α) (k : List α → R) : splice0K vs l k = k (vs ++ l.drop vs.length) := by
  induction vs generalizing l k with
  | nil => rfl
  | cons v vs ih => cases l with
    | nil => exact (ih [] _).trans (by simp)
    | cons a l => exact (ih l _).trans (by simp)
theorem spliceK_eq {R : Type} (n : Nat) (vs l : List α) (k : List α → R) (h : n ≤ l.length) : spliceK n vs l k = k (l.take n ++ vs ++ l.drop (n + vs.length)) := by
  induction n generalizing l k with
  | zero => exact (splice0K_eq vs l k).trans (by simp)
  | succ n ih => cases l with
    | nil => simp at h
    | cons a l => exact (ih l _ (by simpa using h)).trans (by simp [Nat.add_right_comm n 1])
end

/-! ### whole numbers, handed on written out -/
noncomputable def forceN {R : Type} (m : Nat) (k : Nat → R) : R := Nat.rec (k 0) (fun p _ => k (Nat.succ p)) m
theorem forceN_eq {R : Type} (m : Nat) (k : Nat → R) : forceN m k = k m := by cases m <;> rfl
noncomputable def forceI {R : Type} (n : Int) (k : Int → R) : R := Int.rec (fun m => forceN m (fun m => k (.ofNat m))) (fun m => forceN m (fun m => k (.negSucc m))) n
theorem forceI_eq {R : Type} (n : Int) (k : Int → R) : forceI n k = k n := by
  cases n with
  | ofNat m => exact forceN_eq m (fun m => k (.ofNat m))
  | negSucc m => exact forceN_eq m (fun m => k (.negSucc m))
def eqI (a b : Int) : Bool := match a, b with
  | .ofNat m, .ofNat n => Nat.beq m n
  | .negSucc m, .negSucc n => Nat.beq m n
  | _, _ => false
theorem beqN (m n : Nat) : Nat.beq m n = decide (m = n) := by
  cases h : Nat.beq m n with
  | true => simp [Nat.eq_of_beq_eq_true h]
  | false => simp [Nat.ne_of_beq_eq_false h]
theorem eqI_eq (a b : Int) : eqI a b = decide (a = b) := by
  cases a <;> cases b <;> simp [eqI, beqN] <;> omega
def ltI (a b : Int) : Bool := match a, b with
  | .ofNat m, .ofNat n => Nat.ble (Nat.succ m) n
  | .negSucc m, .negSucc n => Nat.ble (Nat.succ n) m
  | .negSucc _, .ofNat _ => true
  | .ofNat _, .negSucc _ => false
theorem bleN (m n : Nat) : Nat.ble m n = decide (m ≤ n) := by
  cases h : Nat.ble m n with
  | true => simp [Nat.le_of_ble_eq_true h]
  | false =>
    have := Nat.not_le_of_not_ble_eq_true (m := n) (n := m) (by simp [h])
    simp; omega
theorem ltI_eq (a b : Int) : ltI a b = decide (a < b) := by
  cases a <;> cases b <;> simp [ltI, bleN]
  · omega
  · rename_i m n; have : ¬ ((m : Int) < Int.negSucc n) := by omega
    omega
  · rename_i m n; have : Int.negSucc m < (n : Int) := by omega
    omega
  · rename_i m n; omega
/-- the greatest and (its turned sign, less one) the least of a kind -/
def maxN : IntKind → Nat
  | .i8 => 127 | .i16 => 32767 | .i32 => 2147483647 | .i64 => 9223372036854775807 | .u8 => 255 | .u16 => 65535 | .u32 => 4294967295 | .u64 => 18446744073709551615
def modN : IntKind → Nat
  | .i8 | .u8 => 256 | .i16 | .u16 => 65536 | .i32 | .u32 => 4294967296 | .i64 | .u64 => 18446744073709551616
def sgn : IntKind → Bool
  | .i8 | .i16 | .i32 | .i64 => true
  | _ => false
def wrapF (k : IntKind) (n : Int) : Int :=
  match n with
  | .ofNat m => match Nat.ble m (maxN k) with
    | true => .ofNat m
    | false => k.wrap (.ofNat m)
  | .negSucc m => match sgn k with
    | true => match Nat.ble m (maxN k) with
      | true => .negSucc m
      | false => k.wrap (.negSucc m)
    | false => k.wrap (.negSucc m)
theorem wrapF_eq (k : IntKind) (n : Int) : wrapF k n = k.wrap n := by
  cases n with
  | ofNat m =>
    simp only [wrapF, bleN]
    by_cases h : m ≤ maxN k
    · simp only [h, decide_true]
      cases k <;> simp only [IntKind.wrap, IntKind.bits, IntKind.signed, maxN] at * <;> simp <;> omega
    · simp only [h, decide_false]
  | negSucc m =>
    simp only [wrapF, bleN]
    cases hs : sgn k with
    | false => rfl
    | true =>
      by_cases h : m ≤ maxN k
      · simp only [h, decide_true]
        cases k <;> simp only [sgn, Bool.false_eq_true] at hs <;> simp only [IntKind.wrap, IntKind.bits, IntKind.signed, maxN] at * <;> simp <;> omega
      · simp only [h, decide_false]
def opLit (op : BinOp) (k : IntKind) (a b : Int) : Int :=
  match op with
  | .add => wrapF k (a + b)
  | .sub => wrapF k (a - b)
  | .mul => wrapF k (a * b)
  | .quo => wrapF k (a.tdiv b)
  | .rem => a.tmod b
  | _ => opVal op k a b
theorem opLit_eq (op : BinOp) (k : IntKind) (a b : Int) : opLit op k a b = opVal op k a b := by
  cases op <;> simp [opLit, opVal, wrapF_eq]
def kbeq : IntKind → IntKind → Bool
  | .i8, .i8 | .i16, .i16 | .i32, .i32 | .i64, .i64 | .u8, .u8 | .u16, .u16 | .u32, .u32 | .u64, .u64 => true
  | _, _ => false
theorem kbeq_iff (a b : IntKind) : kbeq a b = true ↔ a = b := by cases a <;> cases b <;> simp [kbeq]
def obeq (a b : BinOp) : Bool := match a, b with
  | .add, .add | .sub, .sub | .mul, .mul | .quo, .quo | .rem, .rem | .and, .and | .or, .or | .xor, .xor | .shl, .shl | .shr, .shr | .andNot, .andNot | .eql, .eql | .neq, .neq | .lss, .lss | .leq, .leq | .gtr, .gtr | .geq, .geq => true
  | _, _ => false
theorem obeq_iff (a b : BinOp) : obeq a b = true ↔ a = b := by cases a <;> cases b <;> simp [obeq]
def SI.beq : SI → SI → Bool
  | .lit a, .lit b => eqI a b
  | .var i, .var j => Nat.beq i j
  | .bin op k a b, .bin op' k' a' b' => obeq op op' && kbeq k k' && SI.beq a a' && SI.beq b b'
  | .conv k a, .conv k' a' => kbeq k k' && SI.beq a a'
  | _, _ => false
theorem SI.beq_eq : ∀ {a b : SI}, SI.beq a b = true → a = b
  | .lit a, .lit b, h => by simp [SI.beq, eqI_eq] at h; rw [h]
  | .var i, .var j, h => by simp [SI.beq, beqN] at h; rw [h]
  | .bin op k a b, .bin op' k' a' b', h => by
    simp only [SI.beq, Bool.and_eq_true] at h
    obtain ⟨⟨⟨h1, h2⟩, h3⟩, h4⟩ := h
    rw [(obeq_iff _ _).1 h1, (kbeq_iff _ _).1 h2, SI.beq_eq h3, SI.beq_eq h4]
  | .conv k a, .conv k' a', h => by
    simp only [SI.beq, Bool.and_eq_true] at h
    rw [(kbeq_iff _ _).1 h.1, SI.beq_eq h.2]
  | .lit _, .var _, h => by simp [SI.beq] at h
  | .lit _, .bin .., h => by simp [SI.beq] at h
  | .lit _, .conv .., h => by simp [SI.beq] at h
  | .var _, .lit _, h => by simp [SI.beq] at h
  | .var _, .bin .., h => by simp [SI.beq] at h
  | .var _, .conv .., h => by simp [SI.beq] at h
  | .bin .., .lit _, h => by simp [SI.beq] at h
  | .bin .., .var _, h => by simp [SI.beq] at h
  | .bin .., .conv .., h => by simp [SI.beq] at h
  | .conv .., .lit _, h => by simp [SI.beq] at h
  | .conv .., .var _, h => by simp [SI.beq] at h
  | .conv .., .bin .., h => by simp [SI.beq] at h

/-! ### what is assumed of unknown numbers -/
def cmpVal (op : BinOp) (a b : Int) : Bool :=
  match op with
  | .eql => decide (a = b)
  | .neq => !decide (a = b)
  | .lss => decide (a < b)
  | .leq => !decide (b < a)
  | .gtr => decide (b < a)
  | .geq => !decide (a < b)
  | _ => false
def cmpLit (op : BinOp) (a b : Int) : Bool :=
  match op with
  | .eql => eqI a b
  | .neq => !eqI a b
  | .lss => ltI a b
  | .leq => !ltI b a
  | .gtr => ltI b a
  | .geq => !ltI a b
  | _ => false
theorem cmpLit_eq (op : BinOp) (a b : Int) : cmpLit op a b = cmpVal op a b := by cases op <;> simp [cmpLit, cmpVal, eqI_eq, ltI_eq]
/-- the assumptions: what unknown numbers may be written for, how comparisons come out; 'most': how great the rooms asked for may be -/
structure Cf where
  rw : List (SI × SI)
  cmp : List (BinOp × SI × SI × Bool)
def Cf.ok (cf : Cf) (σ : Nat → Int) : Prop := (∀ a b, (a, b) ∈ cf.rw → a.ev σ = b.ev σ) ∧ ∀ op a b r, (op, a, b, r) ∈ cf.cmp → cmpVal op (a.ev σ) (b.ev σ) = r
noncomputable def findRw (a : SI) (l : List (SI × SI)) : SI := List.rec a (fun x _ ih => Bool.rec ih x.2 (SI.beq x.1 a)) l
noncomputable def findCmp (op : BinOp) (a b : SI) (l : List (BinOp × SI × SI × Bool)) : Option Bool :=
  List.rec none (fun x _ ih => Bool.rec ih (some x.2.2.2) (obeq x.1 op && SI.beq x.2.1 a && SI.beq x.2.2.1 b)) l
theorem findRw_ok {σ : Nat → Int} (a : SI) : ∀ (l : List (SI × SI)), (∀ a b, (a, b) ∈ l → a.ev σ = b.ev σ) → (findRw a l).ev σ = a.ev σ
  | [], _ => rfl
  | x :: l, h => by
    show (Bool.rec (findRw a l) x.2 (SI.beq x.1 a) : SI).ev σ = _
    cases e : SI.beq x.1 a with
    | false => exact findRw_ok a l (fun a b m => h a b (List.mem_cons_of_mem _ m))
    | true =>
      have := SI.beq_eq e
      subst this
      exact (h x.1 x.2 (by simp)).symm
theorem findCmp_ok {σ : Nat → Int} {op : BinOp} {a b : SI} {r : Bool} : ∀ (l : List (BinOp × SI × SI × Bool)), (∀ op a b r, (op, a, b, r) ∈ l → cmpVal op (a.ev σ) (b.ev σ) = r) → findCmp op a b l = some r → cmpVal op (a.ev σ) (b.ev σ) = r
  | [], _, e => by simp [findCmp] at e
  | x :: l, h, e => by
    have e' : (Bool.rec (findCmp op a b l) (some x.2.2.2) (obeq x.1 op && SI.beq x.2.1 a && SI.beq x.2.2.1 b) : Option Bool) = some r := e
    cases c : (obeq x.1 op && SI.beq x.2.1 a && SI.beq x.2.2.1 b) with
    | false => rw [c] at e'; exact findCmp_ok l (fun op a b r m => h op a b r (List.mem_cons_of_mem _ m)) e'
    | true =>
      rw [c] at e'
      simp only [Bool.and_eq_true] at c
      obtain ⟨⟨h1, h2⟩, h3⟩ := c
      have h1 := (obeq_iff _ _).1 h1
      have h2 := SI.beq_eq h2
      have h3 := SI.beq_eq h3
      subst h1 h2 h3
      have e' : some x.2.2.2 = some r := e'
      cases e'
      exact h _ _ _ _ (by simp)
/-- an operation of whole numbers, handed on written out -/
noncomputable def binK {R : Type} (cf : Cf) (op : BinOp) (k : IntKind) (a b : SI) (K : SI → R) : R :=
  match a, b with
  | .lit x, .lit y => forceI (opLit op k x y) (fun n => K (.lit n))
  | a, b => K (findRw (.bin op k a b) cf.rw)
noncomputable def convK {R : Type} (cf : Cf) (k : IntKind) (a : SI) (K : SI → R) : R :=
  match a with
  | .lit x => forceI (wrapF k x) (fun n => K (.lit n))
  | a => K (findRw (.conv k a) cf.rw)
theorem binK_ok {R : Type} {cf : Cf} {σ : Nat → Int} (h : cf.ok σ) (op : BinOp) (k : IntKind) (a b : SI) (K : SI → R) : ∃ c : SI, binK cf op k a b K = K c ∧ c.ev σ = opVal op k (a.ev σ) (b.ev σ) := by
  have main : ∀ a b, ∃ c : SI, K (findRw (.bin op k a b) cf.rw) = K c ∧ c.ev σ = opVal op k (a.ev σ) (b.ev σ) := fun a b => ⟨_, rfl, (findRw_ok _ _ h.1).trans (by simp [SI.ev])⟩
  cases a with
  | lit x =>
    cases b with
    | lit y => exact ⟨.lit (opLit op k x y), forceI_eq _ (fun n => K (.lit n)), by simp [SI.ev, opLit_eq]⟩
    | _ => exact main _ _
  | _ => cases b <;> exact main _ _
theorem convK_ok {R : Type} {cf : Cf} {σ : Nat → Int} (h : cf.ok σ) (k : IntKind) (a : SI) (K : SI → R) : ∃ c : SI, convK cf k a K = K c ∧ c.ev σ = k.wrap (a.ev σ) := by
  have main : ∀ a, ∃ c : SI, K (findRw (.conv k a) cf.rw) = K c ∧ c.ev σ = k.wrap (a.ev σ) := fun a => ⟨_, rfl, (findRw_ok _ _ h.1).trans (by simp [SI.ev])⟩
  cases a with
  | lit x => exact ⟨.lit (wrapF k x), forceI_eq _ (fun n => K (.lit n)), by simp [SI.ev, wrapF_eq]⟩
  | _ => exact main _
def selfO : BinOp → Bool
  | .eql | .leq | .geq => true
  | _ => false
noncomputable def cmpO (cf : Cf) (op : BinOp) (a b : SI) : Option Bool :=
  match a, b with
  | .lit x, .lit y => some (cmpLit op x y)
  | a, b => match findCmp op a b cf.cmp with
    | some r => some r
    | none => match SI.beq a b with
      | true => some (selfO op)
      | false => none
theorem cmpVal_same (op : BinOp) (a : Int) : cmpVal op a a = selfO op := by cases op <;> simp [cmpVal, selfO]
theorem cmpO_ok {cf : Cf} {σ : Nat → Int} (h : cf.ok σ) {op : BinOp} {a b : SI} {r : Bool} (e : cmpO cf op a b = some r) : cmpVal op (a.ev σ) (b.ev σ) = r := by
  have main : ∀ a b, (match findCmp op a b cf.cmp with | some r => some r | none => match SI.beq a b with | true => some (selfO op) | false => none) = some r → cmpVal op (a.ev σ) (b.ev σ) = r := by
    intro a b e
    split at e
    · rename_i r' hr
      have e := Option.some.inj e
      rw [← e]
      exact findCmp_ok _ h.2 hr
    · split at e
      · rename_i hb
        have := SI.beq_eq hb
        subst this
        have e := Option.some.inj e
        rw [← e]
        exact cmpVal_same _ _
      · cases e
  cases a with
  | lit x =>
    cases b with
    | lit y => exact (cmpLit_eq op x y).symm.trans (Option.some.inj e)
    | _ => exact main _ _ e
  | _ => cases b <;> exact main _ _ e
end Go.Ai
