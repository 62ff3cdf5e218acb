/- The abstract machine's data: names of blocks, trees by names, values with numbers that may be unknown, and what they stand for. -/
import Derived.Below
import Derived.Calls
import Derived.Laws.Sem
namespace Go.Ai
open Go Go.RowKit
set_option linter.unusedVariables false

/-! ### names, and trees by names -/
inductive P where
  | h : P
  | o : P → P
  | i : P → P

namespace P
def toNat : P → Nat
  | .h => 0
  | .o p => 2 * p.toNat + 1
  | .i p => 2 * p.toNat + 2
theorem toNat_inj : ∀ {p q : P}, p.toNat = q.toNat → p = q
  | .h, .h, _ => rfl
  | .h, .o q, e => by simp [toNat] at e
  | .h, .i q, e => by simp [toNat] at e
  | .o p, .h, e => by simp [toNat] at e
  | .i p, .h, e => by simp [toNat] at e
  | .o p, .o q, e => by rw [toNat_inj (p := p) (q := q) (by simp [toNat] at e; omega)]
  | .i p, .i q, e => by rw [toNat_inj (p := p) (q := q) (by simp [toNat] at e; omega)]
  | .o p, .i q, e => by simp [toNat] at e; omega
  | .i p, .o q, e => by simp [toNat] at e; omega
/-- the name of a number -/
noncomputable def ofF (f : Nat) : Nat → P :=
  Nat.rec (fun _ => .h) (fun _ ih m => Bool.rec (Bool.rec (.i (ih (Nat.sub (Nat.div m 2) 1))) (.o (ih (Nat.div m 2))) (Nat.beq (Nat.mod m 2) 1)) .h (Nat.beq m 0)) f
theorem ofF_zero (m : Nat) : ofF 0 m = .h := rfl
theorem ofF_succ (f m : Nat) : ofF (f + 1) m = if m = 0 then .h else if m % 2 = 1 then .o (ofF f (m / 2)) else .i (ofF f (m / 2 - 1)) := by
  show (Bool.rec (Bool.rec (P.i (ofF f (Nat.sub (Nat.div m 2) 1))) (P.o (ofF f (Nat.div m 2))) (Nat.beq (Nat.mod m 2) 1) : P) P.h (Nat.beq m 0) : P) = _
  by_cases h0 : m = 0
  · subst h0; rfl
  · have e0 : Nat.beq m 0 = false := by cases h : Nat.beq m 0 <;> simp_all
    rw [e0, if_neg h0]
    by_cases h1 : m % 2 = 1
    · have e1 : Nat.beq (Nat.mod m 2) 1 = true := by
        have : Nat.mod m 2 = 1 := h1
        rw [this]; rfl
      rw [e1, if_pos h1]; rfl
    · have e1 : Nat.beq (Nat.mod m 2) 1 = false := by
        have : Nat.mod m 2 = 0 := by show m % 2 = 0; omega
        rw [this]; rfl
      rw [e1, if_neg h1]; rfl
noncomputable def of (n : Nat) : P := ofF n n
theorem toNat_ofF : ∀ f m, m ≤ f → (ofF f m).toNat = m := by
  intro f
  induction f with
  | zero => intro m h; have : m = 0 := by omega
            subst this; rfl
  | succ f ih =>
    intro m h
    rw [ofF_succ]
    by_cases h0 : m = 0
    · rw [if_pos h0]; simp [toNat, h0]
    · rw [if_neg h0]
      by_cases h1 : m % 2 = 1
      · rw [if_pos h1]; simp only [toNat]; rw [ih _ (by omega)]; omega
      · rw [if_neg h1]; simp only [toNat]; rw [ih _ (by omega)]; omega
theorem toNat_of (n : Nat) : (of n).toNat = n := toNat_ofF n n (Nat.le_refl _)
theorem of_inj {m n : Nat} (h : of m = of n) : m = n := by rw [← toNat_of m, ← toNat_of n, h]
/-- the next name, handed on written out -/
noncomputable def nextK {R : Type} (p : P) : (P → R) → R :=
  P.rec (fun k => k (.o .h)) (fun p _ k => k (.i p)) (fun _ ih k => ih (fun q => k (.o q))) p
noncomputable def next (p : P) : P := P.rec (.o .h) (fun p _ => .i p) (fun _ ih => .o ih) p
theorem nextK_eq {R : Type} (p : P) (k : P → R) : nextK p k = k (next p) := by
  induction p generalizing k with
  | h => rfl
  | o p ih => rfl
  | i p ih => exact ih _
theorem toNat_next (p : P) : (next p).toNat = p.toNat + 1 := by
  induction p with
  | h => rfl
  | o p ih => show (P.i p).toNat = _; simp [toNat]
  | i p ih => show (P.o (next p)).toNat = _; simp only [toNat]; omega
/-- are two names one? -/
noncomputable def beq (p : P) : P → Bool :=
  P.rec (fun q => P.casesOn q true (fun _ => false) (fun _ => false)) (fun _ ih q => P.casesOn q false (fun q => ih q) (fun _ => false)) (fun _ ih q => P.casesOn q false (fun _ => false) (fun q => ih q)) p
theorem beq_iff (p q : P) : beq p q = true ↔ p = q := by
  induction p generalizing q with
  | h => cases q <;> simp [beq]
  | o p ih =>
    cases q with
    | h => simp [beq]
    | o q => exact (ih q).trans (by simp)
    | i q => simp [beq]
  | i p ih =>
    cases q with
    | h => simp [beq]
    | o q => simp [beq]
    | i q => exact (ih q).trans (by simp)
noncomputable instance : DecidableEq P := fun p q => if h : beq p q = true then isTrue ((beq_iff p q).1 h) else isFalse (fun e => h ((beq_iff p q).2 e))
end P

inductive PT (α : Type) where
  | e : PT α
  | n : PT α → Option α → PT α → PT α

namespace PT
variable {α : Type}
noncomputable def get (p : P) : PT α → Option α :=
  P.rec (fun t => PT.rec (motive := fun _ => Option α) none (fun _ v _ _ _ => v) t) (fun _ ih t => PT.rec (motive := fun _ => Option α) none (fun l _ _ _ _ => ih l) t) (fun _ ih t => PT.rec (motive := fun _ => Option α) none (fun _ _ r _ _ => ih r) t) p
noncomputable def put (p : P) : PT α → Option α → PT α :=
  P.rec (fun t a => PT.casesOn t (.n .e a .e) (fun l _ r => .n l a r))
    (fun _ ih t a => PT.casesOn t (.n (ih .e a) none .e) (fun l v r => .n (ih l a) v r))
    (fun _ ih t a => PT.casesOn t (.n .e none (ih .e a)) (fun l v r => .n l v (ih r a))) p
noncomputable def putK {R : Type} (p : P) : PT α → Option α → (PT α → R) → R :=
  P.rec (fun t a k => PT.rec (motive := fun _ => R) (k (.n .e a .e)) (fun l _ r _ _ => k (.n l a r)) t)
    (fun _ ih t a k => PT.rec (motive := fun _ => R) (ih .e a (fun t' => k (.n t' none .e))) (fun l v r _ _ => ih l a (fun t' => k (.n t' v r))) t)
    (fun _ ih t a k => PT.rec (motive := fun _ => R) (ih .e a (fun t' => k (.n .e none t'))) (fun l v r _ _ => ih r a (fun t' => k (.n l v t'))) t) p
theorem putK_eq {R : Type} (p : P) (t : PT α) (a : Option α) (k : PT α → R) : putK p t a k = k (put p t a) := by
  induction p generalizing t k with
  | h => cases t <;> rfl
  | o p ih => cases t with
    | e => exact ih _ _
    | n l v r => exact ih _ _
  | i p ih => cases t with
    | e => exact ih _ _
    | n l v r => exact ih _ _
theorem get_e (p : P) : get p (PT.e : PT α) = none := by cases p <;> rfl
theorem get_put_same (p : P) (t : PT α) (a : Option α) : get p (put p t a) = a := by
  induction p generalizing t with
  | h => cases t <;> rfl
  | o p ih => cases t with
    | e => exact ih _
    | n l v r => exact ih _
  | i p ih => cases t with
    | e => exact ih _
    | n l v r => exact ih _
theorem get_put_other {p q : P} (h : p ≠ q) (t : PT α) (a : Option α) : get q (put p t a) = get q t := by
  induction p generalizing t q with
  | h =>
    cases q with
    | h => exact absurd rfl h
    | o q => cases t with
      | e => exact get_e q
      | n l v r => rfl
    | i q => cases t with
      | e => exact get_e q
      | n l v r => rfl
  | o p ih =>
    cases q with
    | h => cases t <;> rfl
    | o q => cases t with
      | e => exact (ih (fun e => h (by rw [e])) _).trans (get_e q)
      | n l v r => exact ih (fun e => h (by rw [e])) _
    | i q => cases t with
      | e => exact get_e q
      | n l v r => rfl
  | i p ih =>
    cases q with
    | h => cases t <;> rfl
    | o q => cases t with
      | e => exact get_e q
      | n l v r => rfl
    | i q => cases t with
      | e => exact (ih (fun e => h (by rw [e])) _).trans (get_e q)
      | n l v r => exact ih (fun e => h (by rw [e])) _
end PT

/-! ### numbers -/
/-- what Go's operation of a kind gives -/
def opVal (op : BinOp) (k : IntKind) (a b : Int) : Int :=
  match op with
  | .add => k.wrap (a + b)
  | .sub => k.wrap (a - b)
  | .mul => k.wrap (a * b)
  | .quo => k.wrap (a.tdiv b)
  | .rem => a.tmod b
  | .and => k.wrap (BitVec.ofInt k.bits a &&& BitVec.ofInt k.bits b).toNat
  | .or => k.wrap (BitVec.ofInt k.bits a ||| BitVec.ofInt k.bits b).toNat
  | .xor => k.wrap (BitVec.ofInt k.bits a ^^^ BitVec.ofInt k.bits b).toNat
  | .andNot => k.wrap (BitVec.ofInt k.bits a &&& ~~~(BitVec.ofInt k.bits b)).toNat
  | .shl => k.wrap (a * 2 ^ (min b.toNat k.bits))
  | .shr => a.fdiv (2 ^ (min b.toNat k.bits))
  | _ => 0
inductive SI where
  | lit (n : Int)
  | var (i : Nat)
  | bin (op : BinOp) (k : IntKind) (a b : SI)
  | conv (k : IntKind) (a : SI)
def SI.ev (σ : Nat → Int) : SI → Int
  | .lit n => n
  | .var i => σ i
  | .bin op k a b => opVal op k (a.ev σ) (b.ev σ)
  | .conv k a => k.wrap (a.ev σ)

/-! ### values -/
inductive AFn where
  | func (f : FuncId)
  | yield (l : P)
inductive Cap where
  | ex (n : Nat)
  | op (d : Nat)
inductive AV where
  | bool (b : Bool)
  | int (k : IntKind) (n : SI)
  | str (l : List SI)
  | ptr0
  | ptr (l : P) (off : Nat)
  | glob (g off : Nat)
  | sl0
  | sl (l : P) (off len : Nat) (cap : Cap)
  | map0
  | map (l : P)
  | fn (f : AFn) (first captured : List AV)
  | fn0
  | if0
  | iface (t : TypeId) (v : AV)
  | agg (cs : List AV)
  | tup (cs : List AV)
  | iter (l : P)
  | chan0
  | chan (l : P)
  | top

/-- which block a name stands for, and how many elements the whole of it bears -/
structure Env where
  σ : Nat → Int
  ρ : P → Option (Nat × Nat)
def Env.le (E E' : Env) : Prop := E'.σ = E.σ ∧ ∀ l x, E.ρ l = some x → E'.ρ l = some x
theorem Env.le.refl (E : Env) : E.le E := ⟨rfl, fun _ _ h => h⟩
theorem Env.le.trans {A B C : Env} (h : A.le B) (k : B.le C) : A.le C := ⟨k.1.trans h.1, fun l x e => k.2 l x (h.2 l x e)⟩

inductive FnR (E : Env) : AFn → Fn → Prop
  | func (f : FuncId) : FnR E (.func f) (.func f)
  | yield {l : P} {b c : Nat} (h : E.ρ l = some (b, c)) : FnR E (.yield l) (.yield b)
def CapR : Cap → Nat → Nat → Prop
  | .ex m, n, _ => n = m
  | .op d, n, c => n + d = c

mutual
inductive VR (E : Env) : AV → Value → Prop
  | bool (b : Bool) : VR E (.bool b) (.bool b)
  | int (k : IntKind) (n : SI) : VR E (.int k n) (.int k (n.ev E.σ))
  | str {l : List SI} {s : ByteArray} (h : s.data.toList.map (fun b => (b.toNat : Int)) = l.map (SI.ev E.σ)) : VR E (.str l) (.string s)
  | ptr0 : VR E .ptr0 (.pointer none)
  | ptr {l : P} {off b c : Nat} (h : E.ρ l = some (b, c)) : VR E (.ptr l off) (.pointer (some ⟨b, off, none⟩))
  | glob (g off : Nat) : VR E (.glob g off) (.pointer (some ⟨g, off, none⟩))
  | sl0 : VR E .sl0 (.slice none 0 0)
  | sl {l : P} {off len : Nat} {cap : Cap} {a : Addr} {b c n : Nat} (h : E.ρ l = some (b, c)) (ha : 0 < n → a = ⟨b, off, none⟩) (hl : len ≤ n) (hc : CapR cap n c) : VR E (.sl l off len cap) (.slice (some a) len n)
  | map0 : VR E .map0 (.map none)
  | map {l : P} {b c : Nat} (h : E.ρ l = some (b, c)) : VR E (.map l) (.map (some b))
  | fn {f : AFn} {f' : Fn} {first captured : List AV} {first' captured' : List Value} (hf : FnR E f f') (h1 : VRs E first first') (h2 : VRs E captured captured') : VR E (.fn f first captured) (.func f' first'.toArray captured'.toArray)
  | fn0 : VR E .fn0 .nilFunc
  | if0 : VR E .if0 .nilIface
  | iface (t : TypeId) {v : AV} {x : Value} (h : VR E v x) : VR E (.iface t v) (.iface t x)
  | agg {cs : List AV} {vs : List Value} (h : VRs E cs vs) : VR E (.agg cs) (.agg vs.toArray)
  | tup {cs : List AV} {vs : List Value} (h : VRs E cs vs) : VR E (.tup cs) (.tuple vs.toArray)
  | iter {l : P} {b c : Nat} (h : E.ρ l = some (b, c)) : VR E (.iter l) (.pointer (some ⟨b, 0, none⟩))
  | chan0 : VR E .chan0 (.chan none)
  | chan {l : P} {b c : Nat} (h : E.ρ l = some (b, c)) : VR E (.chan l) (.chan (some b))
  | top (v : Value) : VR E .top v
inductive VRs (E : Env) : List AV → List Value → Prop
  | nil : VRs E [] []
  | cons {a : AV} {v : Value} {as : List AV} {vs : List Value} (h : VR E a v) (hs : VRs E as vs) : VRs E (a :: as) (v :: vs)
end

theorem FnR.mono {E E' : Env} (h : E.le E') {f : AFn} {g : Fn} (k : FnR E f g) : FnR E' f g := by
  cases k with
  | func f => exact .func f
  | yield e => exact .yield (h.2 _ _ e)
mutual
theorem VR.mono {E E' : Env} (h : E.le E') : ∀ {a : AV} {v : Value}, VR E a v → VR E' a v
  | _, _, .bool b => .bool b
  | _, _, .int k n => by rw [← h.1]; exact .int k n
  | _, _, .str e => .str (by rw [h.1]; exact e)
  | _, _, .ptr0 => .ptr0
  | _, _, .ptr e => .ptr (h.2 _ _ e)
  | _, _, .glob g o => .glob g o
  | _, _, .sl0 => .sl0
  | _, _, .sl e ha hl hc => .sl (h.2 _ _ e) ha hl hc
  | _, _, .map0 => .map0
  | _, _, .map e => .map (h.2 _ _ e)
  | _, _, .fn hf h1 h2 => .fn (hf.mono h) (VRs.mono h h1) (VRs.mono h h2)
  | _, _, .fn0 => .fn0
  | _, _, .if0 => .if0
  | _, _, .iface t e => .iface t (VR.mono h e)
  | _, _, .agg e => .agg (VRs.mono h e)
  | _, _, .tup e => .tup (VRs.mono h e)
  | _, _, .iter e => .iter (h.2 _ _ e)
  | _, _, .chan0 => .chan0
  | _, _, .chan e => .chan (h.2 _ _ e)
  | _, _, .top v => .top v
theorem VRs.mono {E E' : Env} (h : E.le E') : ∀ {as : List AV} {vs : List Value}, VRs E as vs → VRs E' as vs
  | _, _, .nil => .nil
  | _, _, .cons e es => .cons (VR.mono h e) (VRs.mono h es)
end
theorem VRs.length {E : Env} : ∀ {as : List AV} {vs : List Value}, VRs E as vs → as.length = vs.length
  | _, _, .nil => rfl
  | _, _, .cons _ es => by simp [VRs.length es]
theorem VRs.append {E : Env} : ∀ {as : List AV} {vs : List Value} {bs : List AV} {ws : List Value}, VRs E as vs → VRs E bs ws → VRs E (as ++ bs) (vs ++ ws)
  | _, _, _, _, .nil, k => k
  | _, _, _, _, .cons e es, k => .cons e (VRs.append es k)
theorem VRs.get {E : Env} : ∀ {as : List AV} {vs : List Value} (_ : VRs E as vs) (i : Nat) {a : AV}, as[i]? = some a → ∃ v, vs[i]? = some v ∧ VR E a v
  | _, _, .nil, i, a, h => by simp at h
  | _, _, .cons e es, 0, a, h => by simp at h; subst h; exact ⟨_, rfl, e⟩
  | _, _, .cons e es, i + 1, a, h => by simp at h; simpa using VRs.get es i h
theorem VRs.set {E : Env} : ∀ {as : List AV} {vs : List Value} (_ : VRs E as vs) (i : Nat) {a : AV} {v : Value}, VR E a v → VRs E (as.set i a) (vs.set i v)
  | _, _, .nil, i, a, v, h => .nil
  | _, _, .cons e es, 0, a, v, h => .cons h es
  | _, _, .cons e es, i + 1, a, v, h => .cons e (VRs.set es i h)
theorem VRs.take {E : Env} : ∀ {as : List AV} {vs : List Value} (_ : VRs E as vs) (i : Nat), VRs E (as.take i) (vs.take i)
  | _, _, .nil, i => by simp; exact .nil
  | _, _, .cons e es, 0 => by simp; exact .nil
  | _, _, .cons e es, i + 1 => by simp; exact .cons e (VRs.take es i)
theorem VRs.drop {E : Env} : ∀ {as : List AV} {vs : List Value} (_ : VRs E as vs) (i : Nat), VRs E (as.drop i) (vs.drop i)
  | _, _, .nil, i => by simp; exact .nil
  | _, _, .cons e es, 0 => .cons e es
  | _, _, .cons e es, i + 1 => by simp; exact VRs.drop es i
theorem VRs.replicate {E : Env} {a : AV} {v : Value} (h : VR E a v) : ∀ n, VRs E (List.replicate n a) (List.replicate n v)
  | 0 => .nil
  | n + 1 => .cons h (VRs.replicate h n)

end Go.Ai
