/- Compiled regions: expressions as trees; what they come to is what the row of the text comes to. -/
import Derived.Test.YtfedjkcigdgcoaaGreatDoorAiY
namespace Go.Ai
open Go Go.RowKit
set_option linter.unusedVariables false

/-! ### the trees -/
inductive K1 where
  | mv
  | len (t : TypeId)
  | load (t : TypeId)
  | fa (s : TypeId) (f : Nat)
  | fld (t : TypeId) (f : Nat)
  | ext (i : Nat)
  | nil
  | un (op : UnOp)
  | conv (s d : TypeId)
  | iface (t : TypeId)
  | asrt (xt t : TypeId) (ok : Bool)
  | sl0 (t : TypeId)
inductive K2 where
  | bin (op : BinOp) (t : TypeId) (lit : Bool)
  | ia (t : TypeId)
  | ix (t : TypeId)
  | look (t : TypeId) (ok : Bool)
  | min
  | slLo (t : TypeId)
  | slHi (t : TypeId)
inductive CE where
  | tmp (p : P)
  | lit (v : AV)
  | n1 (k : K1) (e : CE)
  | n2 (k : K2) (a b : CE)
  | sl (t : TypeId) (x a b : CE)
  | pick (want : Bool) (c a : CE) (l : AV)

/-! ### what they come to -/
section
variable (G : Program) (cf : Cf)
def nilSameB (op : BinOp) (t : TypeId) (lit : Bool) : Option Bool := match G.underlying t, lit, op with
  | some (.interface _), true, .eql => some true
  | some (.interface _), true, .neq => some false
  | _, _, _ => none
noncomputable def binB {R : Type} (op : BinOp) (t : TypeId) (lit : Bool) (x y : AV) (K : Option AV → R) : R := match x with
  | .if0 => match y with
    | .if0 => match nilSameB G op t lit with
      | some r => K (some (.bool r))
      | none => K none
    | _ => binOpK cf G op t x y K
  | _ => binOpK cf G op t x y K
theorem binB_eq {R : Type} (op : BinOp) (t : TypeId) (xo yo : Operand) (x y : AV) (K : Option AV → R) : binB G cf op t (litOp xo yo) x y K = binOpN cf G op t xo yo x y K := rfl
theorem binB_nat {R : Type} (op : BinOp) (t : TypeId) (lit : Bool) (x y : AV) (K : Option AV → R) : binB G cf op t lit x y K = K (binB G cf op t lit x y id) := by
  unfold binB
  repeat' split
  all_goals first
    | rfl
    | exact binOpK_nat _ _ _ _ _ _ _
section
variable {R : Type} (bad : R) (K : AV → R) (tab : PT AObj)
noncomputable def okK (r : Option AV) : R := Option.rec bad K r
noncomputable def ev1K (k : K1) (a : AV) : R :=
  K1.rec (motive := fun _ => R) (K a) (fun t => okK bad K (lenO G tab t a)) (fun t => okK bad K (loadG cf G tab t a)) (fun s f => okK bad K (fieldAddrO G s a f)) (fun t f => okK bad K (fieldO G t a f)) (fun i => okK bad K (extractO a i)) (okK bad K (nilChkO a))
    (fun op => unK cf op a (okK bad K)) (fun s d => convIK G cf tab s d a (okK bad K)) (fun t => okK bad K (mkIfaceO G t a)) (fun xt t ok => okK bad K (assertO G a xt t ok)) (fun t => okK bad K (sliceO G t a none none)) k
noncomputable def ev2K (k : K2) (a b : AV) : R :=
  K2.rec (motive := fun _ => R) (fun op t lit => binB G cf op t lit a b (okK bad K)) (fun t => okK bad K (indexAddrO G t a b)) (fun t => okK bad K (indexO G t a b)) (fun t ok => okK bad K (lookO cf G tab t a b ok)) (okK bad K (minO [a, b]))
    (fun t => okK bad K (sliceO G t a (some b) none)) (fun t => okK bad K (sliceO G t a none (some b))) k
noncomputable def pickK (want : Bool) (l : AV) (a : (AV → R) → R) (c : AV) : R := match c with
  | .bool r => Bool.rec (Bool.rec (a K) (K l) want) (Bool.rec (K l) (a K) want) r
  | _ => bad
end
noncomputable def cevK {R : Type} (bad : R) (tab : PT AObj) (tm : PT AV) (e : CE) : (AV → R) → R :=
  CE.rec (motive := fun _ => (AV → R) → R) (fun p K => okK bad K (PT.get p tm)) (fun v K => K v) (fun k _ ih K => ih (fun a => ev1K G cf bad K tab k a))
    (fun k _ _ iha ihb K => iha (fun a => ihb (fun b => ev2K G cf bad K tab k a b)))
    (fun t _ _ _ ihx iha ihb K => ihx (fun x => iha (fun a => ihb (fun b => okK bad K (sliceO G t x (some a) (some b))))))
    (fun want _ _ l ihc iha K => ihc (fun c => pickK bad K want l iha c)) e
noncomputable def ev1 (tab : PT AObj) (k : K1) (a : AV) : Option AV := ev1K G cf none some tab k a
noncomputable def ev2 (tab : PT AObj) (k : K2) (a b : AV) : Option AV := ev2K G cf none some tab k a b
noncomputable def cev (tab : PT AObj) (tm : PT AV) (e : CE) : Option AV := cevK G cf none tab tm e some
theorem okK_some (r : Option AV) : okK none some r = r := by cases r <;> rfl
theorem okK_id {R : Type} (bad : R) (K : AV → R) (r : Option AV) : okK bad K (okK none some r) = okK bad K r := by rw [okK_some]
theorem ev1K_eq {R : Type} (bad : R) (K : AV → R) (tab : PT AObj) (k : K1) (a : AV) : ev1K G cf bad K tab k a = okK bad K (ev1 G cf tab k a) := by
  cases k with
  | mv => rfl
  | un op => show unK cf op a (okK bad K) = okK bad K (unK cf op a (okK none some)); rw [unK_nat, unK_nat (K := okK none some), okK_id]
  | conv s d => show convIK G cf tab s d a (okK bad K) = okK bad K (convIK G cf tab s d a (okK none some)); rw [convIK_nat, convIK_nat (K := okK none some), okK_id]
  | _ => exact (okK_id bad K _).symm
theorem ev2K_eq {R : Type} (bad : R) (K : AV → R) (tab : PT AObj) (k : K2) (a b : AV) : ev2K G cf bad K tab k a b = okK bad K (ev2 G cf tab k a b) := by
  cases k with
  | bin op t lit => show binB G cf op t lit a b (okK bad K) = okK bad K (binB G cf op t lit a b (okK none some)); rw [binB_nat, binB_nat (K := okK none some), okK_id]
  | _ => exact (okK_id bad K _).symm
theorem cevK_eq (tab : PT AObj) (tm : PT AV) : ∀ (e : CE) {R : Type} (bad : R) (K : AV → R), cevK G cf bad tab tm e K = okK bad K (cev G cf tab tm e) := by
  intro e
  induction e with
  | tmp p => intro R bad K; exact (okK_id bad K _).symm
  | lit v => intro R bad K; rfl
  | n1 k e ih =>
    intro R bad K
    show cevK G cf bad tab tm e (fun a => ev1K G cf bad K tab k a) = okK bad K (cevK G cf none tab tm e (fun a => ev1K G cf none some tab k a))
    rw [ih, ih]
    cases cev G cf tab tm e with
    | none => rfl
    | some a => exact ev1K_eq G cf bad K tab k a
  | n2 k a b iha ihb =>
    intro R bad K
    show cevK G cf bad tab tm a (fun a => cevK G cf bad tab tm b (fun b => ev2K G cf bad K tab k a b)) = okK bad K (cevK G cf none tab tm a (fun a => cevK G cf none tab tm b (fun b => ev2K G cf none some tab k a b)))
    rw [iha, iha]
    cases cev G cf tab tm a with
    | none => rfl
    | some x =>
      show cevK G cf bad tab tm b (fun b => ev2K G cf bad K tab k x b) = okK bad K (cevK G cf none tab tm b (fun b => ev2K G cf none some tab k x b))
      rw [ihb, ihb]
      cases cev G cf tab tm b with
      | none => rfl
      | some y => exact ev2K_eq G cf bad K tab k x y
  | sl t x a b ihx iha ihb =>
    intro R bad K
    show cevK G cf bad tab tm x (fun x => cevK G cf bad tab tm a (fun a => cevK G cf bad tab tm b (fun b => okK bad K (sliceO G t x (some a) (some b))))) = okK bad K (cevK G cf none tab tm x (fun x => cevK G cf none tab tm a (fun a => cevK G cf none tab tm b (fun b => okK none some (sliceO G t x (some a) (some b))))))
    rw [ihx, ihx]
    cases cev G cf tab tm x with
    | none => rfl
    | some x =>
      show cevK G cf bad tab tm a (fun a => cevK G cf bad tab tm b (fun b => okK bad K (sliceO G t x (some a) (some b)))) = okK bad K (cevK G cf none tab tm a (fun a => cevK G cf none tab tm b (fun b => okK none some (sliceO G t x (some a) (some b)))))
      rw [iha, iha]
      cases cev G cf tab tm a with
      | none => rfl
      | some y =>
        show cevK G cf bad tab tm b (fun b => okK bad K (sliceO G t x (some y) (some b))) = okK bad K (cevK G cf none tab tm b (fun b => okK none some (sliceO G t x (some y) (some b))))
        rw [ihb, ihb]
        cases cev G cf tab tm b with
        | none => rfl
        | some z => exact (okK_id bad K _).symm
  | pick want c a l ihc iha =>
    intro R bad K
    show cevK G cf bad tab tm c (fun c => pickK bad K want l (cevK G cf bad tab tm a) c) = okK bad K (cevK G cf none tab tm c (fun c => pickK none some want l (cevK G cf none tab tm a) c))
    rw [ihc, ihc]
    cases cev G cf tab tm c with
    | none => rfl
    | some x =>
      show pickK bad K want l (cevK G cf bad tab tm a) x = okK bad K (pickK none some want l (cevK G cf none tab tm a) x)
      unfold pickK
      split
      · rename_i r
        cases r <;> cases want
        · exact iha bad K
        · rfl
        · rfl
        · exact iha bad K
      · rfl
end

/-! ### which operations a tree stands for -/
structure Kp where
  n : Nat
  m : Nat
  l : List Nat
def Kp.has (V : Kp) (t : Nat) : Bool := Nat.ble (Nat.succ t) V.m || V.l.any (Nat.beq t)
inductive Root where
  | tmp (t : Nat)
  | lit (v : AV)
noncomputable def Root.is (r : Root) (x : Operand) : Bool := match r, x with
  | .tmp t, .tmp u => Nat.beq t u
  | .tmp _, _ => false
  | .lit v, x => match evO .e x with | some u => AV.same u v | none => false
def ubeq (a b : UnOp) : Bool := match a, b with
  | .not, .not => true
  | .neg, .neg => true
  | .xor, .xor => true
  | _, _ => false
def bbeq (a b : Bool) : Bool := match a with | true => b | false => !b
theorem bbeq_eq {a b : Bool} (h : bbeq a b = true) : a = b := by cases a <;> cases b <;> simp_all [bbeq]
theorem ubeq_eq {a b : UnOp} (h : ubeq a b = true) : a = b := by cases a <;> cases b <;> simp_all [ubeq]
noncomputable def chk1 (k : K1) (r : Root) (op : Op) : Bool := match k, op with
  | .mv, .move x => r.is x
  | .mv, .assign x => r.is x
  | .len t, .call c => match c.callee, c.argTypes.toList, c.args.toList with
    | .builtin .len, [u], [x] => Nat.beq t u && r.is x
    | _, _, _ => false
  | .load t, .load u x => Nat.beq t u && r.is x
  | .fa s f, .fieldAddr s' x f' => Nat.beq s s' && Nat.beq f f' && r.is x
  | .fld s f, .field s' x f' => Nat.beq s s' && Nat.beq f f' && r.is x
  | .ext i, .extract x j => Nat.beq i j && r.is x
  | .nil, .nilCheck x => r.is x
  | .un op, .unOp op' _ x => ubeq op op' && r.is x
  | .conv s d, .convert s' d' x => Nat.beq s s' && Nat.beq d d' && r.is x
  | .iface t, .makeInterface t' x => Nat.beq t t' && r.is x
  | .asrt xt t ok, .typeAssert x xt' t' ok' => Nat.beq xt xt' && Nat.beq t t' && bbeq ok ok' && r.is x
  | .sl0 t, .slice t' x none none none => Nat.beq t t' && r.is x
  | _, _ => false
noncomputable def chk2 (k : K2) (r q : Root) (op : Op) : Bool := match k, op with
  | .bin op t lit, .binOp op' t' x y _ => obeq op op' && Nat.beq t t' && bbeq lit (litOp x y) && r.is x && q.is y
  | .ia t, .indexAddr t' x y => Nat.beq t t' && r.is x && q.is y
  | .ix t, .index t' x y => Nat.beq t t' && r.is x && q.is y
  | .look t ok, .lookup t' x y ok' => Nat.beq t t' && bbeq ok ok' && r.is x && q.is y
  | .min, .call c => match c.callee, c.args.toList with
    | .builtin .min, [x, y] => r.is x && q.is y
    | _, _ => false
  | .slLo t, .slice t' x (some y) none none => Nat.beq t t' && r.is x && q.is y
  | .slHi t, .slice t' x none (some y) none => Nat.beq t t' && r.is x && q.is y
  | _, _ => false
noncomputable def chk3 (t : TypeId) (r q s : Root) (op : Op) : Bool := match op with
  | .slice t' x (some y) (some z) none => Nat.beq t t' && r.is x && q.is y && s.is z
  | _ => false
noncomputable def chkP (want : Bool) (l : AV) (r q : Root) (op : Op) : Bool := match op with
  | .pick c x y => r.is c && (match want with | true => q.is x && (Root.lit l).is y | false => (Root.lit l).is x && q.is y)
  | _ => false
abbrev Gd := Option (Nat × Bool)
def gbeq (a b : Gd) : Bool := match a, b with
  | none, none => true
  | some (i, x), some (j, y) => Nat.beq i j && bbeq x y
  | _, _ => false
theorem gbeq_eq {a b : Gd} (h : gbeq a b = true) : a = b := by
  unfold gbeq at h
  split at h
  · rfl
  · simp only [Bool.and_eq_true] at h; rw [Nat.eq_of_beq_eq_true h.1, bbeq_eq h.2]
  · cases h
/-- one operation whose result may be looked at (top: it is kept) -/
def one (V : Kp) (top : Bool) (g : Gd) (ok : Op → Bool) (i : Nat) (l : List Oper) : Option (Root × Nat × List Oper) := match l with
  | o :: rest => match o.dst with
    | some t => match gbeq o.guard g && ok o.op && Nat.ble (Nat.succ t) V.n && bbeq top (V.has t) with
      | true => some (.tmp t, Nat.succ i, rest)
      | false => none
    | none => none
  | [] => none
noncomputable def mat (V : Kp) : CE → Bool → Gd → Nat → List Oper → Option (Root × Nat × List Oper)
  | .tmp p, top, g, i, l => match V.has p.toNat, top with
    | true, false => some (.tmp p.toNat, i, l)
    | _, _ => none
  | .lit v, top, g, i, l => match top with
    | false => some (.lit v, i, l)
    | true => none
  | .n1 k e, top, g, i, l => match mat V e false g i l with
    | some (r, i, l) => one V top g (chk1 k r) i l
    | none => none
  | .n2 k a b, top, g, i, l => match mat V a false g i l with
    | some (r, i, l) => match mat V b false g i l with
      | some (q, i, l) => one V top g (chk2 k r q) i l
      | none => none
    | none => none
  | .sl t x a b, top, g, i, l => match mat V x false g i l with
    | some (r, i, l) => match mat V a false g i l with
      | some (q, i, l) => match mat V b false g i l with
        | some (s, i, l) => one V top g (chk3 t r q s) i l
        | none => none
      | none => none
    | none => none
  | .pick want c a lv, top, g, i, l => match mat V c false g i l with
    | some (r, i', l') => match Nat.ble (Nat.succ i) i' with
      | true => match mat V a false (some (Nat.pred i', want)) i' l' with
        | some (q, i, l) => one V top g (chkP want lv r q) i l
        | none => none
      | false => none
    | none => none
end Go.Ai
