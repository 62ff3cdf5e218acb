/- The abstract machine: regions, code, frames, calls. -/
import Derived.Test.YtfedjkcigdgcoaaGreatDoorAiMz
namespace Go.Ai
open Go Go.RowKit
set_option linter.unusedVariables false

/-! ### equality of values, for regions whose order is open -/
def capBeq : Cap → Cap → Bool
  | .ex a, .ex b => Nat.beq a b
  | .op a, .op b => Nat.beq a b
  | _, _ => false
noncomputable def AFn.beq : AFn → AFn → Bool
  | .func f, .func g => Nat.beq f g
  | .yield a, .yield b => P.beq a b
  | _, _ => false
noncomputable def listBeq {α : Type} (f : α → α → Bool) (a : List α) : List α → Bool :=
  List.rec (fun b => List.casesOn b true (fun _ _ => false)) (fun x _ ih b => List.casesOn b false (fun y t => Bool.rec false (ih t) (f x y))) a
/-- of a depth: values that hold others -/
noncomputable def AV.beqN (n : Nat) : AV → AV → Bool :=
  Nat.rec (fun _ _ => false) (fun _ ih x y => match x, y with
    | .bool a, .bool b => Bool.rec (Bool.rec true false b) b a
    | .int k a, .int k' b => kbeq k k' && SI.beq a b
    | .str a, .str b => listBeq SI.beq a b
    | .ptr0, .ptr0 => true
    | .ptr l o, .ptr l' o' => P.beq l l' && Nat.beq o o'
    | .glob g o, .glob g' o' => Nat.beq g g' && Nat.beq o o'
    | .sl0, .sl0 => true
    | .sl l o n c, .sl l' o' n' c' => P.beq l l' && Nat.beq o o' && Nat.beq n n' && capBeq c c'
    | .map0, .map0 => true
    | .map l, .map l' => P.beq l l'
    | .fn f a b, .fn f' a' b' => AFn.beq f f' && listBeq ih a a' && listBeq ih b b'
    | .fn0, .fn0 => true
    | .if0, .if0 => true
    | .iface t v, .iface t' v' => Nat.beq t t' && ih v v'
    | .agg a, .agg b => listBeq ih a b
    | .tup a, .tup b => listBeq ih a b
    | .iter l, .iter l' => P.beq l l'
    | .chan0, .chan0 => true
    | .chan l, .chan l' => P.beq l l'
    | _, _ => false) n
noncomputable def AV.same (x y : AV) : Bool := AV.beqN 8 x y

/-! ### regions -/
/-- is an operation to be done? -/
noncomputable def wantO (ops : List Oper) (o : Oper) (tm : PT AV) : Option Bool := match o.guard with
  | none => some true
  | some (j, want) => match nthL ops j with
    | some oj => match oj.dst with
      | some t => match PT.get (P.of t) tm with
        | some (.bool b) => some (Bool.rec (Bool.rec true false want) want b)
        | some (.tup _) => some false
        | _ => none
      | none => some false
    | none => some false
noncomputable def wantG (ops : List Oper) (tm : PT AV) (p : Nat × Bool) : Option Bool := match nthL ops p.1 with
  | some oj => match oj.dst with
    | some t => match PT.get (P.of t) tm with
      | some (.bool b) => some (Bool.rec (Bool.rec true false p.2) p.2 b)
      | some (.tup _) => some false
      | _ => none
    | none => some false
  | none => some false
noncomputable def wantF (ops : List Oper) (o : Oper) (tm : PT AV) : Option Bool := Option.rec (some true) (wantG ops tm) o.guard
theorem wantF_eq (ops : List Oper) (o : Oper) (tm : PT AV) : wantF ops o tm = wantO ops o tm := by
  unfold wantF wantO
  cases o.guard with
  | none => rfl
  | some p => rfl
/-- a temporary is written -/
noncomputable def putT {R : Type} (n : Nat) (d : Option Nat) (tm : PT AV) (v : AV) (K : Option (PT AV) → R) : R := match d with
  | none => K (some tm)
  | some t => match Nat.ble (Nat.succ t) n with
    | true => PT.putK (P.of t) tm (some v) (fun tm => K (some tm))
    | false => K none
/-- what a frame has still to call when it is left -/
inductive AD where
  | call (f : FuncId) (args cap : List AV)
  | mark (l : P)
/-- may a panic be caught here? -/
inductive RC where
  | no
  | avail (v : AV)
  | used
  | bar
inductive KR where
  | ret (v : AV) (H : Hp)
  | pan (v : AV) (H : Hp)
  | err (n : Nat)
inductive Ex where
  | normal
  | exit (id : Nat)
  | ret
  | pan (v : AV)
inductive CR where
  | ok (ex : Ex) (tm : PT AV) (ds : List AD) (H : Hp) (rc : RC)
  | err (n : Nat)
abbrev CallF := FuncId → List AV → Hp → KR
abbrev RndF := P → List AV → Hp → KR

/-- a region in the row of its text -/
abbrev IH := PT AV → List AD → Hp → RC → CR
noncomputable def putC (n : Nat) (d : Option Nat) (tm : PT AV) (v : AV) (F : PT AV → CR) : CR := Option.rec (F tm) (fun t => Bool.rec (.err 61) (PT.putK (P.of t) tm (some v) F) (Nat.ble (Nat.succ t) n)) d
noncomputable def sRd (n : Nat) (d : Option Nat) (ih : IH) (tm : PT AV) (ds : List AD) (H : Hp) (rc : RC) (v : AV) : CR := putC n d tm v (fun tm => ih tm ds H rc)
noncomputable def sAl (n : Nat) (d : Option Nat) (ih : IH) (tm : PT AV) (ds : List AD) (H : Hp) (rc : RC) (ob : AObj) (mk : P → AV) : CR :=
  P.nextK H.nx (fun nx' => PT.putK H.nx H.tab (some ob) (fun t' => putC n d tm (mk H.nx) (fun tm => ih tm ds ⟨nx', t'⟩ rc)))
noncomputable def sWv (n : Nat) (d : Option Nat) (ih : IH) (tm : PT AV) (ds : List AD) (rc : RC) (v : AV) (H : Hp) : CR := sRd n d ih tm ds H rc v
noncomputable def sWu (n : Nat) (d : Option Nat) (ih : IH) (tm : PT AV) (ds : List AD) (rc : RC) (H : Hp) : CR := sRd n d ih tm ds H rc (.tup [])
noncomputable def sEnd (n : Nat) (d : Option Nat) (ih : IH) (tm : PT AV) (ds : List AD) (rc : RC) : KR → CR
  | .ret v H => sRd n d ih tm ds H rc v
  | .pan v H => .ok (.pan v) tm ds H rc
  | .err k => .err k
noncomputable def sDefer (n : Nat) (d : Option Nat) (ih : IH) (tm : PT AV) (ds : List AD) (H : Hp) (rc : RC) (f : FuncId) (args cap : List AV) : CR := match rc with
  | .bar => .err 63
  | rc => sRd n d ih tm (.call f args cap :: ds) H rc (.tup [])
noncomputable def sRecover (n : Nat) (d : Option Nat) (ih : IH) (tm : PT AV) (ds : List AD) (H : Hp) : RC → CR
  | .bar => .err 63
  | .avail v => sRd n d ih tm ds H .used v
  | rc => sRd n d ih tm ds H rc .if0
noncomputable def regDo (G : Program) (cf : Cf) (call : CallF) (rnd : RndF) (n : Nat) (o : Oper) (d : Option Nat) (ih : IH) (tm : PT AV) (ds : List AD) (H : Hp) (rc : RC) : CR :=
  K3.rec (motive := fun _ => CR) (sRd n d ih tm ds H rc) (sAl n d ih tm ds H rc) (sWv n d ih tm ds rc) (sWu n d ih tm ds rc) (fun f args => sEnd n d ih tm ds rc (call f args H)) (fun l args => sEnd n d ih tm ds rc (rnd l args H)) (sDefer n d ih tm ds H rc) (sRecover n d ih tm ds H rc)
    (fun v => .ok (.pan v) tm ds H rc) (sRd n d ih tm ds H rc) CR.err (opF G cf (evO tm) H o)
noncomputable def regS (G : Program) (cf : Cf) (call : CallF) (rnd : RndF) (n : Nat) (ops : List Oper) (o : Oper) (ih : IH) (tm : PT AV) (ds : List AD) (H : Hp) (rc : RC) : CR :=
  Option.rec (.err 60) (fun b => Bool.rec (sRd n o.dst ih tm ds H rc (.tup [])) (regDo G cf call rnd n o o.dst ih tm ds H rc) b) (wantF ops o tm)
noncomputable def regK (G : Program) (cf : Cf) (call : CallF) (rnd : RndF) (n : Nat) (ops rest : List Oper) : PT AV → List AD → Hp → RC → CR :=
  List.rec (fun tm ds H rc => .ok .normal tm ds H rc) (fun o _ ih => regS G cf call rnd n ops o ih) rest
theorem putC_eq (n : Nat) (d : Option Nat) (tm : PT AV) (v : AV) (F : PT AV → CR) : putC n d tm v F = putT n d tm v (fun r => match r with | some tm => F tm | none => .err 61) := by
  unfold putC putT
  cases d with
  | none => rfl
  | some t =>
    simp only
    cases Nat.ble (Nat.succ t) n <;> rfl

/-! ### regions whose order is open -/
/-- of each operation: those that must be done ahead of it, as bits -/
noncomputable def edgesM (acc : List Nat) (es : List Edge) : Nat := List.rec 0 (fun e _ ih => match e.ground with
  | .textOnly _ => ih
  | .gcOnly _ => ih
  | _ => Nat.lor (Nat.lor (Nat.pow 2 e.on) (match nthL acc e.on with | some m => m | none => 0)) ih) es
noncomputable def ancs (ops : List Oper) : List Nat → List Nat := List.rec (fun acc => acc) (fun o _ ih acc => ih (acc ++ [edgesM acc o.after.toList])) ops
def opTmps : List Operand → List Nat
  | [] => []
  | .tmp t :: l => t :: opTmps l
  | _ :: l => opTmps l
/-- the temporaries that an operation looks at -/
def looks (ops : List Oper) (o : Oper) : List Nat := (match o.guard with
  | some (j, _) => (match ops[j]? with | some oj => oj.dst.toList | none => [])
  | none => []) ++ opTmps o.op.operands.toList
/-- each edge that binds goes back -/
def plainEdges (i : Nat) (o : Oper) : Bool := o.after.toList.all fun e => match e.ground with | .textOnly _ => true | .gcOnly _ => true | _ => Nat.ble (Nat.succ e.on) i
def bit (m i : Nat) : Bool := Nat.beq (Nat.land (Nat.shiftRight m i) 1) 1
theorem bit_def (m i : Nat) : bit m i = Nat.testBit m i := by
  have h : Nat.land (Nat.shiftRight m i) 1 = (m >>> i) % 2 := Nat.and_one_is_mod _
  have h2 : (m >>> i) % 2 < 2 := Nat.mod_lt _ (by omega)
  rw [bit, h, beqN, Nat.testBit, show 1 &&& (m >>> i) = (m >>> i) % 2 by rw [Nat.and_comm]; exact Nat.and_one_is_mod _]
  generalize (m >>> i) % 2 = q at h2
  match q, h2 with
  | 0, _ => rfl
  | 1, _ => rfl
noncomputable def gD (as : List Nat) (i : Nat) : Nat := Option.rec 0 (fun x => x) (nthL as i)
theorem gD_eq (as : List Nat) (i : Nat) : gD as i = as.getD i 0 := by
  unfold gD
  rw [nthL_eq, List.getD_eq_getElem?_getD]
  cases as[i]? <;> rfl
/-- no two write one temporary; who looks at what another writes stands in an order with it -/
noncomputable def pairOk (ops : List Oper) (as : List Nat) (i j : Nat) (oi oj : Oper) : Bool :=
  (match oi.dst with
  | none => true
  | some t => (match oj.dst with | some u => !(Nat.beq t u) | none => true) && (!((looks ops oj).any (Nat.beq t)) || bit (gD as (max i j)) (min i j)))
noncomputable def regStatic (ops : List Oper) (as : List Nat) : Bool :=
  ops.zipIdx.all fun (oi, i) => plainEdges i oi && ops.zipIdx.all fun (oj, j) => Nat.beq i j || pairOk ops as i j oi oj
/-- the operands that are temporaries; those alone are looked up -/
noncomputable def memN (t : Nat) (l : List Nat) : Bool := List.rec false (fun a _ ih => match Nat.beq a t with | true => true | false => ih) l
noncomputable def evL (tm : PT AV) (ts : List Nat) : Operand → Option AV
  | .tmp t => match memN t ts with
    | true => PT.get (P.of t) tm
    | false => none
  | x => evO tm x
noncomputable def evR (tm : PT AV) (o : Oper) : Operand → Option AV := evL tm (opTmps o.op.operands.toList)
def isAl : Op → Bool
  | .alloc _ | .box .. | .buildSlice .. | .makeSlice .. | .makeMap _ none => true
  | _ => false
/-- of each operation: what it came to -/
inductive TE where
  | skip
  | rd (tm : PT AV) (v : AV)
  | al (l : P) (ob : AObj) (v : AV)
  | wr (v : AV)
def TE.val : TE → AV
  | .skip => .tup []
  | .rd _ v | .al _ _ v | .wr v => v
/-- made ahead, and not yet laid in by a writer: laid in now, if it must -/
noncomputable def anyBit (as : List Nat) (i : Nat) (done : List Nat) : Bool := List.rec false (fun w _ ih => match bit (gD as w) i with | true => true | false => ih) done
noncomputable def layT {R : Type} (as : List Nat) (m : Nat) (done : List Nat) (xs : List (Nat × P × AObj)) : PT AObj → (PT AObj → R) → R :=
  List.rec (fun t k => k t) (fun x _ ih t k => match bit m x.1, anyBit as x.1 done with
    | true, false => PT.putK x.2.1 t (some x.2.2) (fun t => ih t k)
    | _, _ => ih t k) xs
noncomputable def layAll {R : Type} (as : List Nat) (done : List Nat) (xs : List (Nat × P × AObj)) : PT AObj → (PT AObj → R) → R :=
  List.rec (fun t k => k t) (fun x _ ih t k => match anyBit as x.1 done with
    | false => PT.putK x.2.1 t (some x.2.2) (fun t => ih t k)
    | _ => ih t k) xs
noncomputable def eraseD {R : Type} (ops : List Oper) : PT AV → (PT AV → R) → R :=
  List.rec (fun t k => k t) (fun o _ ih t k => match o.dst with | some d => PT.putK (P.of d) t none (fun t => ih t k) | none => ih t k) ops
noncomputable def allBehind (as : List Nat) (i : Nat) (rest : List Oper) (j : Nat) : Bool := List.rec (fun _ => true) (fun _ _ ih j => match bit (gD as j) i with | true => ih (Nat.succ j) | false => false) rest j
/-- is the last writer one that must come ahead? -/
def chained (m : Nat) (wl : List Nat) : Bool := match wl with | [] => true | x :: _ => bit m x
noncomputable def resvK {R : Type} (ops : List Oper) : P → (List P → P → R) → R := List.rec (fun p k => k [] p) (fun _ _ ih p k => P.nextK p (fun q => ih q (fun l r => k (p :: l) r))) ops
structure TrS where
  rl : List TE
  hs : List Hp
  wl : List Nat
  xs : List (Nat × P × AObj)
/-- the row of the text -/
noncomputable def traceK {R : Type} (G : Program) (cf : Cf) (call : CallF) (n : Nat) (ops : List Oper) (as : List Nat) (K : TrS → PT AV → Hp → Option AV → R) (bad : Nat → R) (rest : List Oper) :
    Nat → List P → PT AV → Hp → TrS → R :=
  List.rec (fun _ _ tm H s => K s tm H none) (fun o rest ih i names tm H s =>
    let go := fun (v : AV) (H : Hp) (s : TrS) => putT n o.dst tm v (fun r => match r with | some tm => ih (Nat.succ i) names.tail tm H s | none => bad 61)
    match wantF ops o tm with
    | none => bad 60
    | some false => go (.tup []) H { s with rl := .skip :: s.rl }
    | some true => layT as (gD as i) s.wl s.xs H.tab (fun t =>
      let wrote := fun (v : AV) (H' : Hp) => match chained (gD as i) s.wl with
        | true => go v H' { s with rl := .wr v :: s.rl, hs := H' :: s.hs, wl := i :: s.wl }
        | false => bad 70
      match opF G cf (evR tm o) ⟨H.nx, t⟩ o with
      | .rd v => go v H { s with rl := .rd tm v :: s.rl }
      | .al ob mk => match isAl o.op, names with
        | true, l :: _ => go (mk l) H { s with rl := .al l ob (mk l) :: s.rl, xs := (i, l, ob) :: s.xs }
        | _, _ => bad 71
      | .wv v H' => wrote v H'
      | .wu H' => wrote (.tup []) H'
      | .call f args => match call f args ⟨H.nx, t⟩ with
        | .ret v H' => wrote v H'
        | .pan v H' => match chained (gD as i) s.wl, allBehind as i rest (Nat.succ i) with
          | true, true => K s tm H' (some v)
          | _, _ => bad 73
        | .err k => bad k
      | .err k => bad k
      | _ => bad 75)) rest
/-- the heaps that one may meet: those that wrote till then; who writes next -/
structure Sn where
  H : Hp
  done : List Nat
  next : Option Nat
noncomputable def snaps (wl : List Nat) : List Hp → Option Nat → List Sn :=
  List.rec (fun hs nxt => match hs with | H :: _ => [⟨H, [], nxt⟩] | [] => []) (fun w wl ih hs nxt => match hs with | H :: hs => ⟨H, w :: wl, nxt⟩ :: ih hs (some w) | [] => []) wl
noncomputable def rereads (G : Program) (cf : Cf) (as : List Nat) (xs : List (Nat × P × AObj)) (i : Nat) (o : Oper) (tm : PT AV) (v : AV) (s : Sn) : Bool :=
  match (match s.next with | some q => bit (gD as i) q | none => false), anyBit as i s.done with
  | false, false => layT as (gD as i) s.done xs s.H.tab (fun t => match opF G cf (evR tm o) ⟨s.H.nx, t⟩ o with
    | .rd u => AV.same u v
    | _ => false)
  | _, _ => true
/-- it looks at no memory -/
def hfree : Op → Bool
  | .move _ | .assign _ | .pick .. | .extract .. | .fieldAddr .. | .field .. | .indexAddr .. | .index .. | .nilCheck _ | .binOp .. | .unOp .. | .build .. | .makeInterface .. | .makeFunc .. | .typeAssert .. | .slice .. => true
  | _ => false
/-- 0: no memory; 1: memory is read; 2: it is written; 3: not taken -/
def kindO (op : Op) : Nat := match op with
  | .load .. => 1
  | .lookup .. => 1
  | .convert .. => 2
  | .store .. => 2
  | .mapUpdate .. => 2
  | .call c => match c.callee with
    | .value _ => 2
    | .builtin .append => 2
    | .builtin .copy => 2
    | .builtin .delete => 2
    | .builtin .len => 1
    | .builtin .min => 1
    | _ => 3
  | op => match hfree op with
    | true => 0
    | false => 3
noncomputable def ordP (as : List Nat) (i j : Nat) (a b : Oper) : Bool := match kindO a.op, kindO b.op with
  | 0, _ => true
  | _, 0 => true
  | 1, 1 => true
  | _, _ => bit (gD as j) i
noncomputable def ordR (as : List Nat) (i : Nat) (a : Oper) : List Oper → Nat → Bool
  | [], _ => true
  | b :: l, j => ordP as i j a b && ordR as i a l (Nat.succ j)
noncomputable def ordB (as : List Nat) : List Oper → Nat → Bool
  | [], _ => true
  | a :: l, i => Nat.ble (kindO a.op) 2 && ordR as i a l (Nat.succ i) && ordB as l (Nat.succ i)
/-- lazily: the one, or the other -/
noncomputable def okT (a b : Bool) : Bool := Bool.rec b true a
/-- what was read is read at each heap that one may meet; what is made anew is in none of them -/
noncomputable def teOk (G : Program) (cf : Cf) (as : List Nat) (xs : List (Nat × P × AObj)) (sn : List Sn) (i : Nat) (o : Oper) : TE → Bool
  | .rd tm v => match sn with
    | [_] => true
    | _ => match hfree o.op with
      | true => true
      | false => allL (rereads G cf as xs i o tm v) sn
  | .al l _ _ => allL (fun s => match anyBit as i s.done, PT.get l s.H.tab with
    | true, _ => true
    | false, none => true
    | false, some _ => false) sn
  | _ => true
noncomputable def tesOk (G : Program) (cf : Cf) (ops : List Oper) (as : List Nat) (xs : List (Nat × P × AObj)) (sn : List Sn) (rl : List TE) : Bool :=
  List.rec true (fun te rl ih => match nthL ops (lenL rl) with
    | some o => match teOk G cf as xs sn (lenL rl) o te with
      | true => ih
      | false => false
    | none => false) rl
noncomputable def drawK (G : Program) (cf : Cf) (call : CallF) (n : Nat) (ops : List Oper) (as : List Nat) (tm0 : PT AV) (ds : List AD) (H0 : Hp) (rc : RC) : CR :=
  resvK ops H0.nx (fun names nx => traceK G cf call n ops as (fun s tm H pan => match okT (ordB as ops 0) (tesOk G cf ops as s.xs (snaps s.wl s.hs none) s.rl) with
    | false => .err 77
    | true => match pan with
      | none => layAll as s.wl s.xs H.tab (fun t => .ok .normal tm ds ⟨H.nx, t⟩ rc)
      | some v => eraseD ops tm0 (fun tm => .ok (.pan v) tm ds H rc)) (fun k => .err k) ops 0 names tm0 ⟨nx, H0.tab⟩ ⟨[], [⟨nx, H0.tab⟩], [], []⟩)
noncomputable def regionK (G : Program) (cf : Cf) (call : CallF) (rnd : RndF) (n : Nat) (ops : List Oper) (draw : Bool) (tm : PT AV) (ds : List AD) (H : Hp) (rc : RC) : CR := match draw with
  | false => regK G cf call rnd n ops ops tm ds H rc
  | true => match regStatic ops (ancs ops []) with
    | true => drawK G cf call n ops (ancs ops []) tm ds H rc
    | false => .err 76

/-! ### code -/
noncomputable def thenN (F : IH) : CR → CR
  | .ok .normal tm ds H rc => F tm ds H rc
  | r => r
noncomputable def blockN (id : Nat) : CR → CR
  | .ok (.exit j) tm ds H rc => match Nat.beq j id with
    | true => .ok .normal tm ds H rc
    | false => .ok (.exit j) tm ds H rc
  | r => r
noncomputable def condN (a b : CR) : Option AV → CR
  | some (.bool true) => a
  | some (.bool false) => b
  | _ => .err 81
/-- a loop over a function: what comes behind its call -/
noncomputable def loopEnd (tm : PT AV) (ds : List AD) (rc : RC) (dl l : P) : KR → CR
  | .ret _ H => match PT.get l H.tab with
    | some (.loop st pend fn n tm' ps a b d) => match st with
      | .busy => .err 66
      | _ => PT.putK l H.tab (some (.loop .exhausted pend fn n tm' ps a b d)) (fun t => match pend with
        | none => .ok .normal tm (.mark dl :: ds) ⟨H.nx, t⟩ rc
        | some .ret => .ok .ret tm (.mark dl :: ds) ⟨H.nx, t⟩ rc
        | some (.exit id) => .ok (.exit id) tm (.mark dl :: ds) ⟨H.nx, t⟩ rc
        | _ => .err 65)
    | _ => .err 67
  | .pan v H => .ok (.pan v) tm (.mark dl :: ds) H rc
  | .err k => .err k
noncomputable def rangeB (G : Program) (call : CallF) (n fid : Nat) (f : Operand) (params : Array Tmp) (assign body : Code) (tm : PT AV) (ds : List AD) (H : Hp) (rc : RC) : CR := match evO tm f with
    | some (.fn (.func g) first cap) => match hasBody G g with
      | true => P.nextK H.nx (fun p1 => P.nextK p1 (fun p2 => PT.putK H.nx H.tab (some .defd) (fun t1 => PT.putK p1 t1 (some (.loop .ready none fid n tm params.toList assign body H.nx)) (fun t2 =>
        loopEnd tm ds rc H.nx p1 (call g ((first ++ [.fn (.yield p1) [] []]) ++ cap) ⟨p2, t2⟩)))))
      | false => .err 68
    | _ => .err 69
noncomputable def rangeK (G : Program) (call : CallF) (n fid : Nat) (f : Operand) (params : Array Tmp) (assign body : Code) (tm : PT AV) (ds : List AD) (H : Hp) (rc : RC) : CR := match rc with
  | .bar => .err 64
  | rc => rangeB G call n fid f params assign body tm ds H rc
noncomputable def codeS (G : Program) (cf : Cf) (call : CallF) (rnd : RndF) (n fid : Nat) (ih : Code → IH) (c : Code) (tm : PT AV) (ds : List AD) (H : Hp) (rc : RC) : CR :=
  Code.casesOn (motive := fun _ => CR) c (.ok .normal tm ds H rc) (fun _ ops draw => regionK G cf call rnd n ops.toList draw tm ds H rc) (fun a b => thenN (ih b) (ih a tm ds H rc)) (fun c a b => condN (ih a tm ds H rc) (ih b tm ds H rc) (evO tm c))
    (fun id c => blockN id (ih c tm ds H rc)) (fun c => thenN (ih (.loop c)) (ih c tm ds H rc)) (fun f ps a b => rangeK G call n fid f ps a b tm ds H rc) (fun id => .ok (.exit id) tm ds H rc) (fun _ => .err 82) (fun _ => .err 82) (fun _ => .err 82) (.ok .ret tm ds H rc) (fun _ => .err 82)
noncomputable def codeK (G : Program) (cf : Cf) (call : CallF) (rnd : RndF) (n fid : Nat) (fuel : Nat) : Code → PT AV → List AD → Hp → RC → CR :=
  Nat.rec (fun _ _ _ _ _ => .err 80) (fun _ ih => codeS G cf call rnd n fid ih) fuel

/-! ### frames -/
noncomputable def argsT (args : List AV) : Nat → PT AV → PT AV := List.rec (fun _ t => t) (fun a _ ih i t => ih (Nat.succ i) (PT.put (P.of i) t (some a))) args
noncomputable def resO (G : Program) (tm : PT AV) (H : Hp) : ResultVar → Option AV
  | .tmp t => PT.get (P.of t) tm
  | .cell a t => match PT.get (P.of a) tm with
    | some p => loadO G H.tab t p
    | none => none
noncomputable def resultsO (G : Program) (fn : Func) (tm : PT AV) (H : Hp) : Option AV := match mapO (resO G tm H) fn.results.toList with
  | some [v] => some v
  | some vs => some (.tup vs)
  | none => none
inductive Md where
  | ret
  | pan (v : AV)
/-- a deferred call: what is caught is told -/
inductive DR where
  | ok (H : Hp) (rc : RC)
  | err (n : Nat)
noncomputable def dcallK (G : Program) (cf : Cf) (call : CallF) (rnd : RndF) (fuel : Nat) (f : FuncId) (args : List AV) (H : Hp) (rc : RC) : DR := match G.funcs[f]? with
  | some fn => match fn.body with
    | some c => match Nat.ble (lenL args) fn.ntmps with
      | true => match codeK G cf call rnd fn.ntmps f fuel c (argsT args 0 .e) [] H rc with
        | .ok .normal tm [] H rc => match resultsO G fn tm H with | some _ => .ok H rc | none => .err 107
        | .ok .ret tm [] H rc => match resultsO G fn tm H with | some _ => .ok H rc | none => .err 108
        | .err k => .err k
        | _ => .err 109
      | false => .err 110
    | none => .err 111
  | none => .err 112
noncomputable def leaveK (G : Program) (cf : Cf) (call : CallF) (rnd : RndF) (fuel : Nat) (fn : Func) (tm : PT AV) (ds : List AD) : Md → Hp → KR :=
  List.rec (fun md H => match md with
    | .ret => match resultsO G fn tm H with | some v => .ret v H | none => .err 90
    | .pan v => .pan v H) (fun d _ ih md H => match d with
    | .call f args cap => match hasBody G f with
      | true => match dcallK G cf call rnd fuel f (args ++ cap) H (match md with | .ret => .no | .pan v => .avail v) with
        | .ok H .used => ih .ret H
        | .ok H .no => ih .ret H
        | .ok H (.avail v) => ih (.pan v) H
        | .err k => .err k
        | _ => .err 91
      | false => .err 92
    | .mark l => match PT.get l H.tab with
      | some .defd => PT.putK l H.tab (some .gone) (fun t => ih md ⟨H.nx, t⟩)
      | _ => .err 93) ds
noncomputable def frameK (G : Program) (cf : Cf) (call : CallF) (rnd : RndF) (fuel : Nat) (f : FuncId) (args : List AV) (H : Hp) : KR := match G.funcs[f]? with
  | some fn => match fn.body with
    | some c => match Nat.ble (lenL args) fn.ntmps with
      | true => match codeK G cf call rnd fn.ntmps f fuel c (argsT args 0 .e) [] H .no with
        | .ok .normal tm ds H _ => leaveK G cf call rnd fuel fn tm ds .ret H
        | .ok .ret tm ds H _ => leaveK G cf call rnd fuel fn tm ds .ret H
        | .ok (.pan v) tm ds H _ => leaveK G cf call rnd fuel fn tm ds (.pan v) H
        | .ok (.exit _) _ _ _ _ => .err 94
        | .err k => .err (Bool.rec (k + 1000 * (f + 1)) k (Nat.ble 1000 k))
      | false => .err 95
    | none => .err 96
  | none => .err 97
/-- a round of a loop over a function: how it ends -/
noncomputable def roundEnd (l : P) (jump : Option Code) (H : Hp) : KR := match PT.get l H.tab with
  | some (.loop _ _ fn n tm ps a b d) => PT.putK l H.tab (some (.loop (match jump with | none => .ready | some _ => .done) jump fn n tm ps a b d)) (fun t => .ret (.bool (match jump with | none => true | some _ => false)) ⟨H.nx, t⟩)
  | _ => .err 101
noncomputable def setArgs (ps : List Nat) : List AV → PT AV → PT AV :=
  List.rec (fun _ t => t) (fun p _ ih args t => List.casesOn args t (fun a args => ih args (PT.put (P.of p) t (some a)))) ps
noncomputable def roundK (G : Program) (cf : Cf) (call : CallF) (rnd : RndF) (fuel : Nat) (l : P) (args : List AV) (H : Hp) : KR := match PT.get l H.tab with
  | some (.loop _ _ fn n tm ps assign body _) => match G.funcs[fn]?, Nat.beq (lenL args) (lenL ps), allL (fun p => Nat.ble (Nat.succ p) n) ps with
    | some _, true, true => match codeK G cf call rnd n fn fuel assign (setArgs ps args tm) [] H .bar with
      | .ok .normal tm [] H _ => match PT.get l H.tab with
        | some (.loop .ready pend fn' n' tm' ps' a' b' d') => PT.putK l H.tab (some (.loop .busy pend fn' n' tm' ps' a' b' d')) (fun t => match codeK G cf call rnd n fn fuel body tm [] ⟨H.nx, t⟩ .bar with
          | .ok .normal _ [] H _ => roundEnd l none H
          | .ok .ret _ [] H _ => roundEnd l (some .ret) H
          | .ok (.exit id) _ [] H _ => roundEnd l (some (.exit id)) H
          | .ok (.pan v) _ [] H _ => .pan v H
          | .err k => .err k
          | _ => .err 102)
        | _ => .err 103
      | .err k => .err k
      | _ => .err 104
    | _, _, _ => .err 105
  | _ => .err 106
/-- calls of a depth -/
noncomputable def bothN (G : Program) (cf : Cf) (fuel : Nat) (d : Nat) : CallF × RndF := Nat.rec (fun _ _ _ => .err 98, fun _ _ _ => .err 99) (fun _ ih => (frameK G cf ih.1 ih.2 fuel, roundK G cf ih.1 ih.2 fuel)) d
noncomputable def callN (G : Program) (cf : Cf) (fuel : Nat) (d : Nat) : CallF := (bothN G cf fuel d).1
end Go.Ai
