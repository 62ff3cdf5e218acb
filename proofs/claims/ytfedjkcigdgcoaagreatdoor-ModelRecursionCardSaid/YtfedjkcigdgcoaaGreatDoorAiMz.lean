/- One operation, in a form that the kernel reckons fast: small bodies, a recursor at the top. -/
import Derived.Test.YtfedjkcigdgcoaaGreatDoorAiM
namespace Go.Ai
open Go Go.RowKit
set_option linter.unusedVariables false
section
variable (G : Program) (cf : Cf) (ev : Operand → Option AV) (H : Hp)
noncomputable def o1 (n : Nat) (F : AV → K3) : Option AV → K3 := Option.rec (.err n) F
noncomputable def o2 (n : Nat) (F : AV → AV → K3) (b : Option AV) : Option AV → K3 := Option.rec (.err n) (fun x => o1 n (F x) b)
noncomputable def fMove (x : Operand) : K3 := K3.ofR 1 (ev x)
noncomputable def fPick (c a b : Operand) : K3 := match ev c with | some (.bool r) => K3.ofR 8 (Bool.rec (ev b) (ev a) r) | _ => .err 8
noncomputable def fAlloc (t : TypeId) : K3 := K3.ofP 14 (allocO G t)
noncomputable def fBox (t : TypeId) (x : Operand) : K3 := o1 13 (fun v => K3.ofP 13 (boxO t v)) (ev x)
noncomputable def fBuild (t : TypeId) (ps : Array (Nat × Operand)) : K3 := match partsO ev ps.toList with | some ps => K3.ofR 10 (buildO G t ps) | none => .err 10
noncomputable def fBuildSl (t : TypeId) (n : Nat) (ps : Array (Nat × Operand)) : K3 := match partsO ev ps.toList with | some ps => K3.ofA 11 (buildSlO G t n ps) | none => .err 11
noncomputable def fLoad (t : TypeId) (a : Operand) : K3 := o1 2 (fun p => K3.ofR 2 (loadG cf G H.tab t p)) (ev a)
noncomputable def fStore (t : TypeId) (a x : Operand) : K3 := o2 7 (fun p v => storeK G t p v H (K3.ofU 7)) (ev x) (ev a)
noncomputable def fNil (x : Operand) : K3 := o1 5 (fun v => K3.ofR 5 (nilChkO v)) (ev x)
noncomputable def fBin (op : BinOp) (t : TypeId) (x y : Operand) (_ : TypeId) : K3 := o2 4 (fun a b => binOpN cf G op t x y a b (K3.ofR 4)) (ev y) (ev x)
noncomputable def fUn (op : UnOp) (_ : TypeId) (x : Operand) : K3 := o1 12 (fun v => unK cf op v (K3.ofR 12)) (ev x)
noncomputable def fConv (s d : TypeId) (x : Operand) : K3 := o1 15 (fun v => cvtK G cf s d v H) (ev x)
noncomputable def fIface (t : TypeId) (x : Operand) : K3 := o1 43 (fun v => K3.ofR 43 (mkIfaceO G t v)) (ev x)
noncomputable def fFunc : Fn → Array Operand → Array Operand → K3
  | .func f, first, cap => match mapO ev first.toList, mapO ev cap.toList with | some a, some b => .rd (.fn (.func f) a b) | _, _ => .err 16
  | _, _, _ => .err 50
noncomputable def fMap (_ : TypeId) : Option Operand → K3
  | none => .al (.map [] 0) .map
  | _ => .err 50
noncomputable def fSlice (t : TypeId) (x : Operand) (lo hi : Option Operand) : Option Operand → K3
  | none => match ev x, evOpt ev lo, evOpt ev hi with | some v, some a, some b => K3.ofR 17 (sliceO G t v a b) | _, _, _ => .err 17
  | some m => match ev x, evOpt ev lo, evOpt ev hi, ev m with | some v, some a, some b, some c => K3.ofR 19 (slice3O G t v a b c) | _, _, _, _ => .err 19
noncomputable def fFieldA (s : TypeId) (x : Operand) (f : Nat) : K3 := o1 3 (fun v => K3.ofR 3 (fieldAddrO G s v f)) (ev x)
noncomputable def fField (t : TypeId) (x : Operand) (f : Nat) : K3 := o1 46 (fun v => K3.ofR 46 (fieldO G t v f)) (ev x)
noncomputable def fIndexA (t : TypeId) (x i : Operand) : K3 := o2 6 (fun a b => K3.ofR 6 (indexAddrO G t a b)) (ev i) (ev x)
noncomputable def fIndex (t : TypeId) (x i : Operand) : K3 := o2 19 (fun a b => K3.ofR 19 (indexO G t a b)) (ev i) (ev x)
noncomputable def fLook (t : TypeId) (x k : Operand) (ok : Bool) : K3 := o2 18 (fun a b => K3.ofR 18 (lookO cf G H.tab t a b ok)) (ev k) (ev x)
noncomputable def fMapPut (t : TypeId) (m k x : Operand) : K3 := match ev m, ev k, ev x with | some m, some k, some v => mapPutK cf G t m k v H (K3.ofU 42) | _, _, _ => .err 42
noncomputable def fRange (t : TypeId) (x : Operand) : K3 := o1 47 (fun v => K3.ofA 47 (rangeO G H.tab t v)) (ev x)
noncomputable def fNext (it : Operand) (s : Bool) : K3 := o1 48 (fun v => nextK v s H (K3.ofW 48)) (ev it)
noncomputable def fEntry (it : Operand) : K3 := o1 49 (fun v => K3.ofR 49 (entryO H.tab v)) (ev it)
noncomputable def fAssert (x : Operand) (xt t : TypeId) (ok : Bool) : K3 := o1 45 (fun v => K3.ofR 45 (assertO G v xt t ok)) (ev x)
noncomputable def fExtract (t : Operand) (i : Nat) : K3 := o1 9 (fun v => K3.ofR 9 (extractO v i)) (ev t)
noncomputable def fCall (c : Call) : K3 := callK G cf c ev H
noncomputable def fDefer (c : Call) : K3 := match mapO ev c.args.toList, c.callee with
    | some args, .value f => match ev f with
      | some (.fn (.func f) first cap) => .defer f (first ++ args) cap
      | _ => .err 44
    | _, _ => .err 44
noncomputable def fPanic (x : Operand) : K3 := match ev x with | some (.iface t v) => .pan (.iface t v) | _ => .err 40
noncomputable def fMakeCh (t : TypeId) (n : Operand) : K3 := o1 52 (fun v => K3.ofA 52 (makeChanO G t v)) (ev n)
noncomputable def fSel (cases : Array SelectCase) : Bool → K3
  | false => selK G cases.toList ev H
  | true => .err 51
noncomputable def fMakeSl' (t : TypeId) (l c : Operand) : K3 := o2 41 (fun a b => K3.ofA 41 (makeO G t a b)) (ev c) (ev l)
noncomputable def opF (o : Oper) : K3 :=
  Op.rec (motive := fun _ => K3) (fMove ev) (fMove ev) (fPick ev) (fAlloc G) (fBox ev) (fBuild G ev) (fBuildSl G ev) (fMapPut G cf ev H) (fLoad G cf ev H) (fStore G ev H) (fun _ => .err 50) (fun _ => .err 50) (fNil ev) (fBin G cf ev) (fUn cf ev) (fConv G cf ev H)
    (fun _ _ => .err 50) (fIface G ev) (fFunc ev) fMap (fMakeCh G ev) (fMakeSl' G ev) (fSlice G ev) (fFieldA G ev) (fField G ev) (fIndexA G ev) (fIndex G ev) (fLook G cf ev H) (fMapPut G cf ev H) (fun _ _ _ => .err 50) (fun _ _ _ _ => .err 50) (fRange G ev H) (fNext ev H)
    (fEntry ev H) (fAssert G ev) (fExtract ev) (fCall G cf ev H) (fun _ => .err 50) (fDefer ev) (fPanic ev) (fun _ _ => .err 50) (fun _ _ _ => .err 50) (fSel G ev H) o.op
end
theorem o2_eq (n : Nat) (F : AV → AV → K3) (a b : Option AV) : o2 n F b a = match a, b with | some x, some y => F x y | _, _ => .err n := by cases a <;> cases b <;> rfl
theorem o1_eq (n : Nat) (F : AV → K3) (a : Option AV) : o1 n F a = match a with | some x => F x | none => .err n := by cases a <;> rfl
theorem opF_eq (G : Program) (cf : Cf) (ev : Operand → Option AV) (H : Hp) (o : Oper) : opF G cf ev H o = opK G cf o ev H := by
  obtain ⟨dst, op, type, pos, after, guard⟩ := o
  cases op with
  | makeFunc f a b => cases f <;> rfl
  | makeMap t r => cases r <;> rfl
  | slice t x lo hi m => cases m <;> rfl
  | store t a x => exact o2_eq _ _ _ _
  | binOp op t x y _ => exact o2_eq _ _ _ _
  | indexAddr t x i => exact o2_eq _ _ _ _
  | index t x i => exact o2_eq _ _ _ _
  | lookup t x k ok => exact o2_eq _ _ _ _
  | makeSlice t l c => exact o2_eq _ _ _ _
  | box t x => exact o1_eq _ _ _
  | makeChan t n => exact o1_eq _ _ _
  | select cs b => cases b <;> rfl
  | load t x => exact o1_eq _ _ _
  | nilCheck x => exact o1_eq _ _ _
  | unOp op t x => exact o1_eq _ _ _
  | convert s d x => exact o1_eq _ _ _
  | makeInterface t x => exact o1_eq _ _ _
  | fieldAddr s x f => exact o1_eq _ _ _
  | field s x f => exact o1_eq _ _ _
  | range t x => exact o1_eq _ _ _
  | next x b => exact o1_eq _ _ _
  | entry x => exact o1_eq _ _ _
  | typeAssert x xt t ok => exact o1_eq _ _ _
  | extract t i => exact o1_eq _ _ _
  | _ => rfl
end Go.Ai
