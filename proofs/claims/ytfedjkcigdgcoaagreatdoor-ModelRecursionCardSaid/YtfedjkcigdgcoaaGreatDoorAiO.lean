/- The machine's moves, and a region in the row of its text. -/
import Derived.Test.YtfedjkcigdgcoaaGreatDoorAiN
import Derived.Defers
namespace Go.Ai
open Go Go.RowKit
set_option linter.unusedVariables false
/-- a frame that runs -/
def Fr (b : Frame) (arr : Array Value) (todo : List Item) (ds : List Deferred) : Frame :=
  { fn := b.fn, tmps := arr, todo, defers := ds, mode := .run, kind := b.kind, roundOf := b.roundOf }
def putA (arr : Array Value) (d : Option Tmp) (v : Value) : Array Value := match d with
  | some d => arr.setIfInBounds d v
  | none => arr
theorem putA_size (arr : Array Value) (d : Option Tmp) (v : Value) : (putA arr d v).size = arr.size := by cases d <;> simp [putA]
theorem Fr_eval (b : Frame) (arr : Array Value) (todo : List Item) (ds : List Deferred) : (Fr b arr todo ds).eval = Act.eval ⟨arr, ds⟩ := by
  funext x; cases x <;> rfl
theorem Fr_finish (b : Frame) (arr : Array Value) (ops : Array Oper) (i : Nat) (rest : List Nat) (k : List Item) (ds : List Deferred) (v : Value) :
    (Fr b arr (.inRegion ops (i :: rest) :: k) ds).finish v = Fr b (putA arr ((ops[i]?).bind (·.dst)) v) (.inRegion ops rest :: k) ds := by
  cases h : (ops[i]?).bind (·.dst) <;> simp [Frame.finish, Fr, putA, h]
theorem Fr_raise (b : Frame) (arr : Array Value) (todo : List Item) (ds : List Deferred) (chain : List PanicEntry) :
    (Fr b arr todo ds).raise chain = { Fr b arr todo ds with mode := .panicking chain } := rfl
section
variable {P : Program} {b : Frame} {arr : Array Value} {ds : List Deferred} {k : List Item} {cs : List Frame} {w w' : World} {ops : Array Oper}
theorem st_skip : step P (lone (Fr b arr (.code .skip :: k) ds) cs w) = .next (lone (Fr b arr k ds) cs w) := step_lone_go (by simp [stepG, stepG.exec, Fr])
theorem st_inBlock {id : Nat} : step P (lone (Fr b arr (.inBlock id :: k) ds) cs w) = .next (lone (Fr b arr k ds) cs w) := step_lone_go (by simp [stepG, stepG.exec, Fr])
theorem st_seq {x y : Code} : step P (lone (Fr b arr (.code (.seq x y) :: k) ds) cs w) = .next (lone (Fr b arr (.code x :: .code y :: k) ds) cs w) := step_lone_go (by simp [stepG, stepG.exec, Fr])
theorem st_cond {c : Operand} {x y : Code} {t : Bool} (h : Act.eval ⟨arr, ds⟩ c = .bool t) :
    step P (lone (Fr b arr (.code (.cond c x y) :: k) ds) cs w) = .next (lone (Fr b arr (.code (if t then x else y) :: k) ds) cs w) :=
  step_lone_go (by
    have := congrFun (Fr_eval b arr (.code (.cond c x y) :: k) ds) c
    simp only [Fr] at this
    simp [stepG, stepG.exec, Fr, this, h])
theorem st_block {id : Nat} {c : Code} : step P (lone (Fr b arr (.code (.block id c) :: k) ds) cs w) = .next (lone (Fr b arr (.code c :: .inBlock id :: k) ds) cs w) := step_lone_go (by simp [stepG, stepG.exec, Fr])
theorem st_loop {c : Code} : step P (lone (Fr b arr (.code (.loop c) :: k) ds) cs w) = .next (lone (Fr b arr (.code c :: .inLoop c :: k) ds) cs w) := step_lone_go (by simp [stepG, stepG.exec, Fr])
theorem st_inLoop {c : Code} : step P (lone (Fr b arr (.inLoop c :: k) ds) cs w) = .next (lone (Fr b arr (.code c :: .inLoop c :: k) ds) cs w) := step_lone_go (by simp [stepG, stepG.exec, Fr])
theorem st_exit {id : Nat} {k' : List Item} (h : exitTo id k = some k') : step P (lone (Fr b arr (.code (.exit id) :: k) ds) cs w) = .next (lone (Fr b arr k' ds) cs w) :=
  step_lone_go (by simp [stepG, stepG.exec, Fr, h])
theorem st_ret (hb : b.roundOf = none) : step P (lone (Fr b arr (.code .ret :: k) ds) cs w) = .next (lone { Fr b arr (.code .ret :: k) ds with mode := .returning } cs w) :=
  step_lone_go (by simp [stepG, stepG.exec, Fr, hb])
theorem st_end (hb : b.roundOf = none) : step P (lone (Fr b arr [] ds) cs w) = .next (lone { Fr b arr [] ds with mode := .returning } cs w) :=
  step_lone_go (by simp [stepG, stepG.exec, Fr, hb])
theorem st_region {id : Nat} : step P (lone (Fr b arr (.code (.region id ops false) :: k) ds) cs w) = .next (lone (Fr b arr (.inRegion ops (List.range ops.size) :: k) ds) cs w) :=
  step_lone_go (by simp [stepG, stepG.exec, Fr])
theorem st_region_draw {id : Nat} : step P (lone (Fr b arr (.code (.region id ops true) :: k) ds) cs w) =
    .next (lone (Fr b arr (.inRegion ops (Region.schedule (P.follows .mixedOrders) ops (w.tape w.drawn (.order b.fn id))) :: k) ds) cs { w with drawn := w.drawn + 1 }) :=
  step_lone_go (by simp [stepG, stepG.exec, Fr, choose, Sem.run, Question.forced, Question.cut])
theorem st_region_end : step P (lone (Fr b arr (.inRegion ops [] :: k) ds) cs w) = .next (lone (Fr b arr k ds) cs w) := step_lone_go (by simp [stepG, stepG.exec, Fr])
theorem st_op_skip {i : Nat} {rest : List Nat} (h : ((ops[i]?).map (Region.wanted · (yielded ops arr))).getD false = false) :
    step P (lone (Fr b arr (.inRegion ops (i :: rest) :: k) ds) cs w) = .next (lone (Fr b (putA arr ((ops[i]?).bind (·.dst)) undef) (.inRegion ops rest :: k) ds) cs w) := by
  rw [← Fr_finish]
  exact step_lone_go (by
    have h' := h
    simp only [Fr] at *
    simp [stepG, stepG.exec, h'])
theorem stepG_fr {i : Nat} {rest : List Nat} {o : Oper} (ho : ops[i]? = some o) (hw : Region.wanted o (yielded ops arr) = true) (hd : b.roundOf = none ∨ ∀ c, o.op ≠ .defer c) :
    stepG P true { frame := Fr b arr (.inRegion ops (i :: rest) :: k) ds, callers := cs, status := .running, dying := none } w =
      stepG.apply P true (Fr b arr (.inRegion ops (i :: rest) :: k) ds) cs none (execOp (Act.eval ⟨arr, ds⟩) o) w := by
  have he := Fr_eval b arr (.inRegion ops (i :: rest) :: k) ds
  simp only [Fr] at he
  simp only [stepG, stepG.exec, stepG.oper, Frame.oper?, Fr, ho, hw, he, Option.map_some, Option.getD_some, if_true]
  split
  · rename_i l c h1 h2
    rcases hd with hd | hd
    · rw [hd] at h1; cases h1
    · exact absurd h2 (hd c)
  · rfl
section
variable {i : Nat} {rest : List Nat} {o : Oper}
theorem st_value (ho : ops[i]? = some o) (hw : Region.wanted o (yielded ops arr) = true) (hd : b.roundOf = none ∨ ∀ c, o.op ≠ .defer c) {v : Value} (hr : (execOp (Act.eval ⟨arr, ds⟩) o).run P w = .ok (.value v) w') :
    step P (lone (Fr b arr (.inRegion ops (i :: rest) :: k) ds) cs w) = .next (lone (Fr b (putA arr o.dst v) (.inRegion ops rest :: k) ds) cs w') := by
  have hf := Fr_finish b arr ops i rest k ds v
  rw [ho] at hf
  refine step_lone_go ?_
  rw [stepG_fr ho hw hd, show putA arr o.dst v = putA arr ((some o).bind (·.dst)) v from rfl, ← hf]
  simp [stepG.apply, hr]
theorem st_unit (ho : ops[i]? = some o) (hw : Region.wanted o (yielded ops arr) = true) (hd : b.roundOf = none ∨ ∀ c, o.op ≠ .defer c) (hr : (execOp (Act.eval ⟨arr, ds⟩) o).run P w = .ok .skip w') :
    step P (lone (Fr b arr (.inRegion ops (i :: rest) :: k) ds) cs w) = .next (lone (Fr b (putA arr o.dst undef) (.inRegion ops rest :: k) ds) cs w') := by
  have hf := Fr_finish b arr ops i rest k ds undef
  rw [ho] at hf
  refine step_lone_go ?_
  rw [stepG_fr ho hw hd, show putA arr o.dst undef = putA arr ((some o).bind (·.dst)) undef from rfl, ← hf]
  simp [stepG.apply, hr]
theorem st_defer (ho : ops[i]? = some o) (hw : Region.wanted o (yielded ops arr) = true) (hd : b.roundOf = none ∨ ∀ c, o.op ≠ .defer c) {d : Deferred} (hr : (execOp (Act.eval ⟨arr, ds⟩) o).run P w = .ok (.defer d) w') :
    step P (lone (Fr b arr (.inRegion ops (i :: rest) :: k) ds) cs w) = .next (lone (Fr b (putA arr o.dst undef) (.inRegion ops rest :: k) (d :: ds)) cs w') := by
  have hf := Fr_finish b arr ops i rest k (d :: ds) undef
  rw [ho] at hf
  refine step_lone_go ?_
  rw [stepG_fr ho hw hd, show putA arr o.dst undef = putA arr ((some o).bind (·.dst)) undef from rfl, ← hf]
  simp only [stepG.apply, Sem.runT_eq, hr, GStep.bare_after]
  rfl
theorem st_enter (ho : ops[i]? = some o) (hw : Region.wanted o (yielded ops arr) = true) (hd : b.roundOf = none ∨ ∀ c, o.op ≠ .defer c) {f : FuncId} {args : Array Value} (hr : (execOp (Act.eval ⟨arr, ds⟩) o).run P w = .ok (.enter f args) w') :
    step P (lone (Fr b arr (.inRegion ops (i :: rest) :: k) ds) cs w) = .next (lone (Frame.enter P f args .normal) (Fr b arr (.inRegion ops (i :: rest) :: k) ds :: cs) w') := by
  refine step_lone_go ?_
  rw [stepG_fr ho hw hd]
  simp [stepG.apply, hr, Fr]
theorem st_panic (ho : ops[i]? = some o) (hw : Region.wanted o (yielded ops arr) = true) (hd : b.roundOf = none ∨ ∀ c, o.op ≠ .defer c) {v : Value} (hr : (execOp (Act.eval ⟨arr, ds⟩) o).run P w = .halt (.panic v) w') :
    step P (lone (Fr b arr (.inRegion ops (i :: rest) :: k) ds) cs w) = .next (lone { Fr b arr (.inRegion ops (i :: rest) :: k) ds with mode := .panicking [{ v, recovered := false }] } cs w') := by
  refine step_lone_go ?_
  rw [stepG_fr ho hw hd, ← Fr_raise]
  simp [stepG.apply, hr]
theorem st_recover (ho : ops[i]? = some o) (hw : Region.wanted o (yielded ops arr) = true) (hd : b.roundOf = none ∨ ∀ c, o.op ≠ .defer c) (hb : b.roundOf = none) {v : Value} {cs' : List Frame} (hr : (execOp (Act.eval ⟨arr, ds⟩) o).run P w = .ok .recover w') (ht : tryRecover (Fr b arr (.inRegion ops (i :: rest) :: k) ds) cs = some (v, cs')) :
    step P (lone (Fr b arr (.inRegion ops (i :: rest) :: k) ds) cs w) = .next (lone (Fr b (putA arr o.dst v) (.inRegion ops rest :: k) ds) cs' w') := by
  have hf := Fr_finish b arr ops i rest k ds v
  rw [ho] at hf
  refine step_lone_go ?_
  rw [stepG_fr ho hw hd, show putA arr o.dst v = putA arr ((some o).bind (·.dst)) v from rfl, ← hf]
  have hr0 : (Fr b arr (.inRegion ops (i :: rest) :: k) ds).roundOf = none := hb
  simp [stepG.apply, hr, hr0, ht]
theorem st_norecover (ho : ops[i]? = some o) (hw : Region.wanted o (yielded ops arr) = true) (hd : b.roundOf = none ∨ ∀ c, o.op ≠ .defer c) (hb : b.roundOf = none) (hr : (execOp (Act.eval ⟨arr, ds⟩) o).run P w = .ok .recover w') (ht : tryRecover (Fr b arr (.inRegion ops (i :: rest) :: k) ds) cs = none) :
    step P (lone (Fr b arr (.inRegion ops (i :: rest) :: k) ds) cs w) = .next (lone (Fr b (putA arr o.dst .nilIface) (.inRegion ops rest :: k) ds) cs w') := by
  have hf := Fr_finish b arr ops i rest k ds .nilIface
  rw [ho] at hf
  refine step_lone_go ?_
  rw [stepG_fr ho hw hd, show putA arr o.dst Value.nilIface = putA arr ((some o).bind (·.dst)) .nilIface from rfl, ← hf]
  have hr0 : (Fr b arr (.inRegion ops (i :: rest) :: k) ds).roundOf = none := hb
  simp [stepG.apply, hr, hr0, ht]
theorem st_round (ho : ops[i]? = some o) (hw : Region.wanted o (yielded ops arr) = true) (hd : b.roundOf = none ∨ ∀ c, o.op ≠ .defer c) {l fn : Nat} {tmps : Array Value} {assign body : Code} (hr : (execOp (Act.eval ⟨arr, ds⟩) o).run P w = .ok (.round l fn tmps assign body) w') :
    step P (lone (Fr b arr (.inRegion ops (i :: rest) :: k) ds) cs w) = .next (lone (Frame.round l fn tmps assign body .normal) (Fr b arr (.inRegion ops (i :: rest) :: k) ds :: cs) w') := by
  refine step_lone_go ?_
  rw [stepG_fr ho hw hd]
  simp [stepG.apply, hr]
end
theorem st_sel {i : Nat} {rest : List Nat} {o : Oper} (ho : ops[i]? = some o) (hw : Region.wanted o (yielded ops arr) = true) (hd : b.roundOf = none ∨ ∀ c, o.op ≠ .defer c) {c cap s r : Nat} {cl tm : Bool} {z : Value} (hr : (execOp (Act.eval ⟨arr, ds⟩) o).run P w = .ok (.comm #[Conc.rcase c z] false .select) w)
    (hc : w.heap[c]? = some (.chan cap #[] cl s r tm)) :
    step P (lone (Fr b arr (.inRegion ops (i :: rest) :: k) ds) cs w) = .next (lone (Fr b (putA arr o.dst (.tuple #[goInt (Bool.rec (-1) 0 cl), .bool false, z])) (.inRegion ops rest :: k) ds) cs w) := by
  have hf := Fr_finish b arr ops i rest k ds (.tuple #[goInt (Bool.rec (-1) 0 cl), .bool false, z])
  rw [ho] at hf
  have h2 : ∃ es, stepG.apply P true (Fr b arr (.inRegion ops (i :: rest) :: k) ds) cs none (execOp (Act.eval ⟨arr, ds⟩) o) w = .comm (Conc.G (Fr b arr (.inRegion ops (i :: rest) :: k) ds) cs) #[Conc.rcase c z] false .select w es := by
    simp only [stepG.apply, Sem.runT_eq, hr, if_true, GStep.after]
    exact ⟨_, rfl⟩
  have hg : ∃ es, stepG P true (Conc.G (Fr b arr (.inRegion ops (i :: rest) :: k) ds) cs) w = .comm (Conc.G (Fr b arr (.inRegion ops (i :: rest) :: k) ds) cs) #[Conc.rcase c z] false .select w es := by
    obtain ⟨es, h2⟩ := h2
    exact ⟨es, (stepG_fr (P := P) (b := b) (ds := ds) (cs := cs) (w := w) (k := k) (rest := rest) ho hw hd).trans h2⟩
  obtain ⟨es, hg⟩ := hg
  rw [show putA arr o.dst (.tuple #[goInt (Bool.rec (-1) 0 cl), .bool false, z]) = putA arr ((some o).bind (·.dst)) (.tuple #[goInt (Bool.rec (-1) 0 cl), .bool false, z]) from rfl, ← hf]
  rw [Conc.lone_eq_solo, Conc.lone_eq_solo]
  cases cl with
  | false => exact Conc.step_lone_select_default hg hc
  | true => exact Conc.step_lone_select_recv_shut hg hc
theorem st_range {f : Operand} {params : Array Tmp} {assign body : Code} {l : Nat} {mark : List Deferred} {g : FuncId} {xs : Array Value} {w1 : World} (hb : b.roundOf = none) (he : (Instr.enterLoop b.fn arr params assign body none).run P w = .ok (l, mark) w1)
    (hc : (do let d ← resolve (Act.eval ⟨arr, mark ++ ds⟩) { callee := .value f, args := #[.const (.func (.yield l) #[] #[])], argTypes := #[] } 0; invoke d.target d.args : Sem Next).run P w1 = .ok (.enter g xs) w1) :
    step P (lone (Fr b arr (.code (.rangeFunc f params assign body) :: k) ds) cs w) = .next (lone (Frame.enter P g xs .normal) (Fr b arr (.inRangeFunc l :: k) (mark ++ ds) :: cs) w1) := by
  refine step_lone_go ?_
  have hev := Fr_eval b arr (.inRangeFunc l :: k) (mark ++ ds)
  simp only [Fr, hb] at hev
  simp only [stepG, stepG.exec, Fr, hb, Sem.runT_eq, he, GStep.bare_after, hev, stepG.apply, hc, if_true, GStep.bare_go]
theorem st_endRange {l : Nat} {jump : Option Code} (he : (Instr.endLoop l).run P w = .ok jump w') :
    step P (lone (Fr b arr (.endRangeFunc l :: k) ds) cs w) = .next (lone (Fr b arr ((jump.map Item.code).toList ++ k) ds) cs w') :=
  step_lone_go (by simp [stepG, stepG.exec, Fr, he])
theorem st_begin {l : Nat} (hb : b.roundOf = some l) (he : (Instr.beginRound l).run P w = .ok () w') :
    step P (lone (Fr b arr (.beginRound :: k) ds) cs w) = .next (lone (Fr b arr k ds) cs w') :=
  step_lone_go (by simp [stepG, stepG.exec, stepG.apply, Fr, hb, he, Frame.finish])
theorem st_leave_end {l : Nat} {v : Value} {c : Frame} (hb : b.roundOf = some l) (hk : b.kind = .normal) (he : (Instr.endRound l none).run P w = .ok v w') :
    step P (lone (Fr b arr [] ds) (c :: cs) w) = .next (lone (c.finish v) cs w') :=
  step_lone_go (by simp [stepG, stepG.exec, Fr, hb, hk, he, doReturn])
theorem st_leave_ret {l : Nat} {v : Value} {c : Frame} (hb : b.roundOf = some l) (hk : b.kind = .normal) (he : (Instr.endRound l (some .ret)).run P w = .ok v w') :
    step P (lone (Fr b arr (.code .ret :: k) ds) (c :: cs) w) = .next (lone (c.finish v) cs w') :=
  step_lone_go (by simp [stepG, stepG.exec, Fr, hb, hk, he, doReturn])
theorem st_leave_exit {l id : Nat} {v : Value} {c : Frame} (hb : b.roundOf = some l) (hk : b.kind = .normal) (hx : exitTo id k = none) (he : (Instr.endRound l (some (.exit id))).run P w = .ok v w') :
    step P (lone (Fr b arr (.code (.exit id) :: k) ds) (c :: cs) w) = .next (lone (c.finish v) cs w') :=
  step_lone_go (by simp [stepG, stepG.exec, Fr, hb, hk, hx, he, doReturn])
end
/-! ### loops over functions -/
section
variable {P : Program} {w : World}
theorem loop_get {b : Nat} {r : Loop} (h : w.heap[b]? = some (.loop r)) : (Instr.getLoop b).run P w = .ok r w := by
  simp [Instr.getLoop, getObj, Sem.run, h]
theorem enterLoop_run (fn : FuncId) (arr : Array Value) (params : Array Tmp) (assign body : Code) : (Instr.enterLoop fn arr params assign body none).run P w =
    .ok (w.heap.size + 1, [{ target := .collected w.heap.size, args := #[] }]) { w with heap := (w.heap.push (.deferred (some []))).push (.loop { state := .ready, pending := none, fn, tmps := arr, params, assign, body, defers := w.heap.size }) } := by
  simp [Instr.enterLoop, newObj, Sem.run]
  rfl
theorem endLoop_run {b : Nat} {r : Loop} (h : w.heap[b]? = some (.loop r)) (hs : r.state ≠ .busy) : (Instr.endLoop b).run P w = .ok r.pending { w with heap := w.heap.setIfInBounds b (.loop { r with state := .exhausted }) } := by
  simp [Instr.endLoop, loop_get h, hs, setObj_run h]
theorem yield_run {b : Nat} {r : Loop} (h : w.heap[b]? = some (.loop r)) {args : Array Value} (hs : args.size = r.params.size) : (Instr.yield b args).run P w = .ok (.round b r.fn ((r.params.zip args).foldl (fun tmps (t, a) => tmps.setIfInBounds t a) r.tmps) r.assign r.body) w := by
  simp [Instr.yield, loop_get h, hs]
theorem begin_run {b : Nat} {r : Loop} (h : w.heap[b]? = some (.loop r)) (hs : r.state = .ready) : (Instr.beginRound b).run P w = .ok () { w with heap := w.heap.setIfInBounds b (.loop { r with state := .busy }) } := by
  simp [Instr.beginRound, loop_get h, hs, setObj_run h]
theorem endRound_run {b : Nat} {r : Loop} (h : w.heap[b]? = some (.loop r)) (j : Option Code) : (Instr.endRound b j).run P w = .ok (.bool j.isNone) { w with heap := w.heap.setIfInBounds b (.loop { r with state := if j.isNone then .ready else .done, pending := j }) } := by
  simp [Instr.endRound, loop_get h, setObj_run h]
theorem take_run {b : Nat} (h : w.heap[b]? = some (.deferred (some []))) : (Instr.takeDeferred b).run P w = .ok [] { w with heap := w.heap.setIfInBounds b (.deferred none) } := by
  simp [Instr.takeDeferred, getObj, Sem.run, h, setObj_run h]
theorem st_take {fr : Frame} {cs : List Frame} {w' : World} {b : Nat} {ds : List Deferred} (hm : fr.mode ≠ .run) (hd : fr.defers = { target := .collected b, args := #[] } :: ds) (he : (Instr.takeDeferred b).run P w = .ok [] w') :
    step P (lone fr cs w) = .next (lone { fr with defers := ds } cs w') := by
  refine step_lone_go ?_
  cases hmode : fr.mode with
  | run => exact absurd hmode hm
  | returning => simp [stepG, unwind, hmode, hd, he]
  | panicking chain => simp [stepG, unwind, hmode, hd, he]
end

/-! ### what is said of a piece of code -/
def Ends (P : Program) (E : Env) (b : Frame) (k : List Item) (arr : Array Value) (ds : List Deferred) (cs : List Frame) (w : World) (m : Machine) : Ex → Prop
  | .normal => Steps P m (lone (Fr b arr k ds) cs w)
  | .exit id => ∃ j, exitTo id (j ++ k) = exitTo id k ∧ Steps P m (lone (Fr b arr (.code (.exit id) :: (j ++ k)) ds) cs w)
  | .ret => ∃ j, Steps P m (lone (Fr b arr (.code .ret :: j) ds) cs w)
  | .pan v => ∃ x j, VR E v x ∧ Steps P m (lone { Fr b arr j ds with mode := .panicking [{ v := x, recovered := false }] } cs w)
theorem Ends.of_steps {P : Program} {E : Env} {b : Frame} {k : List Item} {arr : Array Value} {ds : List Deferred} {cs : List Frame} {w : World} {m m' : Machine} {ex : Ex} (h : Steps P m m') (h' : Ends P E b k arr ds cs w m' ex) : Ends P E b k arr ds cs w m ex := by
  cases ex with
  | normal => exact h.trans h'
  | exit id => obtain ⟨j, e, s⟩ := h'; exact ⟨j, e, h.trans s⟩
  | ret => obtain ⟨j, s⟩ := h'; exact ⟨j, h.trans s⟩
  | pan v => obtain ⟨x, j, e, s⟩ := h'; exact ⟨x, j, e, h.trans s⟩
inductive DsR (E : Env) : List AD → List Deferred → Prop
  | nil : DsR E [] []
  | call {f : FuncId} {args cap : List AV} {xs ys : List Value} {ds : List AD} {dv : List Deferred} (h1 : VRs E args xs) (h2 : VRs E cap ys) (h : DsR E ds dv) : DsR E (.call f args cap :: ds) ({ target := .fn (.func f) ys.toArray, args := xs.toArray } :: dv)
  | mark {l : P} {b c : Nat} {ds : List AD} {dv : List Deferred} (h1 : E.ρ l = some (b, c)) (h : DsR E ds dv) : DsR E (.mark l :: ds) ({ target := .collected b, args := #[] } :: dv)
theorem DsR.mono {E E' : Env} (h : E.le E') : ∀ {ds : List AD} {dv : List Deferred}, DsR E ds dv → DsR E' ds dv
  | _, _, .nil => .nil
  | _, _, .call h1 h2 h3 => .call (h1.mono h) (h2.mono h) (DsR.mono h h3)
  | _, _, .mark h1 h2 => .mark (h.2 _ _ h1) (DsR.mono h h2)
inductive RcR (E : Env) (b : Frame) : RC → List Frame → Prop
  | no (hb : b.roundOf = none) (hk : b.kind = .normal) (cs : List Frame) : RcR E b .no cs
  | ret (hb : b.roundOf = none) (hk : b.kind = .deferred) {c : Frame} {cs : List Frame} (hm : c.mode = .returning) : RcR E b .no (c :: cs)
  | avail (hb : b.roundOf = none) (hk : b.kind = .deferred) {c : Frame} {cs : List Frame} {v : AV} {x : Value} (hm : c.mode = .panicking [{ v := x, recovered := false }]) (hv : VR E v x) : RcR E b (.avail v) (c :: cs)
  | used (hb : b.roundOf = none) (hk : b.kind = .deferred) {c : Frame} {cs : List Frame} {x : Value} (hm : c.mode = .panicking [{ v := x, recovered := true }]) : RcR E b .used (c :: cs)
  | bar (cs : List Frame) : RcR E b .bar cs
theorem RcR.mono {E E' : Env} (h : E.le E') {b : Frame} {rc : RC} {cs : List Frame} (k : RcR E b rc cs) : RcR E' b rc cs := by
  cases k with
  | no a c => exact .no a c _
  | ret a c d => exact .ret a c d
  | avail a c d e => exact .avail a c d (e.mono h)
  | used a c d => exact .used a c d
  | bar => exact .bar _
theorem RcR.round {E : Env} {b : Frame} {rc : RC} {cs : List Frame} (h : RcR E b rc cs) (hn : rc ≠ .bar) : b.roundOf = none := by
  cases h with
  | no a c => exact a
  | ret a c d => exact a
  | avail a c d e => exact a
  | used a c d => exact a
  | bar => exact absurd rfl hn
def Mod (b : Frame) (cs cs' : List Frame) : Prop := cs' = cs ∨ (b.kind = .deferred ∧ ∃ c r m, cs = c :: r ∧ cs' = { c with mode := m } :: r)
theorem Mod.refl (b : Frame) (cs : List Frame) : Mod b cs cs := .inl rfl
theorem Mod.trans {b : Frame} {cs cs' cs'' : List Frame} (h : Mod b cs cs') (k : Mod b cs' cs'') : Mod b cs cs'' := by
  rcases h with rfl | ⟨hk, c, r, m, rfl, rfl⟩
  · exact k
  · rcases k with rfl | ⟨_, c', r', m', e, rfl⟩
    · exact .inr ⟨hk, c, r, m, rfl, rfl⟩
    · cases e; exact .inr ⟨hk, c, r, m', rfl, rfl⟩
variable {G : Program} {W0 : World} {cf : Cf}
structure St (G : Program) (W0 : World) (n : Nat) (b : Frame) (tm : PT AV) (ds : List AD) (H : Hp) (rc : RC) (E : Env) (w : World) (arr : Array Value) (dv : List Deferred) (cs : List Frame) : Prop where
  hr : HR G W0 E H.f H.nx.toNat w
  sz : arr.size = n
  tr : TR E tm arr
  ds : DsR E ds dv
  rc : RcR E b rc cs
structure Out (G : Program) (W0 : World) (n : Nat) (b : Frame) (H : Hp) (E : Env) (w : World) (cs : List Frame) (tm' : PT AV) (ds' : List AD) (H' : Hp) (rc' : RC) (E' : Env) (w' : World) (arr' : Array Value) (dv' : List Deferred) (cs' : List Frame) : Prop where
  mv : Mv G W0 E H.f H.nx.toNat w E' H'.f H'.nx.toNat w'
  st : St G W0 n b tm' ds' H' rc' E' w' arr' dv' cs'
  md : Mod b cs cs'
theorem Out.trans {n : Nat} {b : Frame} {H H' H'' : Hp} {E E' E'' : Env} {w w' w'' : World} {cs cs' cs'' : List Frame} {tm' tm'' : PT AV} {ds' ds'' : List AD} {rc' rc'' : RC} {arr' arr'' : Array Value} {dv' dv'' : List Deferred}
    (h : Out G W0 n b H E w cs tm' ds' H' rc' E' w' arr' dv' cs') (k : Out G W0 n b H' E' w' cs' tm'' ds'' H'' rc'' E'' w'' arr'' dv'' cs'') : Out G W0 n b H E w cs tm'' ds'' H'' rc'' E'' w'' arr'' dv'' cs'' :=
  ⟨h.mv.trans k.mv, k.st, h.md.trans k.md⟩
def CodeOk (G : Program) (W0 : World) (n : Nat) (b : Frame) (H : Hp) (E : Env) (w : World) (cs : List Frame) (m : Machine) (k : List Item) : CR → Prop
  | .ok ex tm' ds' H' rc' => ∃ E' w' arr' dv' cs', Out G W0 n b H E w cs tm' ds' H' rc' E' w' arr' dv' cs' ∧ Ends G E' b k arr' dv' cs' w' m ex
  | .err _ => True
theorem CodeOk.then {n : Nat} {b : Frame} {H H' : Hp} {E E' : Env} {w w' : World} {cs cs' : List Frame} {m m' : Machine} {k : List Item} {tm' : PT AV} {ds' : List AD} {rc' : RC} {arr' : Array Value} {dv' : List Deferred} {r : CR}
    (o : Out G W0 n b H E w cs tm' ds' H' rc' E' w' arr' dv' cs') (h : Steps G m m') (h' : CodeOk G W0 n b H' E' w' cs' m' k r) : CodeOk G W0 n b H E w cs m k r := by
  cases r with
  | err => trivial
  | ok ex tm'' ds'' H'' rc'' =>
    obtain ⟨E2, w2, a2, d2, c2, o2, e2⟩ := h'
    exact ⟨E2, w2, a2, d2, c2, o.trans o2, e2.of_steps h⟩
/-- what a call comes to -/
def CallRes (G : Program) (W0 : World) (E : Env) (H : Hp) (w : World) (f : FuncId) (xs : List Value) : KR → Prop
  | .ret v H' => Calls G f xs.toArray w fun e w' => ∃ E' x, e = .returned x ∧ Mv G W0 E H.f H.nx.toNat w E' H'.f H'.nx.toNat w' ∧ VR E' v x
  | .pan v H' => Calls G f xs.toArray w fun e w' => ∃ E' x, e = .panicked [{ v := x, recovered := false }] ∧ Mv G W0 E H.f H.nx.toNat w E' H'.f H'.nx.toNat w' ∧ VR E' v x
  | .err _ => True
def CallOk (G : Program) (W0 : World) (cf : Cf) (call : CallF) : Prop := ∀ f args H E w xs, cf.ok E.σ → HR G W0 E H.f H.nx.toNat w → VRs E args xs → CallRes G W0 E H w f xs (call f args H)
/-- what a round comes to -/
def RndRes (G : Program) (W0 : World) (E : Env) (H : Hp) (w : World) (b : Nat) (xs : List Value) : KR → Prop
  | .ret v H' => ∃ fn tmps assign body, (Instr.yield b xs.toArray).run G w = .ok (.round b fn tmps assign body) w ∧ ∀ (c : Frame) (cs : List Frame), ∃ E' w' x, Mv G W0 E H.f H.nx.toNat w E' H'.f H'.nx.toNat w' ∧ VR E' v x ∧
      Steps G (lone (Frame.round b fn tmps assign body .normal) (c :: cs) w) (lone (c.finish x) cs w')
  | .pan v H' => ∃ fn tmps assign body, (Instr.yield b xs.toArray).run G w = .ok (.round b fn tmps assign body) w ∧ ∀ (c : Frame) (cs : List Frame), ∃ E' w' x, Mv G W0 E H.f H.nx.toNat w E' H'.f H'.nx.toNat w' ∧ VR E' v x ∧
      Steps G (lone (Frame.round b fn tmps assign body .normal) (c :: cs) w) (lone (c.raise [{ v := x, recovered := false }]) cs w')
  | .err _ => True
def RndOk (G : Program) (W0 : World) (cf : Cf) (rnd : RndF) : Prop := ∀ l args H E w xs b c, cf.ok E.σ → HR G W0 E H.f H.nx.toNat w → E.ρ l = some (b, c) → VRs E args xs → RndRes G W0 E H w b xs (rnd l args H)
/-! ### temporaries -/
noncomputable def putF (n : Nat) (d : Option Nat) (tm : PT AV) (v : AV) : Option (PT AV) := match d with
  | none => some tm
  | some t => match Nat.ble (Nat.succ t) n with
    | true => some (PT.put (P.of t) tm (some v))
    | false => none
theorem putT_eq {R : Type} (n : Nat) (d : Option Nat) (tm : PT AV) (v : AV) (K : Option (PT AV) → R) : putT n d tm v K = K (putF n d tm v) := by
  unfold putT putF
  cases d with
  | none => rfl
  | some t =>
    simp only
    split
    · rename_i h; rw [PT.putK_eq]; simp only [h]
    · rename_i h; simp only [h]
theorem putF_ok {E : Env} {n : Nat} {d : Option Nat} {tm tm' : PT AV} {v : AV} {x : Value} {arr : Array Value} (h : putF n d tm v = some tm') (ht : TR E tm arr) (hs : arr.size = n) (hv : VR E v x) : TR E tm' (putA arr d x) := by
  unfold putF at h
  cases d with
  | none => cases h; exact ht
  | some t =>
    simp only at h
    split at h
    · rename_i hl
      cases h
      exact ht.set (by have := Nat.le_of_ble_eq_true hl; omega) hv
    · cases h
theorem wantO_ok {E : Env} {ops : Array Oper} {o : Oper} {tm : PT AV} {arr : Array Value} {r : Bool} (ht : TR E tm arr) (h : wantO ops.toList o tm = some r) : Region.wanted o (yielded ops arr) = r := by
  unfold wantO at h
  unfold Region.wanted
  split at h
  · rename_i hg; cases h; rw [hg]
  · rename_i j want hg
    rw [hg]
    simp only
    split at h
    · rename_i oj hj
      rw [nthL_eq] at hj
      have hj' : ops[j]? = some oj := by simpa using hj
      split at h
      · rename_i t hdst
        split at h
        · rename_i bl hb
          cases h
          obtain ⟨x, hx, hv⟩ := ht t _ hb
          cases hv
          have : yielded ops arr j = some bl := by simp [yielded, hj', hdst, hx]
          rw [this]
          cases bl <;> cases want <;> rfl
        · rename_i l hb
          cases h
          obtain ⟨x, hx, hv⟩ := ht t _ hb
          cases hv
          have : yielded ops arr j = none := by simp [yielded, hj', hdst, hx]
          rw [this]; rfl
        · cases h
      · rename_i hdst
        cases h
        have : yielded ops arr j = none := by simp [yielded, hj', hdst]
        rw [this]; rfl
    · rename_i hj
      cases h
      rw [nthL_eq] at hj
      have hj' : ops[j]? = none := by simpa using hj
      have : yielded ops arr j = none := by simp [yielded, hj']
      rw [this]; rfl
theorem opK_defer {o : Oper} {c : Call} {ev : Operand → Option AV} {H : Hp} (h : o.op = .defer c) : (∃ f a cap, opK G cf o ev H = .defer f a cap) ∨ ∃ n, opK G cf o ev H = .err n := by
  unfold opK
  rw [h]
  simp only
  split
  · split
    · exact .inl ⟨_, _, _, rfl⟩
    · exact .inr ⟨_, rfl⟩
  · exact .inr ⟨_, rfl⟩
theorem vr_undef (E : Env) : VR E (.tup []) undef := .tup .nil
end Go.Ai
