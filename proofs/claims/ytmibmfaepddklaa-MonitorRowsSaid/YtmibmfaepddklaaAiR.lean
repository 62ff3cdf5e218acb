/- Code, frames, calls: sound, if regions of open order are. -/
import Derived.Test.YtmibmfaepddklaaAiQ
import Derived.Laws.Sem
namespace Go.Ai
open Go Go.RowKit
set_option linter.unusedVariables false
variable {G : Program} {W0 : World} {cf : Cf}
def DrawOk (G : Program) (W0 : World) (cf : Cf) (call : CallF) : Prop :=
  ∀ (n : Nat) (b : Frame) (id : Nat) (ops : Array Oper) (tm : PT AV) (ds : List AD) (H : Hp) (rc : RC) (E : Env) (w : World) (arr : Array Value) (dv : List Deferred) (cs : List Frame) (k : List Item),
    cf.ok E.σ → St G W0 n b tm ds H rc E w arr dv cs → regStatic ops.toList (ancs ops.toList []) = true →
    CodeOk G W0 n b H E w cs (lone (Fr b arr (.code (.region id ops true) :: k) dv) cs w) k (drawK G cf call n ops.toList (ancs ops.toList []) tm ds H rc)
theorem CodeOk.steps {n : Nat} {b : Frame} {H : Hp} {E : Env} {w : World} {cs : List Frame} {m m' : Machine} {k : List Item} {r : CR} (h : Steps G m m') (h' : CodeOk G W0 n b H E w cs m' k r) : CodeOk G W0 n b H E w cs m k r := by
  cases r with
  | err => trivial
  | ok ex tm'' ds'' H'' rc'' =>
    obtain ⟨E2, w2, a2, d2, c2, o2, e2⟩ := h'
    exact ⟨E2, w2, a2, d2, c2, o2, e2.of_steps h⟩
theorem Ends.pass {E : Env} {b : Frame} {x : Item} {k : List Item} {arr : Array Value} {ds : List Deferred} {cs : List Frame} {w : World} {m : Machine} {ex : Ex} (hn : ex ≠ .normal) (he : ∀ id, ex = .exit id → exitTo id (x :: k) = exitTo id k)
    (h : Ends G E b (x :: k) arr ds cs w m ex) : Ends G E b k arr ds cs w m ex := by
  cases ex with
  | normal => exact absurd rfl hn
  | exit id =>
    obtain ⟨j, e, s⟩ := h
    refine ⟨j ++ [x], ?_, ?_⟩
    · rw [List.append_assoc]; exact e.trans (he id rfl)
    · rw [List.append_assoc]; exact s
  | ret => exact h
  | pan v => exact h
/-- what comes behind a piece of code -/
theorem CodeOk.seq {n : Nat} {b : Frame} {H : Hp} {E : Env} {w : World} {cs : List Frame} {m : Machine} {x : Item} {k : List Item} {r : CR} {F : PT AV → List AD → Hp → RC → CR} (hx : ∀ id, exitTo id (x :: k) = exitTo id k)
    (hcf : cf.ok E.σ) (h : CodeOk G W0 n b H E w cs m (x :: k) r)
    (next : ∀ tm ds H' rc E' w' arr dv cs', cf.ok E'.σ → St G W0 n b tm ds H' rc E' w' arr dv cs' → CodeOk G W0 n b H' E' w' cs' (lone (Fr b arr (x :: k) dv) cs' w') k (F tm ds H' rc)) :
    CodeOk G W0 n b H E w cs m k (match r with | .ok .normal tm ds H rc => F tm ds H rc | r => r) := by
  cases r with
  | err => trivial
  | ok ex tm' ds' H' rc' =>
    obtain ⟨E', w', arr', dv', cs', o, e⟩ := h
    cases ex with
    | normal => exact CodeOk.then o e (next _ _ _ _ _ _ _ _ _ (by rw [o.mv.le.1]; exact hcf) o.st)
    | exit id => exact ⟨E', w', arr', dv', cs', o, e.pass (by simp) (fun _ _ => hx _)⟩
    | ret => exact ⟨E', w', arr', dv', cs', o, e.pass (by simp) (fun _ _ => hx _)⟩
    | pan v => exact ⟨E', w', arr', dv', cs', o, e.pass (by simp) (fun _ _ => hx _)⟩
theorem codeK_succ (call : CallF) (n fuel : Nat) (c : Code) (tm : PT AV) (ds : List AD) (H : Hp) (rc : RC) : codeK G cf call n (fuel + 1) c tm ds H rc = match c with
    | .skip => .ok .normal tm ds H rc
    | .region _ ops draw => regionK G cf call n ops.toList draw tm ds H rc
    | .seq a b => match codeK G cf call n fuel a tm ds H rc with
      | .ok .normal tm ds H rc => codeK G cf call n fuel b tm ds H rc
      | r => r
    | .cond c a b => match evO tm c with
      | some (.bool true) => codeK G cf call n fuel a tm ds H rc
      | some (.bool false) => codeK G cf call n fuel b tm ds H rc
      | _ => .err 81
    | .block id c => match codeK G cf call n fuel c tm ds H rc with
      | .ok (.exit j) tm ds H rc => match Nat.beq j id with
        | true => .ok .normal tm ds H rc
        | false => .ok (.exit j) tm ds H rc
      | r => r
    | .loop c => match codeK G cf call n fuel c tm ds H rc with
      | .ok .normal tm ds H rc => codeK G cf call n fuel (.loop c) tm ds H rc
      | r => r
    | .exit id => .ok (.exit id) tm ds H rc
    | .ret => .ok .ret tm ds H rc
    | _ => .err 82 := rfl
theorem codeK_ok {call : CallF} (hcall : CallOk G W0 cf call) (hdraw : DrawOk G W0 cf call) {n : Nat} {b : Frame} : ∀ (fuel : Nat) (c : Code) (tm : PT AV) (ds : List AD) (H : Hp) (rc : RC) (E : Env) (w : World) (arr : Array Value) (dv : List Deferred) (cs : List Frame) (k : List Item),
    cf.ok E.σ → St G W0 n b tm ds H rc E w arr dv cs →
    CodeOk G W0 n b H E w cs (lone (Fr b arr (.code c :: k) dv) cs w) k (codeK G cf call n fuel c tm ds H rc) ∧
    CodeOk G W0 n b H E w cs (lone (Fr b arr (.code c :: .inLoop c :: k) dv) cs w) k (codeK G cf call n fuel (.loop c) tm ds H rc) := by
  intro fuel
  induction fuel with
  | zero => intros; exact ⟨trivial, trivial⟩
  | succ fuel ih =>
    have loop : ∀ (c : Code) (tm : PT AV) (ds : List AD) (H : Hp) (rc : RC) (E : Env) (w : World) (arr : Array Value) (dv : List Deferred) (cs : List Frame) (k : List Item),
        cf.ok E.σ → St G W0 n b tm ds H rc E w arr dv cs →
        CodeOk G W0 n b H E w cs (lone (Fr b arr (.code c :: .inLoop c :: k) dv) cs w) k (codeK G cf call n (fuel + 1) (.loop c) tm ds H rc) := by
      intro c tm ds H rc E w arr dv cs k hcf st
      rw [codeK_succ]
      exact CodeOk.seq (cf := cf) (fun _ => rfl) hcf ((ih c tm ds H rc E w arr dv cs (.inLoop c :: k) hcf st).1)
        (fun tm ds H' rc E' w' arr dv cs' hcf' st' => CodeOk.steps (.one st_inLoop) (ih c tm ds H' rc E' w' arr dv cs' k hcf' st').2)
    intro c tm ds H rc E w arr dv cs k hcf st
    refine ⟨?_, loop c tm ds H rc E w arr dv cs k hcf st⟩
    cases c with
    | skip => rw [codeK_succ]; exact ⟨E, w, arr, dv, cs, ⟨Mv.refl st.hr, st, .refl _ _⟩, .one st_skip⟩
    | region id ops draw =>
      rw [codeK_succ]
      cases draw with
      | false =>
        have := regK_ok hcall (ops := ops) ops.toList 0 (by simp) tm ds H rc E w arr dv cs k hcf st
        refine CodeOk.steps (.one ?_) this
        have hs := st_region (P := G) (b := b) (arr := arr) (ds := dv) (k := k) (cs := cs) (w := w) (ops := ops) (id := id)
        rw [List.range_eq_range'] at hs
        simpa using hs
      | true =>
        simp only [regionK]
        split
        · rename_i hs
          exact hdraw n b id ops tm ds H rc E w arr dv cs k hcf st hs
        · trivial
    | seq x y =>
      rw [codeK_succ]
      exact CodeOk.steps (.one st_seq) (CodeOk.seq (cf := cf) (fun _ => rfl) hcf ((ih x tm ds H rc E w arr dv cs (.code y :: k) hcf st).1)
        (fun tm ds H' rc E' w' arr dv cs' hcf' st' => (ih y tm ds H' rc E' w' arr dv cs' k hcf' st').1))
    | cond c x y =>
      rw [codeK_succ]
      have hev := evO_ok (a := ⟨arr, dv⟩) st.tr
      simp only
      split
      · rename_i hc
        have hb := hev c _ hc
        have hb' : Act.eval ⟨arr, dv⟩ c = .bool true := by cases hb' : Act.eval ⟨arr, dv⟩ c <;> rw [hb'] at hb <;> cases hb <;> rfl
        exact CodeOk.steps (.one (st_cond (t := true) hb')) (ih x tm ds H rc E w arr dv cs k hcf st).1
      · rename_i hc
        have hb := hev c _ hc
        have hb' : Act.eval ⟨arr, dv⟩ c = .bool false := by cases hb' : Act.eval ⟨arr, dv⟩ c <;> rw [hb'] at hb <;> cases hb <;> rfl
        exact CodeOk.steps (.one (st_cond (t := false) hb')) (ih y tm ds H rc E w arr dv cs k hcf st).1
      · trivial
    | block id c =>
      rw [codeK_succ]
      refine CodeOk.steps (.one st_block) ?_
      have h := (ih c tm ds H rc E w arr dv cs (.inBlock id :: k) hcf st).1
      simp only
      generalize codeK G cf call n fuel c tm ds H rc = r at h
      cases r with
      | err => trivial
      | ok ex tm' ds' H' rc' =>
        obtain ⟨E', w', arr', dv', cs', o, e⟩ := h
        cases ex with
        | normal => exact ⟨E', w', arr', dv', cs', o, Steps.trans e (.one st_inBlock)⟩
        | ret => exact ⟨E', w', arr', dv', cs', o, e.pass (by simp) (fun _ h => by cases h)⟩
        | pan v => exact ⟨E', w', arr', dv', cs', o, e.pass (by simp) (fun _ h => by cases h)⟩
        | exit j =>
          simp only
          cases hj : Nat.beq j id with
          | true =>
            have hj := Nat.eq_of_beq_eq_true hj
            subst hj
            obtain ⟨l, e1, s⟩ := e
            refine ⟨E', w', arr', dv', cs', o, Steps.trans s (.one (st_exit ?_))⟩
            rw [e1]; simp [exitTo]
          | false =>
            have hj := Nat.ne_of_beq_eq_false hj
            refine ⟨E', w', arr', dv', cs', o, e.pass (by simp) (fun i hi => ?_)⟩
            cases hi
            have : (id == j) = false := by simp; exact fun h => hj h.symm
            simp [exitTo, this]
    | loop c =>
      exact CodeOk.steps (.one st_loop) (loop c tm ds H rc E w arr dv cs k hcf st)
    | exit id => rw [codeK_succ]; exact ⟨E, w, arr, dv, cs, ⟨Mv.refl st.hr, st, .refl _ _⟩, [], rfl, .refl _ _⟩
    | ret => rw [codeK_succ]; exact ⟨E, w, arr, dv, cs, ⟨Mv.refl st.hr, st, .refl _ _⟩, k, .refl _ _⟩
    | scope c => trivial
    | goto l => trivial
    | label l => trivial
    | rangeFunc f ps a c => trivial
    | refuse s => trivial
/-! ### frames -/
theorem argsT_ok {E : Env} : ∀ (args : List AV) (xs : List Value) (i : Nat) (t : PT AV) (arr : Array Value), VRs E args xs → TR E t arr → (∀ j, j < xs.length → arr[i + j]? = xs[j]?) → TR E (argsT args i t) arr := by
  intro args
  induction args with
  | nil => intro xs i t arr _ ht _; exact ht
  | cons a args ih =>
    intro xs i t arr h ht hx
    cases h with
    | cons hv hs =>
      rename_i v vs
      refine ih vs (i + 1) _ arr hs ?_ (fun j hj => ?_)
      · intro q u e
        by_cases hq : i = q
        · subst hq
          rw [PT.get_put_same] at e
          cases e
          have := hx 0 (by simp)
          exact ⟨v, by simpa using this, hv⟩
        · rw [PT.get_put_other (fun e => hq (P.of_inj e))] at e
          exact ht q u e
      · have := hx (j + 1) (by simp; exact hj)
        rw [show i + 1 + j = i + (j + 1) by omega]
        simpa using this
theorem mapM_run {α β : Type} {f : α → Sem β} {g : α → Option AV} {h : β → Value} {E : Env} {w : World} (hf : ∀ a v, g a = some v → ∃ x, (f a).run G w = .ok x w ∧ VR E v (h x)) : ∀ (l : List α) {vs : List AV}, mapO g l = some vs → ∃ xs, (l.mapM f).run G w = .ok xs w ∧ VRs E vs (xs.map h)
  | [], vs, e => by cases e; exact ⟨[], rfl, .nil⟩
  | a :: l, vs, e => by
    obtain ⟨v, vs', h1, h2, rfl⟩ := mapO_cons _ _ _ e
    obtain ⟨x, hx, hv⟩ := hf a v h1
    obtain ⟨xs, hxs, hvs⟩ := mapM_run hf l h2
    exact ⟨x :: xs, by simp [List.mapM_cons, hx, hxs], .cons hv hvs⟩
theorem resultsO_ok {E : Env} {H : Hp} {w : World} (hr : HR G W0 E H.f H.nx.toNat w) {fn : Func} {tm : PT AV} {arr : Array Value} (ht : TR E tm arr) {v : AV} (h : resultsO G fn tm H = some v) : ∃ x, (results fn arr).run G w = .ok x w ∧ VR E v x := by
  have key : ∀ (a : ResultVar) (u : AV), resO G tm H a = some u → ∃ x, (match a with | .tmp t => pure (arr.getD t undef) | .cell a t => do loadVar t (← asAddr (arr.getD a undef)) : Sem Value).run G w = .ok x w ∧ VR E u x := by
    intro a u e
    cases a with
    | tmp t =>
      obtain ⟨x, hx, hv⟩ := ht t u e
      have : arr.getD t undef = x := by simp [Array.getD_eq_getD_getElem?, hx]
      exact ⟨x, by simp [this], hv⟩
    | cell a t =>
      simp only [resO] at e
      split at e
      · rename_i p hp
        obtain ⟨y, hy, hv⟩ := ht a p hp
        have hg : arr.getD a undef = y := by simp [Array.getD_eq_getD_getElem?, hy]
        obtain ⟨x, hx, hxv⟩ := loadO_ok (tab := H.tab) hr hv e
        refine ⟨x, ?_, hxv⟩
        simp only [hg]
        unfold loadO at e
        split at e
        · cases hv with
          | ptr hρ =>
            rw [← hx]
            simp [Instr.loadAt, Instr.sureAddr, asAddr]
        · cases e
      · cases e
  unfold resultsO at h
  have run : ∀ vs, mapO (resO G tm H) fn.results.toList = some vs → ∃ xs : List Value, (results fn arr).run G w = .ok (if h : xs.length = 1 then xs[0] else .tuple xs.toArray) w ∧ VRs E vs xs := by
    intro vs e
    obtain ⟨xs, hxs, hv⟩ := mapM_run (h := id) key _ e
    rw [List.map_id] at hv
    refine ⟨xs, ?_, hv⟩
    unfold results
    rw [Array.mapM_eq_mapM_toList]
    simp only [Sem.run_bind, Sem.run_map]
    erw [hxs]
    simp
  split at h
  · rename_i u hu
    cases h
    obtain ⟨xs, hxs, hv⟩ := run _ hu
    cases hv with
    | cons hv hn =>
      cases hn
      exact ⟨_, hxs, by simpa using hv⟩
  · rename_i vs hne hu
    cases h
    obtain ⟨xs, hxs, hv⟩ := run _ hu
    refine ⟨_, hxs, ?_⟩
    have hl := hv.length
    have : ¬ xs.length = 1 := by
      intro h1
      rw [h1] at hl
      match vs, hl with
      | [u], _ => exact hne u rfl
    rw [dif_neg this]
    exact .tup hv
  · cases h
/-! ### leaving a frame -/
inductive MdR (E : Env) : Md → FrameMode → Prop
  | ret : MdR E .ret .returning
  | pan {v : AV} {x : Value} (h : VR E v x) : MdR E (.pan v) (.panicking [{ v := x, recovered := false }])
def LeaveRes (G : Program) (W0 : World) (E : Env) (H : Hp) (w : World) (f : FuncId) (m : Machine) (cs : List Frame) : KR → Prop
  | .ret v H' => ∃ E' x fr w', Mv G W0 E H.f H.nx.toNat w E' H'.f H'.nx.toNat w' ∧ VR E' v x ∧ Steps G m (lone fr cs w') ∧ fr.fn = f ∧ fr.leaving G w' (.returned x)
  | .pan v H' => ∃ E' x fr w', Mv G W0 E H.f H.nx.toNat w E' H'.f H'.nx.toNat w' ∧ VR E' v x ∧ Steps G m (lone fr cs w') ∧ fr.fn = f ∧ fr.leaving G w' (.panicked [{ v := x, recovered := false }])
  | .err _ => True
theorem LeaveRes.then {E E' : Env} {H H' : Hp} {w w' : World} {f : FuncId} {m m' : Machine} {cs : List Frame} {r : KR} (mv : Mv G W0 E H.f H.nx.toNat w E' H'.f H'.nx.toNat w') (h : Steps G m m') (k : LeaveRes G W0 E' H' w' f m' cs r) : LeaveRes G W0 E H w f m cs r := by
  cases r with
  | err => trivial
  | ret v H2 => obtain ⟨E2, x, fr, w2, a, b, c, d⟩ := k; exact ⟨E2, x, fr, w2, mv.trans a, b, h.trans c, d⟩
  | pan v H2 => obtain ⟨E2, x, fr, w2, a, b, c, d⟩ := k; exact ⟨E2, x, fr, w2, mv.trans a, b, h.trans c, d⟩
theorem enter_eq {f : FuncId} {fn : Func} {c : Code} {xs : List Value} {kd : CallKind} (hf : G.funcs[f]? = some fn) (hb : fn.body = some c) :
    Frame.enter G f xs.toArray kd = Fr { (default : Frame) with fn := f, kind := kd } (xs.toArray ++ Array.replicate (fn.ntmps - xs.length) undef) [.code c] [] := by
  simp [Frame.enter, Fr, hf, hb]
  rfl
theorem st_args {E : Env} {H : Hp} {w : World} {n : Nat} {args : List AV} {xs : List Value} (hr : HR G W0 E H.f H.nx.toNat w) (hx : VRs E args xs) (hl : lenL args ≤ n) {b : Frame} {rc : RC} {cs : List Frame} (hrc : RcR E b rc cs) :
    St G W0 n b (argsT args 0 .e) [] H rc E w (xs.toArray ++ Array.replicate (n - xs.length) undef) [] cs := by
  rw [lenL_eq, hx.length] at hl
  refine ⟨hr, by simp; omega, argsT_ok args xs 0 .e _ hx (fun i v e => by rw [PT.get_e] at e; cases e) (fun j hj => ?_), .nil, hrc⟩
  simp [Array.getElem?_append, hj]
def rcOf : Md → RC
  | .ret => .no
  | .pan v => .avail v
theorem leaveK_cons (call : CallF) (fuel : Nat) (fn : Func) (tm : PT AV) (f : FuncId) (args cap : List AV) (ds : List AD) (md : Md) (H : Hp) : leaveK G cf call fuel fn tm (.call f args cap :: ds) md H = match hasBody G f with
      | true => match dcallK G cf call fuel f (args ++ cap) H (rcOf md) with
        | some (H, .used) => leaveK G cf call fuel fn tm ds .ret H
        | some (H, .no) => leaveK G cf call fuel fn tm ds .ret H
        | some (H, .avail v) => leaveK G cf call fuel fn tm ds (.pan v) H
        | _ => .err 91
      | false => .err 92 := by cases md <;> rfl
theorem dcallK_ok {call : CallF} (hcall : CallOk G W0 cf call) (hdraw : DrawOk G W0 cf call) {fuel : Nat} {f : FuncId} {args : List AV} {H H' : Hp} {rc rc' : RC} (h : dcallK G cf call fuel f args H rc = some (H', rc')) {E : Env} {w : World} {xs : List Value} {c : Frame} {cs : List Frame}
    (hcf : cf.ok E.σ) (hr : HR G W0 E H.f H.nx.toNat w) (hx : VRs E args xs) (hrc : RcR E { (default : Frame) with fn := f, kind := .deferred } rc (c :: cs)) (hbar : rc' ≠ .bar) :
    ∃ E' w' fr' m', Mv G W0 E H.f H.nx.toNat w E' H'.f H'.nx.toNat w' ∧ RcR E' { (default : Frame) with fn := f, kind := .deferred } rc' ({ c with mode := m' } :: cs) ∧
      Steps G (lone (Frame.enter G f xs.toArray .deferred) (c :: cs) w) (lone fr' ({ c with mode := m' } :: cs) w') ∧ fr'.kind = .deferred ∧ ∃ v, fr'.going G w' (.returned v) := by
  unfold dcallK at h
  split at h
  · rename_i fn hf
    split at h
    · rename_i body hb
      split at h
      · rename_i hl
        have hl := Nat.le_of_ble_eq_true hl
        have st := st_args (n := fn.ntmps) (b := { (default : Frame) with fn := f, kind := .deferred }) hr hx hl hrc
        have hk := (codeK_ok hcall hdraw fuel body _ [] H rc E w _ [] (c :: cs) [] hcf st).1
        rw [← enter_eq hf hb] at hk
        have modes : ∀ {cs'}, Mod { (default : Frame) with fn := f, kind := .deferred } (c :: cs) cs' → ∃ m', cs' = { c with mode := m' } :: cs := by
          intro cs' hm
          rcases hm with rfl | ⟨_, c0, r, m, e, rfl⟩
          · exact ⟨c.mode, rfl⟩
          · cases e; exact ⟨m, rfl⟩
        split at h
        · rename_i tm H2 rc2 hcode
          split at h
          · rename_i v hv
            cases h
            rw [hcode] at hk
            obtain ⟨E', w', arr', dv', cs', o, e⟩ := hk
            obtain ⟨m', rfl⟩ := modes o.md
            obtain ⟨x, hx, _⟩ := resultsO_ok o.st.hr o.st.tr hv
            cases o.st.ds
            exact ⟨E', w', _, m', o.mv, o.st.rc, Steps.trans e (.one (st_end rfl)), rfl, x, rfl, rfl, fn, hf, hx⟩
          · cases h
        · rename_i tm H2 rc2 hcode
          split at h
          · rename_i v hv
            cases h
            rw [hcode] at hk
            obtain ⟨E', w', arr', dv', cs', o, j, e⟩ := hk
            obtain ⟨m', rfl⟩ := modes o.md
            obtain ⟨x, hx, _⟩ := resultsO_ok o.st.hr o.st.tr hv
            cases o.st.ds
            exact ⟨E', w', _, m', o.mv, o.st.rc, Steps.trans e (.one (st_ret rfl)), rfl, x, rfl, rfl, fn, hf, hx⟩
          · cases h
        · cases h
      · cases h
    · cases h
  · cases h
theorem leaveK_ok {call : CallF} (hcall : CallOk G W0 cf call) (hdraw : DrawOk G W0 cf call) {fuel : Nat} {fn : Func} : ∀ (ds : List AD) (md : Md) (tm : PT AV) (H : Hp) (E : Env) (w : World) (fr : Frame) (dv : List Deferred) (cs : List Frame),
    cf.ok E.σ → HR G W0 E H.f H.nx.toNat w → TR E tm fr.tmps → DsR E ds dv → MdR E md fr.mode → fr.defers = dv → G.funcs[fr.fn]? = some fn → fr.kind = .normal →
    LeaveRes G W0 E H w fr.fn (lone fr cs w) cs (leaveK G cf call fuel fn tm ds md H) := by
  intro ds
  induction ds with
  | nil =>
    intro md tm H E w fr dv cs hcf hr ht hds hm hd hf hk
    cases hds
    cases md with
    | ret =>
      show LeaveRes G W0 E H w fr.fn (lone fr cs w) cs (match resultsO G fn tm H with | some v => .ret v H | none => .err 90)
      split
      · rename_i v hv
        obtain ⟨x, hx, hvx⟩ := resultsO_ok hr ht hv
        refine ⟨E, x, fr, w, Mv.refl hr, hvx, .refl _ _, rfl, ?_, hd, hk, fn, hf, hx⟩
        generalize fr.mode = m at hm
        cases hm; rfl
      · trivial
    | pan v =>
      generalize hmm : fr.mode = m at hm
      cases hm with
      | pan hv => exact ⟨E, _, fr, w, Mv.refl hr, hv, .refl _ _, rfl, hmm, hd, fn, hf⟩
  | cons d ds ih =>
    intro md tm H E w fr dv cs hcf hr ht hds hm hd hf hk
    cases d with
    | mark l => trivial
    | call f args cap =>
    cases hds with
    | call h1 h2 hds =>
    rename_i xs ys dv
    rw [leaveK_cons]
    cases hbd : hasBody G f with
    | false => trivial
    | true =>
    simp only
    have hrun : fr.mode ≠ .run := by generalize fr.mode = m at hm; cases hm <;> simp
    have hinv : (invoke (.fn (.func f) ys.toArray) xs.toArray).run G w = .ok (.enter f (xs ++ ys).toArray) w := by
      simp only [invoke]
      rw [hasBody_run hbd]
      congr 2
      simp
    have h1' := step_defer (P := G) (cs := cs) hrun hd rfl hinv
    have hrc : RcR E { (default : Frame) with fn := f, kind := .deferred } (rcOf md) ({ fr with defers := dv } :: cs) := by
      generalize hmm : fr.mode = m at hm
      cases hm with
      | ret => exact .ret rfl rfl rfl
      | pan hv => exact .avail rfl rfl rfl hv
    have next : ∀ {H' rc'}, dcallK G cf call fuel f (args ++ cap) H (rcOf md) = some (H', rc') → rc' ≠ .bar → ∃ E' w' m', Mv G W0 E H.f H.nx.toNat w E' H'.f H'.nx.toNat w' ∧ RcR E' { (default : Frame) with fn := f, kind := .deferred } rc' ({ fr with defers := dv, mode := m' } :: cs) ∧
        Steps G (lone fr cs w) (lone { fr with defers := dv, mode := settle m' } cs w') := by
      intro H' rc' e hne
      obtain ⟨E', w', fr', m', mv, hrc', hs, hk', v, hg⟩ := dcallK_ok hcall hdraw e hcf hr (h1.append h2) hrc hne
      exact ⟨E', w', m', mv, hrc', .head h1' (hs.trans (.one (step_going_returned (c := { fr with defers := dv, mode := m' }) hk' hg)))⟩
    split
    · rename_i r H' hr'
      obtain ⟨E', w', m', mv, hrc', hs⟩ := next hr' (by simp)
      refine LeaveRes.then mv hs (ih .ret tm H' E' w' { fr with defers := dv, mode := settle m' } dv cs (by rw [mv.le.1]; exact hcf) mv.hr (ht.mono mv.le) (hds.mono mv.le) ?_ rfl hf hk)
      cases hrc' with
      | used _ _ hm => 
        have hm : m' = _ := hm
        subst hm; exact .ret
    · rename_i r H' hr'
      obtain ⟨E', w', m', mv, hrc', hs⟩ := next hr' (by simp)
      refine LeaveRes.then mv hs (ih .ret tm H' E' w' { fr with defers := dv, mode := settle m' } dv cs (by rw [mv.le.1]; exact hcf) mv.hr (ht.mono mv.le) (hds.mono mv.le) ?_ rfl hf hk)
      cases hrc' with
      | no _ hk => cases hk
      | ret _ _ hm => 
        have hm : m' = _ := hm
        subst hm; exact .ret
    · rename_i r H' v hr'
      obtain ⟨E', w', m', mv, hrc', hs⟩ := next hr' (by simp)
      refine LeaveRes.then mv hs (ih (.pan v) tm H' E' w' { fr with defers := dv, mode := settle m' } dv cs (by rw [mv.le.1]; exact hcf) mv.hr (ht.mono mv.le) (hds.mono mv.le) ?_ rfl hf hk)
      cases hrc' with
      | avail _ _ hm hv => 
        have hm : m' = _ := hm
        subst hm; exact .pan hv
    · trivial
theorem LeaveRes.calls {E : Env} {H : Hp} {w : World} {f : FuncId} {xs : List Value} {r : KR} (h : ∀ cs, LeaveRes G W0 E H w f (lone (Frame.enter G f xs.toArray .normal) cs w) cs r) : CallRes G W0 E H w f xs r := by
  cases r with
  | err => trivial
  | ret v H' =>
    intro cs
    obtain ⟨E', x, fr, w', mv, hv, hs, hf, hl⟩ := h cs
    exact ⟨.returned x, w', fr, ⟨E', x, rfl, mv, hv⟩, hs, hf, hl⟩
  | pan v H' =>
    intro cs
    obtain ⟨E', x, fr, w', mv, hv, hs, hf, hl⟩ := h cs
    exact ⟨.panicked _, w', fr, ⟨E', x, rfl, mv, hv⟩, hs, hf, hl⟩
theorem frameK_ok {call : CallF} (hcall : CallOk G W0 cf call) (hdraw : DrawOk G W0 cf call) (fuel : Nat) : CallOk G W0 cf (frameK G cf call fuel) := by
  intro f args H E w xs hcf hr hx
  refine LeaveRes.calls fun cs => ?_
  unfold frameK
  split
  · rename_i fn hf
    split
    · rename_i body hb
      split
      · rename_i hl
        have hl := Nat.le_of_ble_eq_true hl
        have st := st_args (n := fn.ntmps) (b := { (default : Frame) with fn := f, kind := .normal }) (rc := .no) (cs := cs) hr hx hl (.no rfl rfl cs)
        have hk := (codeK_ok hcall hdraw fuel body _ [] H .no E w _ [] cs [] hcf st).1
        rw [← enter_eq hf hb] at hk
        have same : ∀ {cs'}, Mod { (default : Frame) with fn := f, kind := .normal } cs cs' → cs' = cs := by
          intro cs' hm
          rcases hm with rfl | ⟨e, _⟩
          · rfl
          · cases e
        split
        · rename_i tm ds H2 rc2 hcode
          rw [hcode] at hk
          obtain ⟨E', w', arr', dv', cs', o, e⟩ := hk
          have := same o.md
          subst this
          exact LeaveRes.then o.mv (Steps.trans e (.one (st_end rfl))) (leaveK_ok hcall hdraw ds .ret tm H2 E' w' _ dv' cs' (by rw [o.mv.le.1]; exact hcf) o.st.hr o.st.tr o.st.ds .ret rfl hf rfl)
        · rename_i tm ds H2 rc2 hcode
          rw [hcode] at hk
          obtain ⟨E', w', arr', dv', cs', o, j, e⟩ := hk
          have := same o.md
          subst this
          exact LeaveRes.then o.mv (Steps.trans e (.one (st_ret rfl))) (leaveK_ok hcall hdraw ds .ret tm H2 E' w' _ dv' cs' (by rw [o.mv.le.1]; exact hcf) o.st.hr o.st.tr o.st.ds .ret rfl hf rfl)
        · rename_i v tm ds H2 rc2 hcode
          rw [hcode] at hk
          obtain ⟨E', w', arr', dv', cs', o, x, j, hv, e⟩ := hk
          have := same o.md
          subst this
          exact LeaveRes.then o.mv e (leaveK_ok hcall hdraw ds (.pan v) tm H2 E' w' _ dv' cs' (by rw [o.mv.le.1]; exact hcf) o.st.hr o.st.tr o.st.ds (.pan hv) rfl hf rfl)
        · trivial
        · trivial
      · trivial
    · trivial
  · trivial
theorem callN_ok (hdraw : ∀ call, CallOk G W0 cf call → DrawOk G W0 cf call) (fuel : Nat) : ∀ d, CallOk G W0 cf (callN G cf fuel d)
  | 0 => fun _ _ _ _ _ _ _ _ _ => trivial
  | d + 1 => frameK_ok (callN_ok hdraw fuel d) (hdraw _ (callN_ok hdraw fuel d)) fuel
end Go.Ai
