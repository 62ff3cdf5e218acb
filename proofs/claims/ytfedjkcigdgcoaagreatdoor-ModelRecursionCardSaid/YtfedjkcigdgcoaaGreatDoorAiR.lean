/- Code, frames, calls: sound, if regions of open order are. -/
import Derived.Test.YtfedjkcigdgcoaaGreatDoorAiQ
import Derived.Laws.Sem
namespace Go.Ai
open Go Go.RowKit
set_option linter.unusedVariables false
variable {G : Program} {W0 : World} {cf : Cf}
def DrawOk (G : Program) (W0 : World) (cf : Cf) (call : CallF) : Prop :=
  ∀ (n : Nat) (b : Frame) (id : Nat) (ops : Array Oper) (tm : PT AV) (ds : List AD) (H : Hp) (rc : RC) (E : Env) (w : World) (arr : Array Value) (dv : List Deferred) (cs : List Frame) (k : List Item),
    cf.ok E.σ → St G W0 n b tm ds H rc E w arr dv cs → regStatic ops.toList (ancs ops.toList []) = true →
    CodeOk G W0 n b H E w cs (lone (Fr b arr (.code (.region id ops true) :: k) dv) cs w) k (drawK G cf call n ops.toList (ancs ops.toList []) tm ds H rc)
theorem CodeOk.steps {n : Nat} {b : Frame} {H : Hp} {E : Env} {w : World} {cs : List Frame} {m m' : Machine} {k : List Item} {r : CR} (h : Steps G m m') (h' : CodeOk G W0 n b H E w cs m' k r) : CodeOk G W0 n b H E w cs m k r := by
  cases r with
  | err => trivial
  | ok ex tm'' ds'' H'' rc'' =>
    obtain ⟨E2, w2, a2, d2, c2, o2, e2⟩ := h'
    exact ⟨E2, w2, a2, d2, c2, o2, e2.of_steps h⟩
theorem Ends.pass {E : Env} {b : Frame} {x : Item} {k : List Item} {arr : Array Value} {ds : List Deferred} {cs : List Frame} {w : World} {m : Machine} {ex : Ex} (hn : ex ≠ .normal) (he : ∀ id, ex = .exit id → exitTo id (x :: k) = exitTo id k)
    (h : Ends G E b (x :: k) arr ds cs w m ex) : Ends G E b k arr ds cs w m ex := by
  cases ex with
  | normal => exact absurd rfl hn
  | exit id =>
    obtain ⟨j, e, s⟩ := h
    refine ⟨j ++ [x], ?_, ?_⟩
    · rw [List.append_assoc]; exact e.trans (he id rfl)
    · rw [List.append_assoc]; exact s
  | ret => exact h
  | pan v => exact h
/-- what comes behind a piece of code -/
theorem CodeOk.seq {n : Nat} {b : Frame} {H : Hp} {E : Env} {w : World} {cs : List Frame} {m : Machine} {x : Item} {k : List Item} {r : CR} {F : PT AV → List AD → Hp → RC → CR} (hx : ∀ id, exitTo id (x :: k) = exitTo id k)
    (hcf : cf.ok E.σ) (h : CodeOk G W0 n b H E w cs m (x :: k) r)
    (next : ∀ tm ds H' rc E' w' arr dv cs', cf.ok E'.σ → St G W0 n b tm ds H' rc E' w' arr dv cs' → CodeOk G W0 n b H' E' w' cs' (lone (Fr b arr (x :: k) dv) cs' w') k (F tm ds H' rc)) :
    CodeOk G W0 n b H E w cs m k (match r with | .ok .normal tm ds H rc => F tm ds H rc | r => r) := by
  cases r with
  | err => trivial
  | ok ex tm' ds' H' rc' =>
    obtain ⟨E', w', arr', dv', cs', o, e⟩ := h
    cases ex with
    | normal => exact CodeOk.then o e (next _ _ _ _ _ _ _ _ _ (by rw [o.mv.le.1]; exact hcf) o.st)
    | exit id => exact ⟨E', w', arr', dv', cs', o, e.pass (by simp) (fun _ _ => hx _)⟩
    | ret => exact ⟨E', w', arr', dv', cs', o, e.pass (by simp) (fun _ _ => hx _)⟩
    | pan v => exact ⟨E', w', arr', dv', cs', o, e.pass (by simp) (fun _ _ => hx _)⟩
/-- a loop over a function -/
theorem rangeB_ok {call : CallF} (hcall : CallOk G W0 cf call) {n fid : Nat} {b : Frame} (hfid : b.fn = fid) {f : Operand} {ps : Array Tmp} {assign body : Code} {tm : PT AV} {ds : List AD} {H : Hp} {rc : RC} {E : Env} {w : World} {arr : Array Value} {dv : List Deferred} {cs : List Frame} {k : List Item}
    (hcf : cf.ok E.σ) (st : St G W0 n b tm ds H rc E w arr dv cs) (hb : b.roundOf = none) :
    CodeOk G W0 n b H E w cs (lone (Fr b arr (.code (.rangeFunc f ps assign body) :: k) dv) cs w) k (rangeB G call n fid f ps assign body tm ds H rc) := by
  subst hfid
  unfold rangeB
  split
  · rename_i g first cap hf
    split
    · rename_i hbd
      rw [P.nextK_eq, P.nextK_eq, PT.putK_eq, PT.putK_eq]
      generalize hp1 : P.next H.nx = p1
      have hn1 : p1.toNat = H.nx.toNat + 1 := by rw [← hp1, P.toNat_next]
      have hn2 : (P.next p1).toNat = H.nx.toNat + 2 := by rw [P.toNat_next, hn1]
      have hne : p1 ≠ H.nx := fun e => by rw [e] at hn1; omega
      have free : ∀ {l : P}, H.nx.toNat ≤ l.toNat → E.ρ l = none := by
        intro l hl
        cases hρ : E.ρ l with
        | none => rfl
        | some y => exact absurd (st.hr.dom _ _ hρ) (by omega)
      have h0 := free (Nat.le_refl _)
      have mv1 := Mv.new (o := .defd) (ob := .deferred (some [])) st.hr h0 (nx' := p1.toNat) (by omega) (by omega) 0 .defd (Nat.le_refl _)
      have h1 : (E.add H.nx (w.heap.size, 0)).ρ p1 = none := by rw [Env.add_other _ _ hne]; exact free (by omega)
      have hE12 : (E.add H.nx (w.heap.size, 0)).le ((E.add H.nx (w.heap.size, 0)).add p1 (w.heap.size + 1, 0)) := Env.le_add h1
      have hor : OR G ((E.add H.nx (w.heap.size, 0)).add p1 (w.heap.size + 1, 0)) 0 (.loop .ready none b.fn n tm ps.toList assign body H.nx) (.loop { state := .ready, pending := none, fn := b.fn, tmps := arr, params := ps, assign, body, defers := w.heap.size }) := by
        have := OR.loop (G := G) (c := 0) (st := .ready) (pend := none) (fn := b.fn) (params := ps.toList) (assign := assign) (body := body) (st.tr.mono (mv1.le.trans hE12)) st.sz (dl := H.nx) (b := w.heap.size) (c' := 0) (by rw [Env.add_other _ _ (fun e => hne e.symm)]; exact Env.add_same _ _ _)
        simpa using this
      have mv2 := Mv.new (nx' := (P.next p1).toNat) (c := 0) (o := .loop .ready none b.fn n tm ps.toList assign body H.nx) (ob := .loop { state := .ready, pending := none, fn := b.fn, tmps := arr, params := ps, assign, body, defers := w.heap.size }) mv1.hr h1 (by omega) (by omega)
        (by simpa using hor) (Nat.le_refl _)
      have mv := mv1.trans mv2
      simp only [Array.size_push] at mv
      generalize hE2 : (E.add H.nx (w.heap.size, 0)).add p1 (w.heap.size + 1, 0) = E2 at *
      have hl0 : E2.ρ H.nx = some (w.heap.size, 0) := by rw [← hE2, Env.add_other _ _ (fun e => hne e.symm)]; exact Env.add_same _ _ _
      have hl1 : E2.ρ p1 = some (w.heap.size + 1, 0) := by rw [← hE2]; exact Env.add_same _ _ _
      generalize hob : Obj.loop { state := .ready, pending := none, fn := b.fn, tmps := arr, params := ps, assign, body, defers := w.heap.size } = lob at *
      have hw2 := enterLoop_run (P := G) (w := w) b.fn arr ps assign body
      rw [hob] at hw2
      generalize hw2e : ({ w with heap := (w.heap.push (.deferred (some []))).push lob } : World) = w2 at *
      have hHf : (fun q => PT.get q (PT.put p1 (PT.put H.nx H.tab (some .defd)) (some (.loop .ready none b.fn n tm ps.toList assign body H.nx)))) = upd (upd H.f H.nx (some .defd)) p1 (some (.loop .ready none b.fn n tm ps.toList assign body H.nx)) := by
        rw [put_upd, put_upd]; rfl
      generalize ht2 : PT.put p1 (PT.put H.nx H.tab (some .defd)) (some (.loop .ready none b.fn n tm ps.toList assign body H.nx)) = t2 at *
      rw [← hHf] at mv
      have mvA : Mv G W0 E H.f H.nx.toNat w E2 (Hp.f ⟨P.next p1, t2⟩) (P.next p1).toNat w2 := mv
      have hev := evO_ok (a := ⟨arr, { target := .collected w.heap.size, args := #[] } :: dv⟩) st.tr f _ hf
      generalize hfv : Act.eval ⟨arr, { target := .collected w.heap.size, args := #[] } :: dv⟩ f = fv at hev
      cases hev with
      | fn hfn hv1 hv2 =>
      cases hfn with
      | func =>
      rename_i first' cap'
      have hxs : VRs E2 ((first ++ [.fn (.yield p1) [] []]) ++ cap) ((first' ++ [Value.func (.yield (w.heap.size + 1)) #[] #[]]) ++ cap') :=
        ((hv1.mono mvA.le).append (.cons (.fn (.yield hl1) .nil .nil) .nil)).append (hv2.mono mvA.le)
      have hc : (do let d ← resolve (Act.eval ⟨arr, [{ target := .collected w.heap.size, args := #[] }] ++ dv⟩) { callee := .value f, args := #[.const (.func (.yield (w.heap.size + 1)) #[] #[])], argTypes := #[] } 0; invoke d.target d.args : Sem Next).run G w2 = .ok (.enter g ((first' ++ [Value.func (.yield (w.heap.size + 1)) #[] #[]]) ++ cap').toArray) w2 := by
        simp only [resolve, List.cons_append, List.nil_append, hfv, Deferred.ofValue, Sem.run_bind, Sem.run_pure, Result.andThen_ok, invoke]
        rw [hasBody_run hbd]
        congr 2
        apply Array.ext'
        simp [Act.eval]
      have hstep := st_range (P := G) (b := b) (arr := arr) (ds := dv) (k := k) (cs := cs) hb hw2 hc
      have hcr := hcall g _ ⟨P.next p1, t2⟩ E2 w2 _ (by rw [mvA.le.1]; exact hcf) mvA.hr hxs
      have hds2 : ∀ {E3 : Env}, E2.le E3 → DsR E3 (.mark H.nx :: ds) ([{ target := .collected w.heap.size, args := #[] }] ++ dv) := fun h => .mark (h.2 _ _ hl0) (st.ds.mono (mvA.le.trans h))
      generalize call g ((first ++ [.fn (.yield p1) [] []]) ++ cap) ⟨P.next p1, t2⟩ = r at hcr
      cases r with
      | err e => trivial
      | pan v H' =>
        obtain ⟨e, w3, fr, ⟨E3, x, rfl, mv3, hv⟩, hsteps, _, hleave⟩ := hcr (Fr b arr (.inRangeFunc (w.heap.size + 1) :: k) ([{ target := .collected w.heap.size, args := #[] }] ++ dv) :: cs)
        have mvT := mvA.trans mv3
        exact ⟨E3, w3, arr, _, cs, ⟨mvT, ⟨mvT.hr, st.sz, st.tr.mono mvT.le, hds2 mv3.le, st.rc.mono mvT.le⟩, .refl _ _⟩, x, .inRangeFunc (w.heap.size + 1) :: k, hv, .head hstep (hsteps.trans (.one (step_leave_panicked hleave)))⟩
      | ret v H' =>
        obtain ⟨e, w3, fr, ⟨E3, x, rfl, mv3, hv⟩, hsteps, _, hleave⟩ := hcr (Fr b arr (.inRangeFunc (w.heap.size + 1) :: k) ([{ target := .collected w.heap.size, args := #[] }] ++ dv) :: cs)
        have hback := step_leave_returned (c := Fr b arr (.inRangeFunc (w.heap.size + 1) :: k) ([{ target := .collected w.heap.size, args := #[] }] ++ dv)) (cs := cs) hleave
        have hfin : (Fr b arr (.inRangeFunc (w.heap.size + 1) :: k) ([{ target := .collected w.heap.size, args := #[] }] ++ dv)).finish x = Fr b arr (.endRangeFunc (w.heap.size + 1) :: k) ([{ target := .collected w.heap.size, args := #[] }] ++ dv) := rfl
        rw [hfin] at hback
        unfold loopEnd
        simp only
        split
        · rename_i stt pend fn' n' tm' ps' a' b' d' hg
          obtain ⟨bb, cc, ob, hρ, _, hob3, hor3⟩ := mv3.hr.obj _ _ hg
          have hρ' := mv3.le.2 _ _ hl1
          rw [hρ] at hρ'
          cases hρ'
          cases hor3 with
          | loop ha1 ha2 ha3 =>
          rename_i tmps3 b3 c3
          have nb : stt ≠ .busy → ∀ {jump : List Item}, (pend.map Item.code).toList = jump → ∃ w4, Mv G W0 E H.f H.nx.toNat w E3 (Hp.f ⟨H'.nx, PT.put p1 H'.tab (some (.loop .exhausted pend fn' n' tm' ps' a' b' d'))⟩) H'.nx.toNat w4 ∧
              Steps G (lone (Fr b arr (.code (.rangeFunc f ps assign body) :: k) dv) cs w) (lone (Fr b arr (jump ++ k) ([{ target := .collected w.heap.size, args := #[] }] ++ dv)) cs w4) := by
            intro hs jump hj
            have he := endLoop_run (P := G) hob3 hs
            have hm := setObj_mv mv3.hr hg hρ hob3 (.loop (st := .exhausted) (pend := pend) (fn := fn') (params := ps') (assign := a') (body := b') ha1 ha2 ha3)
            refine ⟨_, mvA.trans (mv3.trans hm), .head hstep (hsteps.trans (.head hback (.one ?_)))⟩
            rw [← hj]
            exact st_endRange he
          split
          · trivial
          · rename_i hs
            rw [PT.putK_eq]
            split
            · obtain ⟨w4, m4, s4⟩ := nb hs rfl
              exact ⟨E3, w4, arr, _, cs, ⟨m4, ⟨m4.hr, st.sz, st.tr.mono m4.le, hds2 mv3.le, st.rc.mono m4.le⟩, .refl _ _⟩, s4⟩
            · obtain ⟨w4, m4, s4⟩ := nb hs rfl
              exact ⟨E3, w4, arr, _, cs, ⟨m4, ⟨m4.hr, st.sz, st.tr.mono m4.le, hds2 mv3.le, st.rc.mono m4.le⟩, .refl _ _⟩, k, s4⟩
            · obtain ⟨w4, m4, s4⟩ := nb hs rfl
              exact ⟨E3, w4, arr, _, cs, ⟨m4, ⟨m4.hr, st.sz, st.tr.mono m4.le, hds2 mv3.le, st.rc.mono m4.le⟩, .refl _ _⟩, [], rfl, s4⟩
            · trivial
        · trivial
    · trivial
  · trivial
theorem codeK_succ (call : CallF) (rnd : RndF) (n fid fuel : Nat) (c : Code) (tm : PT AV) (ds : List AD) (H : Hp) (rc : RC) : codeK G cf call rnd n fid (fuel + 1) c tm ds H rc = match c with
    | .skip => .ok .normal tm ds H rc
    | .region _ ops draw => regionK G cf call rnd n ops.toList draw tm ds H rc
    | .seq a b => match codeK G cf call rnd n fid fuel a tm ds H rc with
      | .ok .normal tm ds H rc => codeK G cf call rnd n fid fuel b tm ds H rc
      | r => r
    | .cond c a b => match evO tm c with
      | some (.bool true) => codeK G cf call rnd n fid fuel a tm ds H rc
      | some (.bool false) => codeK G cf call rnd n fid fuel b tm ds H rc
      | _ => .err 81
    | .block id c => match codeK G cf call rnd n fid fuel c tm ds H rc with
      | .ok (.exit j) tm ds H rc => match Nat.beq j id with
        | true => .ok .normal tm ds H rc
        | false => .ok (.exit j) tm ds H rc
      | r => r
    | .loop c => match codeK G cf call rnd n fid fuel c tm ds H rc with
      | .ok .normal tm ds H rc => codeK G cf call rnd n fid fuel (.loop c) tm ds H rc
      | r => r
    | .exit id => .ok (.exit id) tm ds H rc
    | .ret => .ok .ret tm ds H rc
    | .rangeFunc f ps a b => rangeK G call n fid f ps a b tm ds H rc
    | _ => .err 82 := by cases c <;> rfl
theorem codeK_ok [GlOk cf.gl W0] {call : CallF} {rnd : RndF} (hcall : CallOk G W0 cf call) (hrnd : RndOk G W0 cf rnd) (hdraw : DrawOk G W0 cf call) {n fid : Nat} {b : Frame} (hfid : b.fn = fid) : ∀ (fuel : Nat) (c : Code) (tm : PT AV) (ds : List AD) (H : Hp) (rc : RC) (E : Env) (w : World) (arr : Array Value) (dv : List Deferred) (cs : List Frame) (k : List Item),
    cf.ok E.σ → St G W0 n b tm ds H rc E w arr dv cs →
    CodeOk G W0 n b H E w cs (lone (Fr b arr (.code c :: k) dv) cs w) k (codeK G cf call rnd n fid fuel c tm ds H rc) ∧
    CodeOk G W0 n b H E w cs (lone (Fr b arr (.code c :: .inLoop c :: k) dv) cs w) k (codeK G cf call rnd n fid fuel (.loop c) tm ds H rc) := by
  intro fuel
  induction fuel with
  | zero => intros; exact ⟨trivial, trivial⟩
  | succ fuel ih =>
    have loop : ∀ (c : Code) (tm : PT AV) (ds : List AD) (H : Hp) (rc : RC) (E : Env) (w : World) (arr : Array Value) (dv : List Deferred) (cs : List Frame) (k : List Item),
        cf.ok E.σ → St G W0 n b tm ds H rc E w arr dv cs →
        CodeOk G W0 n b H E w cs (lone (Fr b arr (.code c :: .inLoop c :: k) dv) cs w) k (codeK G cf call rnd n fid (fuel + 1) (.loop c) tm ds H rc) := by
      intro c tm ds H rc E w arr dv cs k hcf st
      rw [codeK_succ]
      exact CodeOk.seq (cf := cf) (fun _ => rfl) hcf ((ih c tm ds H rc E w arr dv cs (.inLoop c :: k) hcf st).1)
        (fun tm ds H' rc E' w' arr dv cs' hcf' st' => CodeOk.steps (.one st_inLoop) (ih c tm ds H' rc E' w' arr dv cs' k hcf' st').2)
    intro c tm ds H rc E w arr dv cs k hcf st
    refine ⟨?_, loop c tm ds H rc E w arr dv cs k hcf st⟩
    cases c with
    | skip => rw [codeK_succ]; exact ⟨E, w, arr, dv, cs, ⟨Mv.refl st.hr, st, .refl _ _⟩, .one st_skip⟩
    | region id ops draw =>
      rw [codeK_succ]
      cases draw with
      | false =>
        have := regK_ok hcall hrnd (ops := ops) ops.toList 0 (by simp) tm ds H rc E w arr dv cs k hcf st
        refine CodeOk.steps (.one ?_) this
        have hs := st_region (P := G) (b := b) (arr := arr) (ds := dv) (k := k) (cs := cs) (w := w) (ops := ops) (id := id)
        rw [List.range_eq_range'] at hs
        simpa using hs
      | true =>
        simp only [regionK]
        split
        · rename_i hs
          exact hdraw n b id ops tm ds H rc E w arr dv cs k hcf st hs
        · trivial
    | seq x y =>
      rw [codeK_succ]
      exact CodeOk.steps (.one st_seq) (CodeOk.seq (cf := cf) (fun _ => rfl) hcf ((ih x tm ds H rc E w arr dv cs (.code y :: k) hcf st).1)
        (fun tm ds H' rc E' w' arr dv cs' hcf' st' => (ih y tm ds H' rc E' w' arr dv cs' k hcf' st').1))
    | cond c x y =>
      rw [codeK_succ]
      have hev := evO_ok (a := ⟨arr, dv⟩) st.tr
      simp only
      split
      · rename_i hc
        have hb := hev c _ hc
        have hb' : Act.eval ⟨arr, dv⟩ c = .bool true := by cases hb' : Act.eval ⟨arr, dv⟩ c <;> rw [hb'] at hb <;> cases hb <;> rfl
        exact CodeOk.steps (.one (st_cond (t := true) hb')) (ih x tm ds H rc E w arr dv cs k hcf st).1
      · rename_i hc
        have hb := hev c _ hc
        have hb' : Act.eval ⟨arr, dv⟩ c = .bool false := by cases hb' : Act.eval ⟨arr, dv⟩ c <;> rw [hb'] at hb <;> cases hb <;> rfl
        exact CodeOk.steps (.one (st_cond (t := false) hb')) (ih y tm ds H rc E w arr dv cs k hcf st).1
      · trivial
    | block id c =>
      rw [codeK_succ]
      refine CodeOk.steps (.one st_block) ?_
      have h := (ih c tm ds H rc E w arr dv cs (.inBlock id :: k) hcf st).1
      simp only
      generalize codeK G cf call rnd n fid fuel c tm ds H rc = r at h
      cases r with
      | err => trivial
      | ok ex tm' ds' H' rc' =>
        obtain ⟨E', w', arr', dv', cs', o, e⟩ := h
        cases ex with
        | normal => exact ⟨E', w', arr', dv', cs', o, Steps.trans e (.one st_inBlock)⟩
        | ret => exact ⟨E', w', arr', dv', cs', o, e.pass (by simp) (fun _ h => by cases h)⟩
        | pan v => exact ⟨E', w', arr', dv', cs', o, e.pass (by simp) (fun _ h => by cases h)⟩
        | exit j =>
          simp only
          cases hj : Nat.beq j id with
          | true =>
            have hj := Nat.eq_of_beq_eq_true hj
            subst hj
            obtain ⟨l, e1, s⟩ := e
            refine ⟨E', w', arr', dv', cs', o, Steps.trans s (.one (st_exit ?_))⟩
            rw [e1]; simp [exitTo]
          | false =>
            have hj := Nat.ne_of_beq_eq_false hj
            refine ⟨E', w', arr', dv', cs', o, e.pass (by simp) (fun i hi => ?_)⟩
            cases hi
            have : (id == j) = false := by simp; exact fun h => hj h.symm
            simp [exitTo, this]
    | loop c =>
      exact CodeOk.steps (.one st_loop) (loop c tm ds H rc E w arr dv cs k hcf st)
    | exit id => rw [codeK_succ]; exact ⟨E, w, arr, dv, cs, ⟨Mv.refl st.hr, st, .refl _ _⟩, [], rfl, .refl _ _⟩
    | ret => rw [codeK_succ]; exact ⟨E, w, arr, dv, cs, ⟨Mv.refl st.hr, st, .refl _ _⟩, k, .refl _ _⟩
    | scope c => trivial
    | goto l => trivial
    | label l => trivial
    | rangeFunc f ps a c =>
      rw [codeK_succ]
      have main : rc ≠ .bar → CodeOk G W0 n b H E w cs (lone (Fr b arr (.code (.rangeFunc f ps a c) :: k) dv) cs w) k (rangeB G call n fid f ps a c tm ds H rc) :=
        fun hne => rangeB_ok hcall hfid hcf st (st.rc.round hne)
      cases rc with
      | bar => trivial
      | no => exact main (by simp)
      | avail v => exact main (by simp)
      | used => exact main (by simp)
    | refuse s => trivial
/-! ### frames -/
theorem argsT_ok {E : Env} : ∀ (args : List AV) (xs : List Value) (i : Nat) (t : PT AV) (arr : Array Value), VRs E args xs → TR E t arr → (∀ j, j < xs.length → arr[i + j]? = xs[j]?) → TR E (argsT args i t) arr := by
  intro args
  induction args with
  | nil => intro xs i t arr _ ht _; exact ht
  | cons a args ih =>
    intro xs i t arr h ht hx
    cases h with
    | cons hv hs =>
      rename_i v vs
      refine ih vs (i + 1) _ arr hs ?_ (fun j hj => ?_)
      · intro q u e
        by_cases hq : i = q
        · subst hq
          rw [PT.get_put_same] at e
          cases e
          have := hx 0 (by simp)
          exact ⟨v, by simpa using this, hv⟩
        · rw [PT.get_put_other (fun e => hq (P.of_inj e))] at e
          exact ht q u e
      · have := hx (j + 1) (by simp; exact hj)
        rw [show i + 1 + j = i + (j + 1) by omega]
        simpa using this
theorem mapM_run {α β : Type} {f : α → Sem β} {g : α → Option AV} {h : β → Value} {E : Env} {w : World} (hf : ∀ a v, g a = some v → ∃ x, (f a).run G w = .ok x w ∧ VR E v (h x)) : ∀ (l : List α) {vs : List AV}, mapO g l = some vs → ∃ xs, (l.mapM f).run G w = .ok xs w ∧ VRs E vs (xs.map h)
  | [], vs, e => by cases e; exact ⟨[], rfl, .nil⟩
  | a :: l, vs, e => by
    obtain ⟨v, vs', h1, h2, rfl⟩ := mapO_cons _ _ _ e
    obtain ⟨x, hx, hv⟩ := hf a v h1
    obtain ⟨xs, hxs, hvs⟩ := mapM_run hf l h2
    exact ⟨x :: xs, by simp [List.mapM_cons, hx, hxs], .cons hv hvs⟩
theorem resultsO_ok {E : Env} {H : Hp} {w : World} (hr : HR G W0 E H.f H.nx.toNat w) {fn : Func} {tm : PT AV} {arr : Array Value} (ht : TR E tm arr) {v : AV} (h : resultsO G fn tm H = some v) : ∃ x, (results fn arr).run G w = .ok x w ∧ VR E v x := by
  have key : ∀ (a : ResultVar) (u : AV), resO G tm H a = some u → ∃ x, (match a with | .tmp t => pure (arr.getD t undef) | .cell a t => do loadVar t (← asAddr (arr.getD a undef)) : Sem Value).run G w = .ok x w ∧ VR E u x := by
    intro a u e
    cases a with
    | tmp t =>
      obtain ⟨x, hx, hv⟩ := ht t u e
      have : arr.getD t undef = x := by simp [Array.getD_eq_getD_getElem?, hx]
      exact ⟨x, by simp [this], hv⟩
    | cell a t =>
      simp only [resO] at e
      split at e
      · rename_i p hp
        obtain ⟨y, hy, hv⟩ := ht a p hp
        have hg : arr.getD a undef = y := by simp [Array.getD_eq_getD_getElem?, hy]
        obtain ⟨x, hx, hxv⟩ := loadO_ok (tab := H.tab) hr hv e
        refine ⟨x, ?_, hxv⟩
        simp only [hg]
        unfold loadO at e
        split at e
        · cases hv with
          | ptr hρ =>
            rw [← hx]
            simp [Instr.loadAt, Instr.sureAddr, asAddr]
        · cases e
      · cases e
  unfold resultsO at h
  have run : ∀ vs, mapO (resO G tm H) fn.results.toList = some vs → ∃ xs : List Value, (results fn arr).run G w = .ok (if h : xs.length = 1 then xs[0] else .tuple xs.toArray) w ∧ VRs E vs xs := by
    intro vs e
    obtain ⟨xs, hxs, hv⟩ := mapM_run (h := id) key _ e
    rw [List.map_id] at hv
    refine ⟨xs, ?_, hv⟩
    unfold results
    rw [Array.mapM_eq_mapM_toList]
    simp only [Sem.run_bind, Sem.run_map]
    erw [hxs]
    simp
  split at h
  · rename_i u hu
    cases h
    obtain ⟨xs, hxs, hv⟩ := run _ hu
    cases hv with
    | cons hv hn =>
      cases hn
      exact ⟨_, hxs, by simpa using hv⟩
  · rename_i vs hne hu
    cases h
    obtain ⟨xs, hxs, hv⟩ := run _ hu
    refine ⟨_, hxs, ?_⟩
    have hl := hv.length
    have : ¬ xs.length = 1 := by
      intro h1
      rw [h1] at hl
      match vs, hl with
      | [u], _ => exact hne u rfl
    rw [dif_neg this]
    exact .tup hv
  · cases h
/-! ### leaving a frame -/
inductive MdR (E : Env) : Md → FrameMode → Prop
  | ret : MdR E .ret .returning
  | pan {v : AV} {x : Value} (h : VR E v x) : MdR E (.pan v) (.panicking [{ v := x, recovered := false }])
def LeaveRes (G : Program) (W0 : World) (E : Env) (H : Hp) (w : World) (f : FuncId) (m : Machine) (cs : List Frame) : KR → Prop
  | .ret v H' => ∃ E' x fr w', Mv G W0 E H.f H.nx.toNat w E' H'.f H'.nx.toNat w' ∧ VR E' v x ∧ Steps G m (lone fr cs w') ∧ fr.fn = f ∧ fr.leaving G w' (.returned x)
  | .pan v H' => ∃ E' x fr w', Mv G W0 E H.f H.nx.toNat w E' H'.f H'.nx.toNat w' ∧ VR E' v x ∧ Steps G m (lone fr cs w') ∧ fr.fn = f ∧ fr.leaving G w' (.panicked [{ v := x, recovered := false }])
  | .err _ => True
theorem LeaveRes.then {E E' : Env} {H H' : Hp} {w w' : World} {f : FuncId} {m m' : Machine} {cs : List Frame} {r : KR} (mv : Mv G W0 E H.f H.nx.toNat w E' H'.f H'.nx.toNat w') (h : Steps G m m') (k : LeaveRes G W0 E' H' w' f m' cs r) : LeaveRes G W0 E H w f m cs r := by
  cases r with
  | err => trivial
  | ret v H2 => obtain ⟨E2, x, fr, w2, a, b, c, d⟩ := k; exact ⟨E2, x, fr, w2, mv.trans a, b, h.trans c, d⟩
  | pan v H2 => obtain ⟨E2, x, fr, w2, a, b, c, d⟩ := k; exact ⟨E2, x, fr, w2, mv.trans a, b, h.trans c, d⟩
theorem enter_eq {f : FuncId} {fn : Func} {c : Code} {xs : List Value} {kd : CallKind} (hf : G.funcs[f]? = some fn) (hb : fn.body = some c) :
    Frame.enter G f xs.toArray kd = Fr { (default : Frame) with fn := f, kind := kd } (xs.toArray ++ Array.replicate (fn.ntmps - xs.length) undef) [.code c] [] := by
  simp [Frame.enter, Fr, hf, hb]
  rfl
theorem st_args {E : Env} {H : Hp} {w : World} {n : Nat} {args : List AV} {xs : List Value} (hr : HR G W0 E H.f H.nx.toNat w) (hx : VRs E args xs) (hl : lenL args ≤ n) {b : Frame} {rc : RC} {cs : List Frame} (hrc : RcR E b rc cs) :
    St G W0 n b (argsT args 0 .e) [] H rc E w (xs.toArray ++ Array.replicate (n - xs.length) undef) [] cs := by
  rw [lenL_eq, hx.length] at hl
  refine ⟨hr, by simp; omega, argsT_ok args xs 0 .e _ hx (fun i v e => by rw [PT.get_e] at e; cases e) (fun j hj => ?_), .nil, hrc⟩
  simp [Array.getElem?_append, hj]
def rcOf : Md → RC
  | .ret => .no
  | .pan v => .avail v
theorem leaveK_cons (call : CallF) (rnd : RndF) (fuel : Nat) (fn : Func) (tm : PT AV) (f : FuncId) (args cap : List AV) (ds : List AD) (md : Md) (H : Hp) : leaveK G cf call rnd fuel fn tm (.call f args cap :: ds) md H = match hasBody G f with
      | true => match dcallK G cf call rnd fuel f (args ++ cap) H (rcOf md) with
        | .ok H .used => leaveK G cf call rnd fuel fn tm ds .ret H
        | .ok H .no => leaveK G cf call rnd fuel fn tm ds .ret H
        | .ok H (.avail v) => leaveK G cf call rnd fuel fn tm ds (.pan v) H
        | .err k => .err k
        | _ => .err 91
      | false => .err 92 := by cases md <;> rfl
theorem dcallK_ok [GlOk cf.gl W0] {call : CallF} {rnd : RndF} (hcall : CallOk G W0 cf call) (hrnd : RndOk G W0 cf rnd) (hdraw : DrawOk G W0 cf call) {fuel : Nat} {f : FuncId} {args : List AV} {H H' : Hp} {rc rc' : RC} (h : dcallK G cf call rnd fuel f args H rc = .ok H' rc') {E : Env} {w : World} {xs : List Value} {c : Frame} {cs : List Frame}
    (hcf : cf.ok E.σ) (hr : HR G W0 E H.f H.nx.toNat w) (hx : VRs E args xs) (hrc : RcR E { (default : Frame) with fn := f, kind := .deferred } rc (c :: cs)) (hbar : rc' ≠ .bar) :
    ∃ E' w' fr' m', Mv G W0 E H.f H.nx.toNat w E' H'.f H'.nx.toNat w' ∧ RcR E' { (default : Frame) with fn := f, kind := .deferred } rc' ({ c with mode := m' } :: cs) ∧
      Steps G (lone (Frame.enter G f xs.toArray .deferred) (c :: cs) w) (lone fr' ({ c with mode := m' } :: cs) w') ∧ fr'.kind = .deferred ∧ ∃ v, fr'.going G w' (.returned v) := by
  unfold dcallK at h
  split at h
  · rename_i fn hf
    split at h
    · rename_i body hb
      split at h
      · rename_i hl
        have hl := Nat.le_of_ble_eq_true hl
        have st := st_args (n := fn.ntmps) (b := { (default : Frame) with fn := f, kind := .deferred }) hr hx hl hrc
        have hk := (codeK_ok hcall hrnd hdraw (fid := f) rfl fuel body _ [] H rc E w _ [] (c :: cs) [] hcf st).1
        rw [← enter_eq hf hb] at hk
        have modes : ∀ {cs'}, Mod { (default : Frame) with fn := f, kind := .deferred } (c :: cs) cs' → ∃ m', cs' = { c with mode := m' } :: cs := by
          intro cs' hm
          rcases hm with rfl | ⟨_, c0, r, m, e, rfl⟩
          · exact ⟨c.mode, rfl⟩
          · cases e; exact ⟨m, rfl⟩
        split at h
        · rename_i tm H2 rc2 hcode
          split at h
          · rename_i v hv
            cases h
            rw [hcode] at hk
            obtain ⟨E', w', arr', dv', cs', o, e⟩ := hk
            obtain ⟨m', rfl⟩ := modes o.md
            obtain ⟨x, hx, _⟩ := resultsO_ok o.st.hr o.st.tr hv
            cases o.st.ds
            exact ⟨E', w', _, m', o.mv, o.st.rc, Steps.trans e (.one (st_end rfl)), rfl, x, rfl, rfl, fn, hf, hx⟩
          · cases h
        · rename_i tm H2 rc2 hcode
          split at h
          · rename_i v hv
            cases h
            rw [hcode] at hk
            obtain ⟨E', w', arr', dv', cs', o, j, e⟩ := hk
            obtain ⟨m', rfl⟩ := modes o.md
            obtain ⟨x, hx, _⟩ := resultsO_ok o.st.hr o.st.tr hv
            cases o.st.ds
            exact ⟨E', w', _, m', o.mv, o.st.rc, Steps.trans e (.one (st_ret rfl)), rfl, x, rfl, rfl, fn, hf, hx⟩
          · cases h
        · cases h
        · cases h
      · cases h
    · cases h
  · cases h
theorem leaveK_ok [GlOk cf.gl W0] {call : CallF} {rnd : RndF} (hcall : CallOk G W0 cf call) (hrnd : RndOk G W0 cf rnd) (hdraw : DrawOk G W0 cf call) {fuel : Nat} {fn : Func} : ∀ (ds : List AD) (md : Md) (tm : PT AV) (H : Hp) (E : Env) (w : World) (fr : Frame) (dv : List Deferred) (cs : List Frame),
    cf.ok E.σ → HR G W0 E H.f H.nx.toNat w → TR E tm fr.tmps → DsR E ds dv → MdR E md fr.mode → fr.defers = dv → G.funcs[fr.fn]? = some fn → fr.kind = .normal →
    LeaveRes G W0 E H w fr.fn (lone fr cs w) cs (leaveK G cf call rnd fuel fn tm ds md H) := by
  intro ds
  induction ds with
  | nil =>
    intro md tm H E w fr dv cs hcf hr ht hds hm hd hf hk
    cases hds
    cases md with
    | ret =>
      show LeaveRes G W0 E H w fr.fn (lone fr cs w) cs (match resultsO G fn tm H with | some v => .ret v H | none => .err 90)
      split
      · rename_i v hv
        obtain ⟨x, hx, hvx⟩ := resultsO_ok hr ht hv
        refine ⟨E, x, fr, w, Mv.refl hr, hvx, .refl _ _, rfl, ?_, hd, hk, fn, hf, hx⟩
        generalize fr.mode = m at hm
        cases hm; rfl
      · trivial
    | pan v =>
      generalize hmm : fr.mode = m at hm
      cases hm with
      | pan hv => exact ⟨E, _, fr, w, Mv.refl hr, hv, .refl _ _, rfl, hmm, hd, fn, hf⟩
  | cons d ds ih =>
    intro md tm H E w fr dv cs hcf hr ht hds hm hd hf hk
    cases d with
    | mark l =>
      cases hds with
      | mark h1 hds =>
      rename_i b c dv
      show LeaveRes G W0 E H w fr.fn (lone fr cs w) cs (match PT.get l H.tab with
        | some .defd => PT.putK l H.tab (some .gone) (fun t => leaveK G cf call rnd fuel fn tm ds md ⟨H.nx, t⟩)
        | _ => .err 93)
      split
      · rename_i hg
        rw [PT.putK_eq]
        obtain ⟨b', c', ob, hρ, _, hob, hor⟩ := hr.obj _ _ hg
        rw [h1] at hρ
        cases hρ
        cases hor
        have hmv := setObj_mv hr hg h1 hob (.gone)
        have hrun : fr.mode ≠ .run := by generalize fr.mode = m at hm; cases hm <;> simp
        exact LeaveRes.then hmv (.one (st_take hrun hd (take_run hob))) (ih md tm ⟨H.nx, PT.put l H.tab (some .gone)⟩ E _ { fr with defers := dv } dv cs hcf hmv.hr ht hds hm rfl hf hk)
      · trivial
    | call f args cap =>
    cases hds with
    | call h1 h2 hds =>
    rename_i xs ys dv
    rw [leaveK_cons]
    cases hbd : hasBody G f with
    | false => trivial
    | true =>
    simp only
    have hrun : fr.mode ≠ .run := by generalize fr.mode = m at hm; cases hm <;> simp
    have hinv : (invoke (.fn (.func f) ys.toArray) xs.toArray).run G w = .ok (.enter f (xs ++ ys).toArray) w := by
      simp only [invoke]
      rw [hasBody_run hbd]
      congr 2
      simp
    have h1' := step_defer (P := G) (cs := cs) hrun hd rfl hinv
    have hrc : RcR E { (default : Frame) with fn := f, kind := .deferred } (rcOf md) ({ fr with defers := dv } :: cs) := by
      generalize hmm : fr.mode = m at hm
      cases hm with
      | ret => exact .ret rfl rfl rfl
      | pan hv => exact .avail rfl rfl rfl hv
    have next : ∀ {H' rc'}, dcallK G cf call rnd fuel f (args ++ cap) H (rcOf md) = .ok H' rc' → rc' ≠ .bar → ∃ E' w' m', Mv G W0 E H.f H.nx.toNat w E' H'.f H'.nx.toNat w' ∧ RcR E' { (default : Frame) with fn := f, kind := .deferred } rc' ({ fr with defers := dv, mode := m' } :: cs) ∧
        Steps G (lone fr cs w) (lone { fr with defers := dv, mode := settle m' } cs w') := by
      intro H' rc' e hne
      obtain ⟨E', w', fr', m', mv, hrc', hs, hk', v, hg⟩ := dcallK_ok hcall hrnd hdraw e hcf hr (h1.append h2) hrc hne
      exact ⟨E', w', m', mv, hrc', .head h1' (hs.trans (.one (step_going_returned (c := { fr with defers := dv, mode := m' }) hk' hg)))⟩
    split
    · rename_i r H' hr'
      obtain ⟨E', w', m', mv, hrc', hs⟩ := next hr' (by simp)
      refine LeaveRes.then mv hs (ih .ret tm H' E' w' { fr with defers := dv, mode := settle m' } dv cs (by rw [mv.le.1]; exact hcf) mv.hr (ht.mono mv.le) (hds.mono mv.le) ?_ rfl hf hk)
      cases hrc' with
      | used _ _ hm => 
        have hm : m' = _ := hm
        subst hm; exact .ret
    · rename_i r H' hr'
      obtain ⟨E', w', m', mv, hrc', hs⟩ := next hr' (by simp)
      refine LeaveRes.then mv hs (ih .ret tm H' E' w' { fr with defers := dv, mode := settle m' } dv cs (by rw [mv.le.1]; exact hcf) mv.hr (ht.mono mv.le) (hds.mono mv.le) ?_ rfl hf hk)
      cases hrc' with
      | no _ hk => cases hk
      | ret _ _ hm => 
        have hm : m' = _ := hm
        subst hm; exact .ret
    · rename_i r H' v hr'
      obtain ⟨E', w', m', mv, hrc', hs⟩ := next hr' (by simp)
      refine LeaveRes.then mv hs (ih (.pan v) tm H' E' w' { fr with defers := dv, mode := settle m' } dv cs (by rw [mv.le.1]; exact hcf) mv.hr (ht.mono mv.le) (hds.mono mv.le) ?_ rfl hf hk)
      cases hrc' with
      | avail _ _ hm hv => 
        have hm : m' = _ := hm
        subst hm; exact .pan hv
    · trivial
    · trivial
theorem LeaveRes.calls {E : Env} {H : Hp} {w : World} {f : FuncId} {xs : List Value} {r : KR} (h : ∀ cs, LeaveRes G W0 E H w f (lone (Frame.enter G f xs.toArray .normal) cs w) cs r) : CallRes G W0 E H w f xs r := by
  cases r with
  | err => trivial
  | ret v H' =>
    intro cs
    obtain ⟨E', x, fr, w', mv, hv, hs, hf, hl⟩ := h cs
    exact ⟨.returned x, w', fr, ⟨E', x, rfl, mv, hv⟩, hs, hf, hl⟩
  | pan v H' =>
    intro cs
    obtain ⟨E', x, fr, w', mv, hv, hs, hf, hl⟩ := h cs
    exact ⟨.panicked _, w', fr, ⟨E', x, rfl, mv, hv⟩, hs, hf, hl⟩
theorem frameK_ok [GlOk cf.gl W0] {call : CallF} {rnd : RndF} (hcall : CallOk G W0 cf call) (hrnd : RndOk G W0 cf rnd) (hdraw : DrawOk G W0 cf call) (fuel : Nat) : CallOk G W0 cf (frameK G cf call rnd fuel) := by
  intro f args H E w xs hcf hr hx
  refine LeaveRes.calls fun cs => ?_
  unfold frameK
  split
  · rename_i fn hf
    split
    · rename_i body hb
      split
      · rename_i hl
        have hl := Nat.le_of_ble_eq_true hl
        have st := st_args (n := fn.ntmps) (b := { (default : Frame) with fn := f, kind := .normal }) (rc := .no) (cs := cs) hr hx hl (.no rfl rfl cs)
        have hk := (codeK_ok hcall hrnd hdraw (fid := f) rfl fuel body _ [] H .no E w _ [] cs [] hcf st).1
        rw [← enter_eq hf hb] at hk
        have same : ∀ {cs'}, Mod { (default : Frame) with fn := f, kind := .normal } cs cs' → cs' = cs := by
          intro cs' hm
          rcases hm with rfl | ⟨e, _⟩
          · rfl
          · cases e
        split
        · rename_i tm ds H2 rc2 hcode
          rw [hcode] at hk
          obtain ⟨E', w', arr', dv', cs', o, e⟩ := hk
          have := same o.md
          subst this
          exact LeaveRes.then o.mv (Steps.trans e (.one (st_end rfl))) (leaveK_ok hcall hrnd hdraw ds .ret tm H2 E' w' _ dv' cs' (by rw [o.mv.le.1]; exact hcf) o.st.hr o.st.tr o.st.ds .ret rfl hf rfl)
        · rename_i tm ds H2 rc2 hcode
          rw [hcode] at hk
          obtain ⟨E', w', arr', dv', cs', o, j, e⟩ := hk
          have := same o.md
          subst this
          exact LeaveRes.then o.mv (Steps.trans e (.one (st_ret rfl))) (leaveK_ok hcall hrnd hdraw ds .ret tm H2 E' w' _ dv' cs' (by rw [o.mv.le.1]; exact hcf) o.st.hr o.st.tr o.st.ds .ret rfl hf rfl)
        · rename_i v tm ds H2 rc2 hcode
          rw [hcode] at hk
          obtain ⟨E', w', arr', dv', cs', o, x, j, hv, e⟩ := hk
          have := same o.md
          subst this
          exact LeaveRes.then o.mv e (leaveK_ok hcall hrnd hdraw ds (.pan v) tm H2 E' w' _ dv' cs' (by rw [o.mv.le.1]; exact hcf) o.st.hr o.st.tr o.st.ds (.pan hv) rfl hf rfl)
        · trivial
        · trivial
      · trivial
    · trivial
  · trivial
/-! ### rounds -/
theorem allL_mem' {α : Type} {f : α → Bool} : ∀ {l : List α}, allL f l = true → ∀ a ∈ l, f a = true
  | [], _, a, h => by simp at h
  | b :: l, h, a, ha => by
    obtain ⟨h1, h2⟩ := allL_cons h
    rcases List.mem_cons.1 ha with rfl | ha
    · exact h1
    · exact allL_mem' h2 a ha
theorem setArgs_ok {E : Env} : ∀ (ps : List Nat) (args : List AV) (xs : List Value) (t : PT AV) (arr : Array Value), VRs E args xs → args.length = ps.length → (∀ p ∈ ps, p < arr.size) → TR E t arr →
    TR E (setArgs ps args t) ((ps.zip xs).foldl (fun a p => a.setIfInBounds p.1 p.2) arr)
  | [], _, _, t, arr, _, _, _, ht => by simpa [setArgs] using ht
  | p :: ps, [], _, t, arr, _, hl, _, ht => by simp at hl
  | p :: ps, a :: args, _, t, arr, h, hl, hp, ht => by
    cases h with
    | cons hv hs =>
      rename_i v vs
      exact setArgs_ok ps args vs _ _ hs (by simpa using hl) (fun q hq => by simp; exact hp q (List.mem_cons_of_mem _ hq)) (ht.set (hp p List.mem_cons_self) hv)
theorem fold_size : ∀ (l : List (Nat × Value)) (arr : Array Value), (l.foldl (fun a p => a.setIfInBounds p.1 p.2) arr).size = arr.size
  | [], arr => rfl
  | p :: l, arr => by simp [fold_size l]
theorem roundEnd_ok {E : Env} {H : Hp} {w : World} {l : P} {b c : Nat} (hr : HR G W0 E H.f H.nx.toNat w) (hρ : E.ρ l = some (b, c)) (jump : Option Code) : (∃ e, roundEnd l jump H = .err e) ∨
    ∃ H' w', roundEnd l jump H = .ret (.bool jump.isNone) H' ∧ (Instr.endRound b jump).run G w = .ok (.bool jump.isNone) w' ∧ Mv G W0 E H.f H.nx.toNat w E H'.f H'.nx.toNat w' := by
  unfold roundEnd
  split
  · rename_i st pend fn n tm ps a bo d hg
    obtain ⟨b', c', ob, hρ', _, hob, hor⟩ := hr.obj _ _ hg
    rw [hρ] at hρ'
    cases hρ'
    cases hor with
    | loop h1 h2 h3 =>
    rw [PT.putK_eq]
    refine .inr ⟨⟨H.nx, PT.put l H.tab (some (.loop (match jump with | none => .ready | some _ => .done) jump fn n tm ps a bo d))⟩, _, ?_, endRound_run hob jump, setObj_mv hr hg hρ hob ?_⟩
    · cases jump <;> rfl
    · have := OR.loop (G := G) (c := c) (st := if jump.isNone then .ready else .done) (pend := jump) (fn := fn) (params := ps) (assign := a) (body := bo) h1 h2 h3
      cases jump <;> exact this
  · exact .inl ⟨_, rfl⟩
theorem roundK_ok [GlOk cf.gl W0] {call : CallF} {rnd : RndF} (hcall : CallOk G W0 cf call) (hrnd : RndOk G W0 cf rnd) (hdraw : DrawOk G W0 cf call) (fuel : Nat) : RndOk G W0 cf (roundK G cf call rnd fuel) := by
  intro l args H E w xs b c hcf hr hρ hxs
  unfold roundK
  split
  · rename_i st pend fn n tm ps assign body dl hg
    obtain ⟨b', c', ob, hρ', _, hob, hor⟩ := hr.obj _ _ hg
    rw [hρ] at hρ'
    cases hρ'
    cases hor with
    | loop h1 h2 h3 =>
    rename_i tmps bd cd
    split
    · rename_i fnn hfn hlen hall
      have hlen := Nat.eq_of_beq_eq_true hlen
      rw [lenL_eq, lenL_eq] at hlen
      have hps : ∀ p ∈ ps, p < tmps.size := by
        intro p hp
        have := allL_mem' hall p hp
        rw [h2]
        exact Nat.le_of_ble_eq_true this
      have hy := yield_run (P := G) hob (args := xs.toArray) (by simp [← hxs.length, hlen])
      have hfold : (ps.toArray.zip xs.toArray).foldl (fun tmps x => match x with | (t, a) => tmps.setIfInBounds t a) tmps = (ps.zip xs).foldl (fun a p => a.setIfInBounds p.1 p.2) tmps := by
        rw [← Array.foldl_toList, Array.toList_zip]
      simp only at hy
      rw [hfold] at hy
      generalize htt : (ps.zip xs).foldl (fun a p => a.setIfInBounds p.1 p.2) tmps = tmps' at hy
      have htr : TR E (setArgs ps args tm) tmps' := by rw [← htt]; exact setArgs_ok ps args xs tm tmps hxs hlen hps h1
      have hsz : tmps'.size = n := by rw [← htt, fold_size]; exact h2
      let bf : Frame := { (default : Frame) with fn := fn, kind := .normal, roundOf := some b }
      have same : ∀ {cs cs'}, Mod bf cs cs' → cs' = cs := by
        intro cs cs' hm
        rcases hm with rfl | ⟨e, _⟩
        · rfl
        · cases e
      have hst : ∀ cs, St G W0 n bf (setArgs ps args tm) [] H .bar E w tmps' [] cs := fun cs => ⟨hr, hsz, htr, .nil, .bar cs⟩
      have k1 := fun cs => (codeK_ok hcall hrnd hdraw (b := bf) (fid := fn) rfl fuel assign (setArgs ps args tm) [] H .bar E w tmps' [] cs [.beginRound, .code body] hcf (hst cs)).1
      have hround : ∀ cs, lone (Frame.round b fn tmps' assign body .normal) cs w = lone (Fr bf tmps' (.code assign :: [.beginRound, .code body]) []) cs w := fun cs => rfl
      split
      · rename_i tm1 H1 rc1 hc1
        split
        · rename_i pend' fn' n' tm' ps' a' b2 d' hg1
          rw [PT.putK_eq]
          -- behind the assignment
          have k2 : ∀ cs, ∃ E1 w1 arr1, Mv G W0 E H.f H.nx.toNat w E1 (Hp.f ⟨H1.nx, PT.put l H1.tab (some (.loop .busy pend' fn' n' tm' ps' a' b2 d'))⟩) H1.nx.toNat w1 ∧ TR E1 tm1 arr1 ∧ arr1.size = n ∧ E1.ρ l = some (b, c) ∧
              Steps G (lone (Frame.round b fn tmps' assign body .normal) cs w) (lone (Fr bf arr1 [.code body] []) cs w1) := by
            intro cs
            have h := k1 cs
            rw [hc1] at h
            obtain ⟨E1, w1, arr1, dv1, cs1, o, e⟩ := h
            have := same o.md
            subst this
            cases o.st.ds
            have hρ1 := o.mv.le.2 _ _ hρ
            obtain ⟨b3, c3, ob1, hρ3, _, hob1, hor1⟩ := o.mv.hr.obj _ _ hg1
            rw [hρ1] at hρ3
            cases hρ3
            cases hor1 with
            | loop g1 g2 g3 =>
            have hm := setObj_mv o.mv.hr hg1 hρ1 hob1 (.loop (st := .busy) (pend := pend') (fn := fn') (params := ps') (assign := a') (body := b2) g1 g2 g3)
            exact ⟨E1, _, arr1, o.mv.trans hm, o.st.tr, o.st.sz, hρ1, by rw [hround]; exact Steps.trans e (.one (st_begin (l := b) rfl (begin_run hob1 rfl)))⟩
          generalize hH2 : (⟨H1.nx, PT.put l H1.tab (some (.loop .busy pend' fn' n' tm' ps' a' b2 d'))⟩ : Hp) = H2 at k2
          have hnx2 : H2.nx = H1.nx := by rw [← hH2]
          rw [← hnx2] at k2
          have k3 : ∀ cs, ∃ E1 w1, Mv G W0 E H.f H.nx.toNat w E1 H2.f H2.nx.toNat w1 ∧ E1.ρ l = some (b, c) ∧ ∃ m, Steps G (lone (Frame.round b fn tmps' assign body .normal) cs w) m ∧ CodeOk G W0 n bf H2 E1 w1 cs m [] (codeK G cf call rnd n fn fuel body tm1 [] H2 .bar) := by
            intro cs
            obtain ⟨E1, w1, arr1, m1, t1, s1, p1, st1⟩ := k2 cs
            exact ⟨E1, w1, m1, p1, _, st1, (codeK_ok hcall hrnd hdraw (b := bf) (fid := fn) rfl fuel body tm1 [] H2 .bar E1 w1 arr1 [] cs [] (by rw [m1.le.1]; exact hcf) ⟨m1.hr, s1, t1, .nil, .bar cs⟩).1⟩
          -- how the round ends
          have fin : ∀ (jump : Option Code) {tm2 : PT AV} {H3 : Hp} {rc3 : RC} {ex : Ex}, codeK G cf call rnd n fn fuel body tm1 [] H2 .bar = .ok ex tm2 [] H3 rc3 →
              (∀ (E3 : Env) (w3 w4 : World) (arr3 : Array Value) (c0 : Frame) (cs : List Frame) (m : Machine), Ends G E3 bf [] arr3 [] (c0 :: cs) w3 m ex → (Instr.endRound b jump).run G w3 = .ok (.bool jump.isNone) w4 → Steps G m (lone (c0.finish (.bool jump.isNone)) cs w4)) →
              RndRes G W0 E H w b xs (roundEnd l jump H3) := by
            intro jump tm2 H3 rc3 ex hbody hend
            have k4 : ∀ (c0 : Frame) (cs : List Frame), (∃ e, roundEnd l jump H3 = .err e) ∨ ∃ H' E3 w4, roundEnd l jump H3 = .ret (.bool jump.isNone) H' ∧ Mv G W0 E H.f H.nx.toNat w E3 H'.f H'.nx.toNat w4 ∧ Steps G (lone (Frame.round b fn tmps' assign body .normal) (c0 :: cs) w) (lone (c0.finish (.bool jump.isNone)) cs w4) := by
              intro c0 cs
              obtain ⟨E1, w1, m1, p1, m, sm, hk⟩ := k3 (c0 :: cs)
              rw [hbody] at hk
              obtain ⟨E3, w3, arr3, dv3, cs3, o, e⟩ := hk
              have := same o.md
              subst this
              cases o.st.ds
              rcases roundEnd_ok o.mv.hr (o.mv.le.2 _ _ p1) jump with ⟨e', h⟩ | ⟨H', w4, h, hrun, mv⟩
              · exact .inl ⟨e', h⟩
              · exact .inr ⟨H', E3, w4, h, m1.trans (o.mv.trans mv), sm.trans (hend E3 w3 w4 arr3 c0 cs m e hrun)⟩
            cases hre : roundEnd l jump H3 with
            | err e => trivial
            | pan v H' =>
              rcases k4 default [] with ⟨e, h⟩ | ⟨H'', E3, w4, h, _⟩
              · rw [h] at hre; cases hre
              · rw [h] at hre; cases hre
            | ret v H' =>
              refine ⟨_, _, _, _, hy, fun c0 cs => ?_⟩
              rcases k4 c0 cs with ⟨e, h⟩ | ⟨H'', E3, w4, h, mv, st⟩
              · rw [h] at hre; cases hre
              · rw [h] at hre; cases hre
                exact ⟨E3, w4, _, mv, .bool _, st⟩
          split
          · rename_i hbody
            exact fin none hbody (fun E3 w3 w4 arr3 c0 cs m e hrun => Steps.trans e (.one (st_leave_end (l := b) rfl rfl hrun)))
          · rename_i hbody
            exact fin (some .ret) hbody (fun E3 w3 w4 arr3 c0 cs m e hrun => by obtain ⟨j, e⟩ := e; exact Steps.trans e (.one (st_leave_ret (l := b) rfl rfl hrun)))
          · rename_i id _ _ _ hbody
            exact fin (some (.exit id)) hbody (fun E3 w3 w4 arr3 c0 cs m e hrun => by obtain ⟨j, e1, e⟩ := e; exact Steps.trans e (.one (st_leave_exit (l := b) rfl rfl (by rw [e1]; rfl) hrun)))
          · rename_i v tm2 H3 rc3 hbody
            refine ⟨_, _, _, _, hy, fun c0 cs => ?_⟩
            obtain ⟨E1, w1, m1, p1, m, sm, hk⟩ := k3 (c0 :: cs)
            rw [hbody] at hk
            obtain ⟨E3, w3, arr3, dv3, cs3, o, x, j, hv, e⟩ := hk
            have := same o.md
            subst this
            cases o.st.ds
            refine ⟨E3, w3, x, m1.trans o.mv, hv, sm.trans (Steps.trans e (.one ?_))⟩
            exact step_lone_go (by simp [stepG, unwind, Frame.catches, Fr, bf, hfn])
          · trivial
          · trivial
        · trivial
      · trivial
      · trivial
    · trivial
  · trivial
theorem bothN_ok [GlOk cf.gl W0] (hdraw : ∀ call, CallOk G W0 cf call → DrawOk G W0 cf call) (fuel : Nat) : ∀ d, CallOk G W0 cf (bothN G cf fuel d).1 ∧ RndOk G W0 cf (bothN G cf fuel d).2
  | 0 => ⟨fun _ _ _ _ _ _ _ _ _ => trivial, fun _ _ _ _ _ _ _ _ _ _ _ _ => trivial⟩
  | d + 1 => let h := bothN_ok hdraw fuel d; ⟨frameK_ok h.1 h.2 (hdraw _ h.1) fuel, roundK_ok h.1 h.2 (hdraw _ h.1) fuel⟩
theorem callN_ok [GlOk cf.gl W0] (hdraw : ∀ call, CallOk G W0 cf call → DrawOk G W0 cf call) (fuel d : Nat) : CallOk G W0 cf (callN G cf fuel d) := (bothN_ok hdraw fuel d).1
end Go.Ai
