/- A region in the row of its text. -/
import Derived.Test.YtfedjkcigdgcoaaGreatDoorAiO
namespace Go.Ai
open Go Go.RowKit
set_option linter.unusedVariables false
variable {G : Program} {W0 : World} {cf : Cf}
theorem regK_cons (call : CallF) (rnd : RndF) (n : Nat) (ops : List Oper) (o : Oper) (rest : List Oper) (tm : PT AV) (ds : List AD) (H : Hp) (rc : RC) :
    regK G cf call rnd n ops (o :: rest) tm ds H rc = match wantO ops o tm with
    | none => .err 60
    | some false => putT n o.dst tm (.tup []) (fun r => match r with | some tm => regK G cf call rnd n ops rest tm ds H rc | none => .err 61)
    | some true => match opK G cf o (evO tm) H with
      | .rd v => putT n o.dst tm v (fun r => match r with | some tm => regK G cf call rnd n ops rest tm ds H rc | none => .err 61)
      | .al ob mk => P.nextK H.nx (fun nx' => PT.putK H.nx H.tab (some ob) (fun t' => putT n o.dst tm (mk H.nx) (fun r => match r with | some tm => regK G cf call rnd n ops rest tm ds ⟨nx', t'⟩ rc | none => .err 61)))
      | .wv v H => putT n o.dst tm v (fun r => match r with | some tm => regK G cf call rnd n ops rest tm ds H rc | none => .err 61)
      | .wu H => putT n o.dst tm (.tup []) (fun r => match r with | some tm => regK G cf call rnd n ops rest tm ds H rc | none => .err 61)
      | .call f args => match call f args H with
        | .ret v H => putT n o.dst tm v (fun r => match r with | some tm => regK G cf call rnd n ops rest tm ds H rc | none => .err 61)
        | .pan v H => .ok (.pan v) tm ds H rc
        | .err k => .err k
      | .defer f args cap => match rc with
        | .bar => .err 63
        | _ => putT n o.dst tm (.tup []) (fun r => match r with | some tm => regK G cf call rnd n ops rest tm (.call f args cap :: ds) H rc | none => .err 61)
      | .recover => match rc with
        | .bar => .err 63
        | .avail v => putT n o.dst tm v (fun r => match r with | some tm => regK G cf call rnd n ops rest tm ds H .used | none => .err 61)
        | _ => putT n o.dst tm .if0 (fun r => match r with | some tm => regK G cf call rnd n ops rest tm ds H rc | none => .err 61)
      | .pan v => .ok (.pan v) tm ds H rc
      | .sel v => putT n o.dst tm v (fun r => match r with | some tm => regK G cf call rnd n ops rest tm ds H rc | none => .err 61)
      | .yield l args => match rnd l args H with
        | .ret v H => putT n o.dst tm v (fun r => match r with | some tm => regK G cf call rnd n ops rest tm ds H rc | none => .err 61)
        | .pan v H => .ok (.pan v) tm ds H rc
        | .err k => .err k
      | .err k => .err k := by
  have key : ∀ (ds : List AD) (H : Hp) (rc : RC) (v : AV), sRd n o.dst (regK G cf call rnd n ops rest) tm ds H rc v = putT n o.dst tm v (fun r => match r with | some tm => regK G cf call rnd n ops rest tm ds H rc | none => .err 61) :=
    fun ds H rc v => putC_eq n o.dst tm v (fun tm => regK G cf call rnd n ops rest tm ds H rc)
  change regS G cf call rnd n ops o (regK G cf call rnd n ops rest) tm ds H rc = _
  unfold regS
  rw [wantF_eq]
  cases wantO ops o tm with
  | none => rfl
  | some b =>
    cases b with
    | false => exact key ds H rc (.tup [])
    | true =>
      change regDo G cf call rnd n o o.dst (regK G cf call rnd n ops rest) tm ds H rc = _
      unfold regDo
      rw [opF_eq]
      cases opK G cf o (evO tm) H with
      | rd v => exact key ds H rc v
      | wv v H => exact key ds H rc v
      | wu H => exact key ds H rc (.tup [])
      | al ob mk => exact congrArg (P.nextK H.nx) (funext fun nx' => congrArg (PT.putK H.nx H.tab (some ob)) (funext fun t' => putC_eq n o.dst tm (mk H.nx) (fun tm => regK G cf call rnd n ops rest tm ds ⟨nx', t'⟩ rc)))
      | call f args =>
        change sEnd n o.dst (regK G cf call rnd n ops rest) tm ds rc (call f args H) = match call f args H with
          | .ret v H => putT n o.dst tm v (fun r => match r with | some tm => regK G cf call rnd n ops rest tm ds H rc | none => .err 61)
          | .pan v H => .ok (.pan v) tm ds H rc
          | .err k => .err k
        cases call f args H with
        | ret v H => exact key ds H rc v
        | pan v H => rfl
        | err k => rfl
      | defer f args cap =>
        cases rc with
        | bar => rfl
        | no => exact key (.call f args cap :: ds) H .no (.tup [])
        | avail v => exact key (.call f args cap :: ds) H (.avail v) (.tup [])
        | used => exact key (.call f args cap :: ds) H .used (.tup [])
      | recover =>
        cases rc with
        | bar => rfl
        | no => exact key ds H .no .if0
        | avail v => exact key ds H .used v
        | used => exact key ds H .used .if0
      | yield l a =>
        change sEnd n o.dst (regK G cf call rnd n ops rest) tm ds rc (rnd l a H) = match rnd l a H with
          | .ret v H => putT n o.dst tm v (fun r => match r with | some tm => regK G cf call rnd n ops rest tm ds H rc | none => .err 61)
          | .pan v H => .ok (.pan v) tm ds H rc
          | .err k => .err k
        cases rnd l a H with
        | ret v H => exact key ds H rc v
        | pan v H => rfl
        | err k => rfl
      | pan v => rfl
      | sel v => exact key ds H rc v
      | err k => rfl
/-- one more operation done: on with the rest -/
theorem go_on {n : Nat} {b : Frame} {H H' : Hp} {E E' : Env} {w w' : World} {cs cs' : List Frame} {m m' : Machine} {k : List Item} {tm : PT AV} {v : AV} {x : Value} {ds' : List AD} {rc' : RC} {arr : Array Value} {dv' : List Deferred} {d : Option Nat} {F : PT AV → CR}
    (htr : TR E tm arr) (hsz : arr.size = n) (hmv : Mv G W0 E H.f H.nx.toNat w E' H'.f H'.nx.toNat w') (hv : VR E' v x) (hds : DsR E' ds' dv') (hrc : RcR E' b rc' cs') (hmd : Mod b cs cs') (hst : Steps G m m')
    (next : ∀ tm', St G W0 n b tm' ds' H' rc' E' w' (putA arr d x) dv' cs' → CodeOk G W0 n b H' E' w' cs' m' k (F tm')) :
    CodeOk G W0 n b H E w cs m k (putT n d tm v (fun r => match r with | some tm => F tm | none => .err 61)) := by
  rw [putT_eq]
  cases hp : putF n d tm v with
  | none => trivial
  | some tm' =>
    have st : St G W0 n b tm' ds' H' rc' E' w' (putA arr d x) dv' cs' := ⟨hmv.hr, by rw [putA_size]; exact hsz, putF_ok hp (htr.mono hmv.le) hsz hv, hds, hrc⟩
    exact CodeOk.then ⟨hmv, st, hmd⟩ hst (next tm' st)
theorem regK_ok [GlOk cf.gl W0] {call : CallF} {rnd : RndF} (hcall : CallOk G W0 cf call) (hrnd : RndOk G W0 cf rnd) {n : Nat} {b : Frame} {ops : Array Oper} : ∀ (rest : List Oper) (i : Nat), ops.toList.drop i = rest → ∀ (tm : PT AV) (ds : List AD) (H : Hp) (rc : RC) (E : Env) (w : World) (arr : Array Value) (dv : List Deferred) (cs : List Frame) (k : List Item),
    cf.ok E.σ → St G W0 n b tm ds H rc E w arr dv cs →
    CodeOk G W0 n b H E w cs (lone (Fr b arr (.inRegion ops (List.range' i rest.length) :: k) dv) cs w) k (regK G cf call rnd n ops.toList rest tm ds H rc) := by
  intro rest
  induction rest with
  | nil =>
    intro i _ tm ds H rc E w arr dv cs k hcf st
    exact ⟨E, w, arr, dv, cs, ⟨Mv.refl st.hr, st, .refl _ _⟩, .one st_region_end⟩
  | cons o rest ih =>
    intro i hdrop tm ds H rc E w arr dv cs k hcf st
    have hdrop' : ops.toList.drop (i + 1) = rest := by
      rw [← List.drop_drop, hdrop]; rfl
    have ho : ops[i]? = some o := by
      have : ops.toList[i]? = some o := by
        have := List.getElem?_drop (xs := ops.toList) (i := i) (j := 0)
        rw [hdrop] at this
        simpa using this.symm
      simpa using this
    have hrange : List.range' i (o :: rest).length = i :: List.range' (i + 1) rest.length := by simp [List.range'_succ]
    rw [hrange, regK_cons]
    have IH := ih (i + 1) hdrop'
    cases hwant : wantO ops.toList o tm with
    | none => trivial
    | some bl =>
    have hw := wantO_ok st.tr hwant
    cases bl with
    | false =>
      refine go_on st.tr st.sz (Mv.refl st.hr) (vr_undef E) st.ds st.rc (.refl _ _) (.one ?_) (fun tm' st' => IH tm' ds H rc E w _ dv cs k hcf st')
      have := st_op_skip (P := G) (b := b) (arr := arr) (ds := dv) (k := k) (cs := cs) (w := w) (ops := ops) (i := i) (rest := List.range' (i + 1) rest.length) (by simp [ho, hw])
      rw [ho] at this
      exact this
    | true =>
    have hop := opK_ok hcf st.hr (o := o) (evO_ok (a := ⟨arr, dv⟩) st.tr)
    have hbar : ∀ {q}, q = opK G cf o (evO tm) H → (∀ f a c, q ≠ .defer f a c) → (∀ e, q ≠ .err e) → b.roundOf = none ∨ ∀ c, o.op ≠ .defer c := by
      intro q hq h1 h2
      refine .inr fun c hc => ?_
      rcases opK_defer (G := G) (cf := cf) (ev := evO tm) (H := H) hc with ⟨f, a, cap, e⟩ | ⟨e, he⟩
      · exact h1 f a cap (hq.trans e)
      · exact h2 e (hq.trans he)
    simp only
    generalize hq : opK G cf o (evO tm) H = q at hop
    cases q with
    | err e => trivial
    | yield l a =>
      obtain ⟨bl, cl, xs, hρ, hrun, hxs⟩ := hop
      have hb := hbar hq.symm (by simp) (by simp)
      have hc := hrnd l a H E w xs bl cl hcf st.hr hρ hxs
      simp only
      cases hr : rnd l a H with
      | err e => trivial
      | ret v H' =>
        rw [hr] at hc
        obtain ⟨fn, tmps, assign, body, hy, hc⟩ := hc
        obtain ⟨E', w', x, mv, hv, hsteps⟩ := hc (Fr b arr (.inRegion ops (i :: List.range' (i + 1) rest.length) :: k) dv) cs
        refine go_on st.tr st.sz mv hv (st.ds.mono mv.le) (st.rc.mono mv.le) (.refl _ _) (.head (st_round ho hw hb (hrun.trans hy)) ?_) (fun tm' st' => IH tm' ds H' rc E' w' _ dv cs k (by rw [mv.le.1]; exact hcf) st')
        rw [Fr_finish, ho] at hsteps
        exact hsteps
      | pan v H' =>
        rw [hr] at hc
        obtain ⟨fn, tmps, assign, body, hy, hc⟩ := hc
        obtain ⟨E', w', x, mv, hv, hsteps⟩ := hc (Fr b arr (.inRegion ops (i :: List.range' (i + 1) rest.length) :: k) dv) cs
        exact ⟨E', w', arr, dv, cs, ⟨mv, ⟨mv.hr, st.sz, st.tr.mono mv.le, st.ds.mono mv.le, st.rc.mono mv.le⟩, .refl _ _⟩, x, .inRegion ops (i :: List.range' (i + 1) rest.length) :: k, hv, .head (st_round ho hw hb (hrun.trans hy)) hsteps⟩
    | sel v =>
      obtain ⟨c, z, cap, sn, rcv, cl, tmr, hrun, hch, hv⟩ := hop
      exact go_on st.tr st.sz (Mv.refl st.hr) hv st.ds st.rc (.refl _ _) (.one (st_sel ho hw (hbar hq.symm (by simp) (by simp)) hrun hch)) (fun tm' st' => IH tm' ds H rc E w _ dv cs k hcf st')
    | rd v =>
      obtain ⟨x, hrun, hv⟩ := hop
      exact go_on st.tr st.sz (Mv.refl st.hr) hv st.ds st.rc (.refl _ _) (.one (st_value ho hw (hbar hq.symm (by simp) (by simp)) hrun)) (fun tm' st' => IH tm' ds H rc E w _ dv cs k hcf st')
    | al ob mk =>
      obtain ⟨obj, x, nn, c, hrun, hal⟩ := hop
      simp only
      rw [P.nextK_eq, PT.putK_eq]
      have hnone : E.ρ H.nx = none := by
        cases hρ : E.ρ H.nx with
        | none => rfl
        | some y => exact absurd (st.hr.dom _ _ hρ) (by omega)
      have hE := Env.le_add (x := (w.heap.size, c)) hnone
      obtain ⟨hor, hvr⟩ := hal _ H.nx hE (Env.add_same _ _ _)
      have mv := Mv.new st.hr hnone (nx' := (P.next H.nx).toNat) (by rw [P.toNat_next]; omega) (by rw [P.toNat_next]; omega) c hor (Nat.le_refl _)
      have mv2 := mv.trans (Mv.same (w' := { w with heap := w.heap.push obj, drawn := w.drawn + nn }) mv.hr rfl rfl rfl rfl)
      have mv3 : Mv G W0 E H.f H.nx.toNat w (E.add H.nx (w.heap.size, c)) (Hp.f ⟨P.next H.nx, PT.put H.nx H.tab (some ob)⟩) (P.next H.nx).toNat { w with heap := w.heap.push obj, drawn := w.drawn + nn } := by
        have : Hp.f ⟨P.next H.nx, PT.put H.nx H.tab (some ob)⟩ = upd H.f H.nx (some ob) := put_upd _ _ _
        rw [this]; exact mv2
      exact go_on (H' := ⟨P.next H.nx, PT.put H.nx H.tab (some ob)⟩) st.tr st.sz mv3 hvr (st.ds.mono mv3.le) (st.rc.mono mv3.le) (.refl _ _) (.one (st_value ho hw (hbar hq.symm (by simp) (by simp)) hrun)) (fun tm' st' => IH tm' ds _ rc _ _ _ dv cs k hcf st')
    | wv v H' =>
      obtain ⟨x, w', E', hrun, mv, hv⟩ := hop
      exact go_on st.tr st.sz mv hv (st.ds.mono mv.le) (st.rc.mono mv.le) (.refl _ _) (.one (st_value ho hw (hbar hq.symm (by simp) (by simp)) hrun)) (fun tm' st' => IH tm' ds H' rc E' w' _ dv cs k (by rw [mv.le.1]; exact hcf) st')
    | wu H' =>
      obtain ⟨w', E', hrun, mv⟩ := hop
      exact go_on st.tr st.sz mv (vr_undef E') (st.ds.mono mv.le) (st.rc.mono mv.le) (.refl _ _) (.one (st_unit ho hw (hbar hq.symm (by simp) (by simp)) hrun)) (fun tm' st' => IH tm' ds H' rc E' w' _ dv cs k (by rw [mv.le.1]; exact hcf) st')
    | call f args =>
      obtain ⟨xs, hrun, hxs⟩ := hop
      have hb := hbar hq.symm (by simp) (by simp)
      have hc := hcall f args H E w xs hcf st.hr hxs
      simp only
      cases hr : call f args H with
      | err e => trivial
      | ret v H' =>
        rw [hr] at hc
        obtain ⟨e, w', fr, ⟨E', x, rfl, mv, hv⟩, hsteps, _, hleave⟩ := hc (Fr b arr (.inRegion ops (i :: List.range' (i + 1) rest.length) :: k) dv :: cs)
        refine go_on st.tr st.sz mv hv (st.ds.mono mv.le) (st.rc.mono mv.le) (.refl _ _) (.head (st_enter ho hw hb hrun) (hsteps.trans (.one ?_))) (fun tm' st' => IH tm' ds H' rc E' w' _ dv cs k (by rw [mv.le.1]; exact hcf) st')
        have := step_leave_returned (c := Fr b arr (.inRegion ops (i :: List.range' (i + 1) rest.length) :: k) dv) (cs := cs) hleave
        rw [Fr_finish, ho] at this
        exact this
      | pan v H' =>
        rw [hr] at hc
        obtain ⟨e, w', fr, ⟨E', x, rfl, mv, hv⟩, hsteps, _, hleave⟩ := hc (Fr b arr (.inRegion ops (i :: List.range' (i + 1) rest.length) :: k) dv :: cs)
        refine ⟨E', w', arr, dv, cs, ⟨mv, ⟨mv.hr, st.sz, st.tr.mono mv.le, st.ds.mono mv.le, st.rc.mono mv.le⟩, .refl _ _⟩, x, .inRegion ops (i :: List.range' (i + 1) rest.length) :: k, hv, .head (st_enter ho hw hb hrun) (hsteps.trans (.one ?_))⟩
        exact step_leave_panicked (c := Fr b arr (.inRegion ops (i :: List.range' (i + 1) rest.length) :: k) dv) (cs := cs) hleave
    | defer f args cap =>
      obtain ⟨xs, ys, hrun, h1, h2⟩ := hop
      have fin : rc ≠ .bar → CodeOk G W0 n b H E w cs (lone (Fr b arr (.inRegion ops (i :: List.range' (i + 1) rest.length) :: k) dv) cs w) k (putT n o.dst tm (.tup []) (fun r => match r with | some tm => regK G cf call rnd n ops.toList rest tm (.call f args cap :: ds) H rc | none => .err 61)) := by
        intro hne
        exact go_on st.tr st.sz (Mv.refl st.hr) (vr_undef E) (.call h1 h2 st.ds) st.rc (.refl _ _) (.one (st_defer ho hw (.inl (st.rc.round hne)) hrun)) (fun tm' st' => IH tm' _ H rc E w _ _ cs k hcf st')
      cases rc with
      | bar => trivial
      | no => exact fin (by simp)
      | avail v => exact fin (by simp)
      | used => exact fin (by simp)
    | recover =>
      have hb := hbar hq.symm (by simp) (by simp)
      have hrun : (execOp (Act.eval ⟨arr, dv⟩) o).run G w = .ok .recover w := hop
      have hif : VR E .if0 .nilIface := .if0
      cases hrc : st.rc with
      | bar => trivial
      | no h1 h2 =>
        refine go_on st.tr st.sz (Mv.refl st.hr) hif st.ds st.rc (.refl _ _) (.one (st_norecover ho hw hb h1 hrun ?_)) (fun tm' st' => IH tm' ds H _ E w _ dv _ k hcf st')
        simp [tryRecover, Fr, h2]
      | ret h1 h2 hm =>
        refine go_on st.tr st.sz (Mv.refl st.hr) hif st.ds st.rc (.refl _ _) (.one (st_norecover ho hw hb h1 hrun ?_)) (fun tm' st' => IH tm' ds H _ E w _ dv _ k hcf st')
        simp [tryRecover, Fr, h2, hm]
      | used h1 h2 hm =>
        refine go_on st.tr st.sz (Mv.refl st.hr) hif st.ds st.rc (.refl _ _) (.one (st_norecover ho hw hb h1 hrun ?_)) (fun tm' st' => IH tm' ds H _ E w _ dv _ k hcf st')
        simp [tryRecover, Fr, h2, hm]
      | avail h1 h2 hm hv =>
        rename_i c cs0 v x
        refine go_on (cs' := { c with mode := .panicking [{ v := x, recovered := true }] } :: cs0) (rc' := .used) st.tr st.sz (Mv.refl st.hr) hv st.ds (.used h1 h2 rfl) (.inr ⟨h2, c, cs0, _, rfl, rfl⟩) (.one (st_recover ho hw hb h1 hrun ?_)) (fun tm' st' => IH tm' ds H _ E w _ dv _ k hcf st')
        simp [tryRecover, Fr, h2, hm]
    | pan v =>
      obtain ⟨x, hrun, hv⟩ := hop
      exact ⟨E, w, arr, dv, cs, ⟨Mv.refl st.hr, st, .refl _ _⟩, x, _, hv, .one (st_panic ho hw (hbar hq.symm (by simp) (by simp)) hrun)⟩
end Go.Ai
