/- Regions of open order: sound. -/
import Derived.Test.YtfedjkcigdgcoaaGreatDoorAiV
namespace Go.Ai
open Go Go.RowKit
set_option linter.unusedVariables false
variable {G : Program} {W0 : World} {cf : Cf} {call : CallF} {n : Nat} {opsA : Array Oper} {as : List Nat} {names : List P} {tm0 : PT AV} {H00 : Hp} {q : Tq}
theorem Tr.nodup {ops : List Oper} {q : Tq} (h : Tr G cf call n ops as names tm0 H00 q) : q.s.wl.Nodup := by
  induction h with
  | nil => simp
  | cons h ho hs ih =>
    cases hs with
    | wr => exact List.nodup_cons.2 ⟨fun hm => Nat.lt_irrefl _ (h.facts.wlt _ hm), ih⟩
    | _ => exact ih
theorem snaps_done : ∀ {wl : List Nat} {hs : List Hp} {nxt : Option Nat} {s : Sn}, s ∈ snaps wl hs nxt → ∀ w ∈ s.done, w ∈ wl
  | [], [], nxt, s, h, w, hw => by cases h
  | [], H :: hs, nxt, s, h, w, hw => by
    have := List.mem_singleton.1 h
    subst this
    exact hw
  | v :: wl, [], nxt, s, h, w, hw => by cases h
  | v :: wl, H :: hs, nxt, s, h, w, hw => by
    rcases List.mem_cons.1 h with rfl | h
    · exact hw
    · exact List.mem_cons_of_mem _ (snaps_done (nxt := some v) h w hw)
theorem snaps_len : ∀ {wl : List Nat} {hs : List Hp} {nxt : Option Nat}, hs.length = wl.length + 1 → (snaps wl hs nxt).length = wl.length + 1
  | [], [], nxt, h => by simp at h
  | [], H :: hs, nxt, h => rfl
  | v :: wl, [], nxt, h => by simp at h
  | v :: wl, H :: hs, nxt, h => by
    show (⟨H, v :: wl, nxt⟩ :: snaps wl hs (some v)).length = _
    rw [List.length_cons, snaps_len (nxt := some v) (by simpa using h)]; rfl
structure Cx (G : Program) (W0 : World) (cf : Cf) (call : CallF) (n : Nat) (opsA : Array Oper) (as : List Nat) (names : List P) (tm0 : PT AV) (H00 : Hp) (q : Tq) (E0 : Env) (nx0 nxr : Nat) : Prop where
  tr : Tr G cf call n opsA.toList as names tm0 H00 q
  stat : regStatic opsA.toList as = true
  tes : ordB as opsA.toList 0 = true ∨ tesOk G cf opsA.toList as q.s.xs (snaps q.s.wl q.s.hs none) q.s.rl = true
  call : CallOk G W0 cf call
  cf : cf.ok E0.σ
  nlo : ∀ (i : Nat) (l : P), names[i]? = some l → nx0 ≤ l.toNat ∧ l.toNat < nxr
  ninj : ∀ (i j : Nat) (l : P), names[i]? = some l → names[j]? = some l → i = j
theorem al_none {E0 : Env} {nx0 nxr : Nat} (cx : Cx G W0 cf call n opsA as names tm0 H00 q E0 nx0 nxr) {S : Nat → Prop} (clo : ∀ i, S i → ∀ x, bit (gD as i) x = true → S x) {X : Hp} (hb : Base S q.s.wl q.s.hs X) {x : Nat × P × AObj} (hx : x ∈ q.s.xs)
    (hun : ∀ w ∈ q.s.wl, S w → bit (gD as w) x.1 = false) : PT.get x.2.1 X.tab = none := by
  have F := cx.tr.facts
  obtain ⟨v, hr⟩ := F.xrec x hx
  have tes : tesOk G cf opsA.toList as q.s.xs (snaps q.s.wl q.s.hs none) q.s.rl = true := by
    rcases cx.tes with h | h
    · rw [ord_xs cx.tr h] at hx; cases hx
    · exact h
  obtain ⟨o, ho, ht⟩ := tes_at tes x.1 _ hr
  obtain ⟨s, hs, rfl, h2, h3, h4⟩ := snaps_mem clo (nxt := none) F.ch hb (fun w e => by cases e)
  have := allL_mem (show allL _ _ = true from ht) s hs
  have hany : anyBit as x.1 s.done = false := by
    cases h : anyBit as x.1 s.done with
    | false => rfl
    | true =>
      obtain ⟨w, hw, hbt⟩ := anyBit_iff.1 h
      rw [hun w (snaps_done hs w hw) (h2 w hw)] at hbt; cases hbt
  simp only [hany] at this
  cases hg : PT.get x.2.1 s.H.tab with
  | none => rfl
  | some o => rw [hg] at this; cases this
theorem exec_one [GlOk cf.gl W0] {E0 : Env} {F0 : P → Option AObj} {nx0 nxr : Nat} {w0 : World} (cx : Cx G W0 cf call n opsA as names tm0 H00 q E0 nx0 nxr) {S : Nat → Prop} (clo : ∀ i, S i → ∀ x, bit (gD as i) x = true → S x) {E : Env} {w : World} {X : Hp} {U : P → Option AObj} {arr : Array Value}
    (hI : HI G W0 as q E0 F0 nx0 nxr w0 S E w X U) (tmi : TmI opsA.toList q tm0 n S E arr) {i : Nat} (hi : ¬ S i) (hcl : ∀ x, bit (gD as i) x = true → S x) (hlt : i < q.s.rl.length) (b : Frame) (k : List Item) (dv : List Deferred) (cs : List Frame) (rest : List Nat) :
    ∃ E' w' X' U' arr', HI G W0 as q E0 F0 nx0 nxr w0 (Sx S i) E' w' X' U' ∧ TmI opsA.toList q tm0 n (Sx S i) E' arr' ∧ Steps G (lone (Fr b arr (.inRegion opsA (i :: rest) :: k) dv) cs w) (lone (Fr b arr' (.inRegion opsA rest :: k) dv) cs w') := by
  have F := cx.tr.facts
  obtain ⟨q1, o, te, q2, h1, rfl, ho, hts, hext2⟩ := cx.tr.at hlt
  have hext1 := hts.ext.trans hext2
  have F1 := h1.facts
  have hlook := looks_ok cx.stat clo tmi h1 hext1 ho hi hcl
  have hoA : opsA[q1.s.rl.length]? = some o := by simpa using ho
  have hrec : rec? q q1.s.rl.length = some te := by
    rw [hext2.rc _ (by rw [hts.rl]; simp)]; exact hts.rec_new
  have hput := hts.put
  have hcf : cf.ok E.σ := by rw [hI.mv.le.1]; exact cx.cf
  have hbar : ∀ {T : Hp} {r}, opK G cf o (evR q1.tm o) T = r → (∀ f a c, r ≠ .defer f a c) → (∀ e, r ≠ .err e) → b.roundOf = none ∨ ∀ c, o.op ≠ .defer c := by
    intro T r hq h1 h2
    refine .inr fun c hc => ?_
    rcases opK_defer (G := G) (cf := cf) (ev := evR q1.tm o) (H := T) hc with ⟨f, a, cap, e⟩ | ⟨e, he⟩
    · exact h1 f a cap (hq.symm.trans e)
    · exact h2 e (hq.symm.trans he)
  have hev : EvR E (evR q1.tm o) (Act.eval ⟨arr, dv⟩) := evR_ok hlook
  have notw : (∀ v, te ≠ .wr v) → q1.s.rl.length ∉ q.s.wl := fun hne hm => by
    obtain ⟨v, hv⟩ := F.wrec _ hm
    rw [hrec] at hv; cases hv; exact hne v rfl
  have notx : (∀ l ob v, te ≠ .al l ob v) → ∀ x ∈ q.s.xs, x.1 ≠ q1.s.rl.length := fun hne x hx e => by
    obtain ⟨v, hv⟩ := F.xrec x hx
    rw [e, hrec] at hv; cases hv; exact hne _ _ _ rfl
  cases hts with
  | skip hw hp =>
    have hwr := wanted_ok' hlook hw
    refine ⟨E, w, X, U, _, hI.skip (notw (by simp)) (notx (by simp)), tmi_put cx.stat (Env.le.refl E) tmi ho hi hrec hput (x := undef) (vr_undef E), .one ?_⟩
    have := st_op_skip (P := G) (b := b) (arr := arr) (ds := dv) (k := k) (cs := cs) (w := w) (ops := opsA) (i := q1.s.rl.length) (rest := rest) (by simp [hoA, hwr])
    rw [hoA] at this
    exact this
  | rd hw hop hp =>
    rename_i v tm'
    have hwr := wanted_ok' hlook hw
    have hT : ∃ T, (∀ l o, PT.get l T = some o → U l = some o) ∧ opK G cf o (evR q1.tm o) ⟨X.nx, T⟩ = .rd v := by
      rcases cx.tes with hord | tes
      · -- in its order: the heap is the one that the row of the text had
        by_cases hf : hfree o.op = true
        · refine ⟨.e, (fun l o e => by
            have e' : PT.get l (PT.e : PT AObj) = some o := e
            rw [PT.get_e] at e'; cases e'), ?_⟩
          rw [← hop]
          exact free_indep hf
        · have hk0 : kindO o.op ≠ 0 := by
            intro hk
            unfold kindO at hk
            split at hk <;> first | omega | skip
            all_goals (split at hk <;> first | omega | skip)
            all_goals (first | (rename_i hh; exact hf hh) | skip)
          have W := wl_kind cx.tr hord
          have hxs := ord_xs cx.tr hord
          have hxs1 : q1.s.xs = [] := ord_xs h1 hord
          -- the record at this place is one
          obtain ⟨b2, c2, k1, k2, k3⟩ := hext2.ws
          simp only at k2 k3
          have hge : ∀ x ∈ c2, q1.s.rl.length < x := fun x hx => hext2.lt c2 k3 x hx
          have hS : ∀ x ∈ c2, ¬ S x := by
            intro x hx hs
            have hm : x ∈ q.s.wl := by rw [k3]; exact List.mem_append_left _ hx
            obtain ⟨_, o2, m1, m2⟩ := W x hm
            exact hi (clo x hs _ (ord_bit hord (hge x hx) ho m1 hk0 (by omega) (.inr m2)))
          have hbase := hI.base
          rw [k3, k2] at hbase
          have hb1 := base_skip k1 hS hbase
          have hall : ∀ x ∈ q1.s.wl, S x := by
            intro x hx
            obtain ⟨m0, o2, m1, m2⟩ := wl_kind h1 hord x hx
            exact hcl x (ord_bit hord m0 m1 ho (by omega) hk0 (.inl m2))
          obtain ⟨l1, hl1⟩ := F1.hd
          have hX : X = q1.H := by
            rw [hl1] at hb1
            cases hwl : q1.s.wl with
            | nil => rw [hwl] at hb1; exact hb1
            | cons x xs =>
              rw [hwl] at hb1
              rcases hb1 with ⟨_, e⟩ | ⟨a, _⟩
              · exact e
              · exact absurd (hall x (by rw [hwl]; exact List.mem_cons_self)) a
          subst hX
          refine ⟨_, ?_, hop⟩
          intro l o' e
          rw [hxs1] at e
          exact hI.tab l o' e
      obtain ⟨o', ho', hte⟩ := tes_at tes _ _ hrec
      rw [ho] at ho'; cases ho'
      have cases2 : (∃ s, snaps q.s.wl q.s.hs none = [s]) ∨ hfree o.op = true ∨ allL (rereads G cf as q.s.xs q1.s.rl.length o q1.tm v) (snaps q.s.wl q.s.hs none) = true := by
        have hte' : (match snaps q.s.wl q.s.hs none with | [_] => true | _ => (match hfree o.op with | true => true | false => allL (rereads G cf as q.s.xs q1.s.rl.length o q1.tm v) (snaps q.s.wl q.s.hs none))) = true := hte
        split at hte'
        · rename_i s hs; exact .inl ⟨s, hs⟩
        · split at hte'
          · rename_i hf; exact .inr (.inl hf)
          · exact .inr (.inr hte')
      rcases cases2 with ⟨s, hs⟩ | hf | hall
      · have hl := snaps_len (wl := q.s.wl) (hs := q.s.hs) (nxt := none) F.ln
        rw [hs] at hl
        have hwl : q.s.wl = [] := List.length_eq_zero_iff.1 (by simpa using hl.symm)
        obtain ⟨bb, cc, e1, e2, e3⟩ := hext2.ws
        simp only at e2 e3
        rw [hwl] at e3
        have hcc : cc = [] := (List.append_eq_nil_iff.1 e3.symm).1
        have hw1 : q1.s.wl = [] := (List.append_eq_nil_iff.1 e3.symm).2
        subst hcc
        have hbb : bb = [] := List.length_eq_zero_iff.1 e1
        subst hbb
        obtain ⟨l1, hl1⟩ := F1.hd
        have hX : X = q1.H := by
          have := hI.base
          rw [hwl, e2, List.nil_append, hl1] at this
          exact this
        subst hX
        refine ⟨_, lay_sub hI hcl hext1.xs (done := q1.s.wl) (fun w hw => by rw [hwl] at hw; simp at hw), hop⟩
      · refine ⟨.e, (fun l o e => by
          have e' : PT.get l (PT.e : PT AObj) = some o := e
          rw [PT.get_e] at e'; cases e'), ?_⟩
        rw [← hop]
        exact free_indep hf
      · obtain ⟨s, hs, rfl, h2, h3, h4⟩ := snaps_mem clo (nxt := none) F.ch hI.base (fun w e => by cases e)
        have hr := allL_mem hall s hs
        unfold rereads at hr
        simp only [opF_eq] at hr
        have hany : anyBit as q1.s.rl.length s.done = false := by
          cases h : anyBit as q1.s.rl.length s.done with
          | false => rfl
          | true =>
            obtain ⟨w, hw, hbt⟩ := anyBit_iff.1 h
            exact absurd (clo w (h2 w hw) _ hbt) hi
        split at hr
        · rw [layT_eq] at hr
          refine ⟨_, lay_sub hI hcl (fun x hx => hx) (done := s.done) h4, ?_⟩
          split at hr
          · rename_i u hu
            rw [hu, same_eq hr]
          · cases hr
        · rename_i hne
          refine (hne ?_ hany).elim
          cases hsn : s.next with
          | none => rfl
          | some w =>
            simp only
            cases hbt : bit (gD as q1.s.rl.length) w with
            | false => rfl
            | true => exact absurd (hcl w hbt) (h3 w hsn)
    obtain ⟨T, hsub, hopT⟩ := hT
    have hk := opK_ok (H := ⟨X.nx, T⟩) hcf (hI.mv.hr.drop hsub) (o := o) hev
    rw [hopT] at hk
    obtain ⟨x, hrun, hv⟩ := hk
    exact ⟨E, w, X, U, _, hI.skip (notw (by simp)) (notx (by simp)), tmi_put cx.stat (Env.le.refl E) tmi ho hi hrec hput hv, .one (st_value hoA hwr (hbar hopT (by simp) (by simp)) hrun)⟩
  | al hw hop hal hl hp =>
    rename_i ob mk l tm'
    have hwr := wanted_ok' hlook hw
    have hop' : opK G cf o (evR q1.tm o) ⟨X.nx, .e⟩ = .al ob mk := by rw [← hop]; exact al_indep hal
    have hk := opK_ok (H := ⟨X.nx, .e⟩) hcf (hI.mv.hr.drop (fun l o e => by have e' : PT.get l PT.e = some o := e; rw [PT.get_e] at e'; cases e')) (o := o) hev
    rw [hop'] at hk
    obtain ⟨obj, x, nn, c, hrun, hal2⟩ := hk
    have hmem : (q1.s.rl.length, l, ob) ∈ q.s.xs := hext2.xs _ List.mem_cons_self
    have hnone : E.ρ l = none := hI.nm _ hmem hi
    have hE := Env.le_add (x := (w.heap.size, c)) hnone
    obtain ⟨hor, hvr⟩ := hal2 _ l hE (Env.add_same _ _ _)
    obtain ⟨hlo, hhi⟩ := cx.nlo _ _ hl
    have mv := Mv.newAt (nx1 := nx0) hI.mv.hr hnone (Nat.lt_of_lt_of_le hhi hI.nxr) hI.mv.up c hor hlo
    have mv2 := mv.trans (Mv.same (w' := { w with heap := w.heap.push obj, drawn := w.drawn + nn }) mv.hr rfl rfl rfl rfl)
    have mv3 := hI.mv.trans' mv2 (Nat.le_refl _)
    have uniq : ∀ x ∈ q.s.xs, x.1 = q1.s.rl.length → x = (q1.s.rl.length, l, ob) := by
      intro x hx e
      obtain ⟨v, hv⟩ := F.xrec x hx
      rw [e, hrec] at hv
      cases hv
      obtain ⟨x1, x2, x3⟩ := x
      simp only at e
      rw [e]
    have diff : ∀ x ∈ q.s.xs, x.1 ≠ q1.s.rl.length → x.2.1 ≠ l := by
      intro x hx e e2
      exact e (cx.ninj _ _ _ (F.xnm x hx) (by rw [e2]; exact hl))
    refine ⟨_, _, X, _, _, ⟨mv3, hI.base.congr (fun w' hw' => ⟨.inl, fun h => h.elim id (fun e => absurd (e ▸ hw') (notw (by simp)))⟩), hI.nxr, ?_, ?_, ?_⟩,
      tmi_put cx.stat hE tmi ho hi hrec hput hvr, .one (st_value hoA hwr (hbar hop' (by simp) (by simp)) hrun)⟩
    · intro x hx hs
      rw [Env.add_other _ _ (diff x hx (fun e => hs (.inr e)))]
      exact hI.nm x hx (fun h => hs (.inl h))
    · intro x hx hs hb
      by_cases e : x.1 = q1.s.rl.length
      · rw [uniq x hx e]; exact upd_same _ _ _
      · rw [upd_other _ _ (diff x hx e)]
        exact hI.xs x hx (hs.elim id (fun e' => absurd e' e)) (fun w' hw' hs' => hb w' hw' (.inl hs'))
    · intro l' o' e
      have hu := hI.tab l' o' e
      rw [upd_other]
      · exact hu
      · rintro rfl
        obtain ⟨b0, c0, _, e0, _⟩ := hI.mv.hr.obj _ _ hu
        rw [hnone] at e0; cases e0
  | wr hw hc hst hp =>
    rename_i v H' tm'
    have hwr := wanted_ok' hlook hw
    obtain ⟨bb, cc, e1, e2, e3⟩ := hext2.ws
    simp only at e2 e3
    obtain ⟨l1, hl1⟩ := F1.hd
    have hnd := cx.tr.nodup
    have hne : ∀ w' ∈ cc, w' ≠ q1.s.rl.length := by
      intro w' hw' e
      rw [e3, List.nodup_append] at hnd
      exact hnd.2.2 w' hw' _ List.mem_cons_self e
    have hch := F.ch
    have hbase := hI.base
    rw [e3] at hch
    rw [e3, e2, hl1] at hbase
    obtain ⟨hX, hbase'⟩ := base_next clo hi hc hcl e1 hch hne hbase
    rw [← hl1, ← e2, ← e3] at hbase'
    subst hX
    have himem : q1.s.rl.length ∈ q.s.wl := by rw [e3]; simp
    have hsub := lay_sub hI hcl hext1.xs (done := q1.s.wl) (fun w' hw' hs' => by
      rw [e3] at hw'
      rcases List.mem_append.1 hw' with hw' | hw'
      · exact absurd (chn_mem clo hch w' hw' hs') hi
      · rcases List.mem_cons.1 hw' with rfl | hw'
        · exact absurd hs' hi
        · exact hw')
    generalize hTd : layF as (gD as q1.s.rl.length) q1.s.wl q1.s.xs q1.H.tab = T at hsub hst
    have hrT := hI.mv.hr.drop hsub
    have hk := opK_ok (H := ⟨q1.H.nx, T⟩) hcf hrT (o := o) hev
    have step : ∃ E' w' x, Mv G W0 E (fun l => PT.get l T) q1.H.nx.toNat w E' H'.f H'.nx.toNat w' ∧ VR E' v x ∧ Steps G (lone (Fr b arr (.inRegion opsA (q1.s.rl.length :: rest) :: k) dv) cs w) (lone (Fr b (putA arr o.dst x) (.inRegion opsA rest :: k) dv) cs w') := by
      cases hst with
      | wv h =>
        rw [h] at hk
        obtain ⟨x, w', E', hrun, mv, hv⟩ := hk
        exact ⟨E', w', x, mv, hv, .one (st_value hoA hwr (hbar h (by simp) (by simp)) hrun)⟩
      | wu h =>
        rw [h] at hk
        obtain ⟨w', E', hrun, mv⟩ := hk
        exact ⟨E', w', undef, mv, vr_undef E', .one (st_unit hoA hwr (hbar h (by simp) (by simp)) hrun)⟩
      | call h hc =>
        rename_i f args
        rw [h] at hk
        obtain ⟨xs, hrun, hxs⟩ := hk
        have hcr := cx.call f args ⟨q1.H.nx, T⟩ E w xs hcf hrT hxs
        rw [hc] at hcr
        obtain ⟨e, w', fr, ⟨E', x, rfl, mv, hv⟩, hsteps, _, hleave⟩ := hcr (Fr b arr (.inRegion opsA (q1.s.rl.length :: rest) :: k) dv :: cs)
        refine ⟨E', w', x, mv, hv, .head (st_enter hoA hwr (hbar h (by simp) (by simp)) hrun) (hsteps.trans (.one ?_))⟩
        have := step_leave_returned (c := Fr b arr (.inRegion opsA (q1.s.rl.length :: rest) :: k) dv) (cs := cs) hleave
        rw [Fr_finish, hoA] at this
        exact this
    obtain ⟨E', w', x, mv, hv, hsteps⟩ := step
    let Xp : P → Prop := fun l => ∃ x ∈ q.s.xs, S x.1 ∧ x.2.1 = l ∧ ∀ w ∈ q.s.wl, Sx S q1.s.rl.length w → bit (gD as w) x.1 = false
    haveI : DecidablePred Xp := fun _ => Classical.propDecidable _
    have hXp : ∀ l, Xp l → PT.get l T = none := by
      rintro l ⟨y, hy, hys, rfl, hyb⟩
      cases hg : PT.get y.2.1 T with
      | none => rfl
      | some o' =>
        rw [← hTd] at hg
        rcases layF_get hg with ⟨z, hz, hzb, _, hzl, _⟩ | hg
        · have : z.1 = y.1 := cx.ninj _ _ _ (F.xnm z (hext1.xs z hz)) (by rw [hzl]; exact F.xnm y hy)
          rw [this, hyb _ himem (.inr rfl)] at hzb
          cases hzb
        · rw [al_none cx clo hI.base hy (fun w hw hs => hyb w hw (.inl hs))] at hg
          cases hg
    have mvU := Mv.frame hI.mv.hr hsub mv Xp hXp
    have clo' : ∀ j, Sx S q1.s.rl.length j → ∀ x, bit (gD as j) x = true → Sx S q1.s.rl.length x := by
      rintro j (hj | rfl) x hx
      · exact .inl (clo j hj x hx)
      · exact .inl (hcl x hx)
    refine ⟨E', w', H', _, _, ⟨hI.mv.trans mvU, hbase', Nat.le_trans hI.nxr mv.up, ?_, ?_, ?_⟩, tmi_put cx.stat mv.le tmi ho hi hrec hput hv, hsteps⟩
    · intro y hy hs
      cases hρ : E'.ρ y.2.1 with
      | none => rfl
      | some z =>
        rcases mv.nw _ _ hρ with hz | hz
        · rw [hI.nm y hy (fun h => hs (.inl h))] at hz; cases hz
        · have := (cx.nlo _ _ (F.xnm y hy)).2
          have := hI.nxr
          omega
    · intro y hy hs hb
      have hys : S y.1 := hs.elim id (fun e => absurd e (notx (by simp) y hy))
      rw [if_pos (show Xp y.2.1 from ⟨y, hy, hys, rfl, hb⟩)]
      exact hI.xs y hy hys (fun w hw hs => hb w hw (.inl hs))
    · intro l o' e
      by_cases hl : Xp l
      · obtain ⟨y, hy, hys, rfl, hyb⟩ := hl
        rw [al_none cx clo' hbase' hy hyb] at e; cases e
      · rw [if_neg hl]; exact e
end Go.Ai
