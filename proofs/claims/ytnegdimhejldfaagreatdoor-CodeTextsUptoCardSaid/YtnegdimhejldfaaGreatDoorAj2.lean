/- Regions of open order: sound. -/
import Derived.Test.YtnegdimhejldfaaGreatDoorAj1
import Derived.Test.YtnegdimhejldfaaGreatDoorAj0
import GoSem.ClaimJoined
import Derived.LaidLaws
namespace Go.Ai
open Go Go.RowKit
set_option linter.unusedVariables false
variable {G : Program} {W0 : World} {cf : Cf} {call : CallF} {n : Nat} {opsA : Array Oper} {as : List Nat} {names : List P} {tm0 : PT AV} {H00 : Hp} {q : Tq}
theorem Tr.nodup {ops : List Oper} {q : Tq} (h : Tr G cf call n ops as names tm0 H00 q) : q.s.wl.Nodup := by
  induction h with
  | nil => simp
  | cons h ho hs ih =>
    cases hs with
    | wr => exact List.nodup_cons.2 ⟨fun hm => Nat.lt_irrefl _ (h.facts.wlt _ hm), ih⟩
    | _ => exact ih
theorem snaps_done : ∀ {wl : List Nat} {hs : List Hp} {nxt : Option Nat} {s : Sn}, s ∈ snaps wl hs nxt → ∀ w ∈ s.done, w ∈ wl
  | [], [], nxt, s, h, w, hw => by cases h
  | [], H :: hs, nxt, s, h, w, hw => by
    have := List.mem_singleton.1 h
    subst this
    exact hw
  | v :: wl, [], nxt, s, h, w, hw => by cases h
  | v :: wl, H :: hs, nxt, s, h, w, hw => by
    rcases List.mem_cons.1 h with rfl | h
    · exact hw
    · exact List.mem_cons_of_mem _ (snaps_done (nxt := some v) h w hw)
theorem snaps_len : ∀ {wl : List Nat} {hs : List Hp} {nxt : Option Nat}, hs.length = wl.length + 1 → (snaps wl hs nxt).length = wl.length + 1
  | [], [], nxt, h => by simp at h
  | [], H :: hs, nxt, h => rfl
  | v :: wl, [], nxt, h => by simp at h
  | v :: wl, H :: hs, nxt, h => by
    show (⟨H, v :: wl, nxt⟩ :: snaps wl hs (some v)).length = _
    rw [List.length_cons, snaps_len (nxt := some v) (by simpa using h)]; rfl
structure Cx (G : Program) (W0 : World) (cf : Cf) (call : CallF) (n : Nat) (opsA : Array Oper) (as : List Nat) (names : List P) (tm0 : PT AV) (H00 : Hp) (q : Tq) (E0 : Env) (nx0 nxr : Nat) : Prop where
  tr : Tr G cf call n opsA.toList as names tm0 H00 q
  stat : regStatic opsA.toList as = true
  tes : ordB as opsA.toList 0 = true ∨ tesOk G cf opsA.toList as q.s.xs (snaps q.s.wl q.s.hs none) q.s.rl = true
  call : CallOk G W0 cf call
  cf : cf.ok E0.σ
  nlo : ∀ (i : Nat) (l : P), names[i]? = some l → nx0 ≤ l.toNat ∧ l.toNat < nxr
  ninj : ∀ (i j : Nat) (l : P), names[i]? = some l → names[j]? = some l → i = j
theorem al_none {E0 : Env} {nx0 nxr : Nat} (cx : Cx G W0 cf call n opsA as names tm0 H00 q E0 nx0 nxr) {S : Nat → Prop} (clo : ∀ i, S i → ∀ x, bit (gD as i) x = true → S x) {X : Hp} (hb : Base S q.s.wl q.s.hs X) {x : Nat × P × AObj} (hx : x ∈ q.s.xs)
    (hun : ∀ w ∈ q.s.wl, S w → bit (gD as w) x.1 = false) : PT.get x.2.1 X.tab = none := by
  have F := cx.tr.facts
  obtain ⟨v, hr⟩ := F.xrec x hx
  have tes : tesOk G cf opsA.toList as q.s.xs (snaps q.s.wl q.s.hs none) q.s.rl = true := by
    rcases cx.tes with h | h
    · rw [ord_xs cx.tr h] at hx; cases hx
    · exact h
  obtain ⟨o, ho, ht⟩ := tes_at tes x.1 _ hr
  obtain ⟨s, hs, rfl, h2, h3, h4⟩ := snaps_mem clo (nxt := none) F.ch hb (fun w e => by cases e)
  have := allL_mem (show allL _ _ = true from ht) s hs
  have hany : anyBit as x.1 s.done = false := by
    cases h : anyBit as x.1 s.done with
    | false => rfl
    | true =>
      obtain ⟨w, hw, hbt⟩ := anyBit_iff.1 h
      rw [hun w (snaps_done hs w hw) (h2 w hw)] at hbt; cases hbt
  simp only [hany] at this
  cases hg : PT.get x.2.1 s.H.tab with
  | none => rfl
  | some o => rw [hg] at this; cases this
theorem exec_one [GlOk cf.gl W0] {E0 : Env} {F0 : P → Option AObj} {nx0 nxr : Nat} {w0 : World} (cx : Cx G W0 cf call n opsA as names tm0 H00 q E0 nx0 nxr) {S : Nat → Prop} (clo : ∀ i, S i → ∀ x, bit (gD as i) x = true → S x) {E : Env} {w : World} {X : Hp} {U : P → Option AObj} {arr : Array Value}
    (hI : HI G W0 as q E0 F0 nx0 nxr w0 S E w X U) (tmi : TmI opsA.toList q tm0 n S E arr) {i : Nat} (hi : ¬ S i) (hcl : ∀ x, bit (gD as i) x = true → S x) (hlt : i < q.s.rl.length) (b : Frame) (k : List Item) (dv : List Deferred) (cs : List Frame) (rest : List Nat) :
    ∃ E' w' X' U' arr', HI G W0 as q E0 F0 nx0 nxr w0 (Sx S i) E' w' X' U' ∧ TmI opsA.toList q tm0 n (Sx S i) E' arr' ∧ Steps G (lone (Fr b arr (.inRegion opsA (i :: rest) :: k) dv) cs w) (lone (Fr b arr' (.inRegion opsA rest :: k) dv) cs w') := by
  have F := cx.tr.facts
  obtain ⟨q1, o, te, q2, h1, rfl, ho, hts, hext2⟩ := cx.tr.at hlt
  have hext1 := hts.ext.trans hext2
  have F1 := h1.facts
  have hlook := looks_ok cx.stat clo tmi h1 hext1 ho hi hcl
  have hoA : opsA[q1.s.rl.length]? = some o := by simpa using ho
  have hrec : rec? q q1.s.rl.length = some te := by
    rw [hext2.rc _ (by rw [hts.rl]; simp)]; exact hts.rec_new
  have hput := hts.put
  have hcf : cf.ok E.σ := by rw [hI.mv.le.1]; exact cx.cf
  have hbar : ∀ {T : Hp} {r}, opK G cf o (evR q1.tm o) T = r → (∀ f a c, r ≠ .defer f a c) → (∀ e, r ≠ .err e) → b.roundOf = none ∨ ∀ c, o.op ≠ .defer c := by
    intro T r hq h1 h2
    refine .inr fun c hc => ?_
    rcases opK_defer (G := G) (cf := cf) (ev := evR q1.tm o) (H := T) hc with ⟨f, a, cap, e⟩ | ⟨e, he⟩
    · exact h1 f a cap (hq.symm.trans e)
    · exact h2 e (hq.symm.trans he)
  have hev : EvR E (evR q1.tm o) (Act.eval ⟨arr, dv⟩) := evR_ok hlook
  have notw : (∀ v, te ≠ .wr v) → q1.s.rl.length ∉ q.s.wl := fun hne hm => by
    obtain ⟨v, hv⟩ := F.wrec _ hm
    rw [hrec] at hv; cases hv; exact hne v rfl
  have notx : (∀ l ob v, te ≠ .al l ob v) → ∀ x ∈ q.s.xs, x.1 ≠ q1.s.rl.length := fun hne x hx e => by
    obtain ⟨v, hv⟩ := F.xrec x hx
    rw [e, hrec] at hv; cases hv; exact hne _ _ _ rfl
  cases hts with
  | skip hw hp =>
    have hwr := wanted_ok' hlook hw
    refine ⟨E, w, X, U, _, hI.skip (notw (by simp)) (notx (by simp)), tmi_put cx.stat (Env.le.refl E) tmi ho hi hrec hput (x := undef) (vr_undef E), .one ?_⟩
    have := st_op_skip (P := G) (b := b) (arr := arr) (ds := dv) (k := k) (cs := cs) (w := w) (ops := opsA) (i := q1.s.rl.length) (rest := rest) (by simp [hoA, hwr])
    rw [hoA] at this
    exact this
  | rd hw hop hp =>
    rename_i v tm'
    have hwr := wanted_ok' hlook hw
    have hT : ∃ T, (∀ l o, PT.get l T = some o → U l = some o) ∧ opK G cf o (evR q1.tm o) ⟨X.nx, T⟩ = .rd v := by
      rcases cx.tes with hord | tes
      · -- in its order: the heap is the one that the row of the text had
        by_cases hf : hfree o.op = true
        · refine ⟨.e, (fun l o e => by
            have e' : PT.get l (PT.e : PT AObj) = some o := e
            rw [PT.get_e] at e'; cases e'), ?_⟩
          rw [← hop]
          exact free_indep hf
        · have hk0 : kindO o.op ≠ 0 := by
            intro hk
            unfold kindO at hk
            split at hk <;> first | omega | skip
            all_goals (split at hk <;> first | omega | skip)
            all_goals (first | (rename_i hh; exact hf hh) | skip)
          have W := wl_kind cx.tr hord
          have hxs := ord_xs cx.tr hord
          have hxs1 : q1.s.xs = [] := ord_xs h1 hord
          -- the record at this place is one
          obtain ⟨b2, c2, k1, k2, k3⟩ := hext2.ws
          simp only at k2 k3
          have hge : ∀ x ∈ c2, q1.s.rl.length < x := fun x hx => hext2.lt c2 k3 x hx
          have hS : ∀ x ∈ c2, ¬ S x := by
            intro x hx hs
            have hm : x ∈ q.s.wl := by rw [k3]; exact List.mem_append_left _ hx
            obtain ⟨_, o2, m1, m2⟩ := W x hm
            exact hi (clo x hs _ (ord_bit hord (hge x hx) ho m1 hk0 (by omega) (.inr m2)))
          have hbase := hI.base
          rw [k3, k2] at hbase
          have hb1 := base_skip k1 hS hbase
          have hall : ∀ x ∈ q1.s.wl, S x := by
            intro x hx
            obtain ⟨m0, o2, m1, m2⟩ := wl_kind h1 hord x hx
            exact hcl x (ord_bit hord m0 m1 ho (by omega) hk0 (.inl m2))
          obtain ⟨l1, hl1⟩ := F1.hd
          have hX : X = q1.H := by
            rw [hl1] at hb1
            cases hwl : q1.s.wl with
            | nil => rw [hwl] at hb1; exact hb1
            | cons x xs =>
              rw [hwl] at hb1
              rcases hb1 with ⟨_, e⟩ | ⟨a, _⟩
              · exact e
              · exact absurd (hall x (by rw [hwl]; exact List.mem_cons_self)) a
          subst hX
          refine ⟨_, ?_, hop⟩
          intro l o' e
          rw [hxs1] at e
          exact hI.tab l o' e
      obtain ⟨o', ho', hte⟩ := tes_at tes _ _ hrec
      rw [ho] at ho'; cases ho'
      have cases2 : (∃ s, snaps q.s.wl q.s.hs none = [s]) ∨ hfree o.op = true ∨ allL (rereads G cf as q.s.xs q1.s.rl.length o q1.tm v) (snaps q.s.wl q.s.hs none) = true := by
        have hte' : (match snaps q.s.wl q.s.hs none with | [_] => true | _ => (match hfree o.op with | true => true | false => allL (rereads G cf as q.s.xs q1.s.rl.length o q1.tm v) (snaps q.s.wl q.s.hs none))) = true := hte
        split at hte'
        · rename_i s hs; exact .inl ⟨s, hs⟩
        · split at hte'
          · rename_i hf; exact .inr (.inl hf)
          · exact .inr (.inr hte')
      rcases cases2 with ⟨s, hs⟩ | hf | hall
      · have hl := snaps_len (wl := q.s.wl) (hs := q.s.hs) (nxt := none) F.ln
        rw [hs] at hl
        have hwl : q.s.wl = [] := List.length_eq_zero_iff.1 (by simpa using hl.symm)
        obtain ⟨bb, cc, e1, e2, e3⟩ := hext2.ws
        simp only at e2 e3
        rw [hwl] at e3
        have hcc : cc = [] := (List.append_eq_nil_iff.1 e3.symm).1
        have hw1 : q1.s.wl = [] := (List.append_eq_nil_iff.1 e3.symm).2
        subst hcc
        have hbb : bb = [] := List.length_eq_zero_iff.1 e1
        subst hbb
        obtain ⟨l1, hl1⟩ := F1.hd
        have hX : X = q1.H := by
          have := hI.base
          rw [hwl, e2, List.nil_append, hl1] at this
          exact this
        subst hX
        refine ⟨_, lay_sub hI hcl hext1.xs (done := q1.s.wl) (fun w hw => by rw [hwl] at hw; simp at hw), hop⟩
      · refine ⟨.e, (fun l o e => by
          have e' : PT.get l (PT.e : PT AObj) = some o := e
          rw [PT.get_e] at e'; cases e'), ?_⟩
        rw [← hop]
        exact free_indep hf
      · obtain ⟨s, hs, rfl, h2, h3, h4⟩ := snaps_mem clo (nxt := none) F.ch hI.base (fun w e => by cases e)
        have hr := allL_mem hall s hs
        unfold rereads at hr
        simp only [opF_eq] at hr
        have hany : anyBit as q1.s.rl.length s.done = false := by
          cases h : anyBit as q1.s.rl.length s.done with
          | false => rfl
          | true =>
            obtain ⟨w, hw, hbt⟩ := anyBit_iff.1 h
            exact absurd (clo w (h2 w hw) _ hbt) hi
        split at hr
        · rw [layT_eq] at hr
          refine ⟨_, lay_sub hI hcl (fun x hx => hx) (done := s.done) h4, ?_⟩
          split at hr
          · rename_i u hu
            rw [hu, same_eq hr]
          · cases hr
        · rename_i hne
          refine (hne ?_ hany).elim
          cases hsn : s.next with
          | none => rfl
          | some w =>
            simp only
            cases hbt : bit (gD as q1.s.rl.length) w with
            | false => rfl
            | true => exact absurd (hcl w hbt) (h3 w hsn)
    obtain ⟨T, hsub, hopT⟩ := hT
    have hk := opK_ok (H := ⟨X.nx, T⟩) hcf (hI.mv.hr.drop hsub) (o := o) hev
    rw [hopT] at hk
    obtain ⟨x, hrun, hv⟩ := hk
    exact ⟨E, w, X, U, _, hI.skip (notw (by simp)) (notx (by simp)), tmi_put cx.stat (Env.le.refl E) tmi ho hi hrec hput hv, .one (st_value hoA hwr (hbar hopT (by simp) (by simp)) hrun)⟩
  | al hw hop hal hl hp =>
    rename_i ob mk l tm'
    have hwr := wanted_ok' hlook hw
    have hop' : opK G cf o (evR q1.tm o) ⟨X.nx, .e⟩ = .al ob mk := by rw [← hop]; exact al_indep hal
    have hk := opK_ok (H := ⟨X.nx, .e⟩) hcf (hI.mv.hr.drop (fun l o e => by have e' : PT.get l PT.e = some o := e; rw [PT.get_e] at e'; cases e')) (o := o) hev
    rw [hop'] at hk
    obtain ⟨obj, x, nn, c, hrun, hal2⟩ := hk
    have hmem : (q1.s.rl.length, l, ob) ∈ q.s.xs := hext2.xs _ List.mem_cons_self
    have hnone : E.ρ l = none := hI.nm _ hmem hi
    have hE := Env.le_add (x := (w.heap.size, c)) hnone
    obtain ⟨hor, hvr⟩ := hal2 _ l hE (Env.add_same _ _ _)
    obtain ⟨hlo, hhi⟩ := cx.nlo _ _ hl
    have mv := Mv.newAt (nx1 := nx0) hI.mv.hr hnone (Nat.lt_of_lt_of_le hhi hI.nxr) hI.mv.up c hor hlo
    have mv2 := mv.trans (Mv.same (w' := { w with heap := w.heap.push obj, drawn := w.drawn + nn }) mv.hr rfl rfl rfl rfl)
    have mv3 := hI.mv.trans' mv2 (Nat.le_refl _)
    have uniq : ∀ x ∈ q.s.xs, x.1 = q1.s.rl.length → x = (q1.s.rl.length, l, ob) := by
      intro x hx e
      obtain ⟨v, hv⟩ := F.xrec x hx
      rw [e, hrec] at hv
      cases hv
      obtain ⟨x1, x2, x3⟩ := x
      simp only at e
      rw [e]
    have diff : ∀ x ∈ q.s.xs, x.1 ≠ q1.s.rl.length → x.2.1 ≠ l := by
      intro x hx e e2
      exact e (cx.ninj _ _ _ (F.xnm x hx) (by rw [e2]; exact hl))
    refine ⟨_, _, X, _, _, ⟨mv3, hI.base.congr (fun w' hw' => ⟨.inl, fun h => h.elim id (fun e => absurd (e ▸ hw') (notw (by simp)))⟩), hI.nxr, ?_, ?_, ?_⟩,
      tmi_put cx.stat hE tmi ho hi hrec hput hvr, .one (st_value hoA hwr (hbar hop' (by simp) (by simp)) hrun)⟩
    · intro x hx hs
      rw [Env.add_other _ _ (diff x hx (fun e => hs (.inr e)))]
      exact hI.nm x hx (fun h => hs (.inl h))
    · intro x hx hs hb
      by_cases e : x.1 = q1.s.rl.length
      · rw [uniq x hx e]; exact upd_same _ _ _
      · rw [upd_other _ _ (diff x hx e)]
        exact hI.xs x hx (hs.elim id (fun e' => absurd e' e)) (fun w' hw' hs' => hb w' hw' (.inl hs'))
    · intro l' o' e
      have hu := hI.tab l' o' e
      rw [upd_other]
      · exact hu
      · rintro rfl
        obtain ⟨b0, c0, _, e0, _⟩ := hI.mv.hr.obj _ _ hu
        rw [hnone] at e0; cases e0
  | wr hw hc hst hp =>
    rename_i v H' tm'
    have hwr := wanted_ok' hlook hw
    obtain ⟨bb, cc, e1, e2, e3⟩ := hext2.ws
    simp only at e2 e3
    obtain ⟨l1, hl1⟩ := F1.hd
    have hnd := cx.tr.nodup
    have hne : ∀ w' ∈ cc, w' ≠ q1.s.rl.length := by
      intro w' hw' e
      rw [e3, List.nodup_append] at hnd
      exact hnd.2.2 w' hw' _ List.mem_cons_self e
    have hch := F.ch
    have hbase := hI.base
    rw [e3] at hch
    rw [e3, e2, hl1] at hbase
    obtain ⟨hX, hbase'⟩ := base_next clo hi hc hcl e1 hch hne hbase
    rw [← hl1, ← e2, ← e3] at hbase'
    subst hX
    have himem : q1.s.rl.length ∈ q.s.wl := by rw [e3]; simp
    have hsub := lay_sub hI hcl hext1.xs (done := q1.s.wl) (fun w' hw' hs' => by
      rw [e3] at hw'
      rcases List.mem_append.1 hw' with hw' | hw'
      · exact absurd (chn_mem clo hch w' hw' hs') hi
      · rcases List.mem_cons.1 hw' with rfl | hw'
        · exact absurd hs' hi
        · exact hw')
    generalize hTd : layF as (gD as q1.s.rl.length) q1.s.wl q1.s.xs q1.H.tab = T at hsub hst
    have hrT := hI.mv.hr.drop hsub
    have hk := opK_ok (H := ⟨q1.H.nx, T⟩) hcf hrT (o := o) hev
    have step : ∃ E' w' x, Mv G W0 E (fun l => PT.get l T) q1.H.nx.toNat w E' H'.f H'.nx.toNat w' ∧ VR E' v x ∧ Steps G (lone (Fr b arr (.inRegion opsA (q1.s.rl.length :: rest) :: k) dv) cs w) (lone (Fr b (putA arr o.dst x) (.inRegion opsA rest :: k) dv) cs w') := by
      cases hst with
      | wv h =>
        rw [h] at hk
        obtain ⟨x, w', E', hrun, mv, hv⟩ := hk
        exact ⟨E', w', x, mv, hv, .one (st_value hoA hwr (hbar h (by simp) (by simp)) hrun)⟩
      | wu h =>
        rw [h] at hk
        obtain ⟨w', E', hrun, mv⟩ := hk
        exact ⟨E', w', undef, mv, vr_undef E', .one (st_unit hoA hwr (hbar h (by simp) (by simp)) hrun)⟩
      | call h hc =>
        rename_i f args
        rw [h] at hk
        obtain ⟨xs, hrun, hxs⟩ := hk
        have hcr := cx.call f args ⟨q1.H.nx, T⟩ E w xs hcf hrT hxs
        rw [hc] at hcr
        obtain ⟨e, w', fr, ⟨E', x, rfl, mv, hv⟩, hsteps, _, hleave⟩ := hcr (Fr b arr (.inRegion opsA (q1.s.rl.length :: rest) :: k) dv :: cs)
        refine ⟨E', w', x, mv, hv, .head (st_enter hoA hwr (hbar h (by simp) (by simp)) hrun) (hsteps.trans (.one ?_))⟩
        have := step_leave_returned (c := Fr b arr (.inRegion opsA (q1.s.rl.length :: rest) :: k) dv) (cs := cs) hleave
        rw [Fr_finish, hoA] at this
        exact this
    obtain ⟨E', w', x, mv, hv, hsteps⟩ := step
    let Xp : P → Prop := fun l => ∃ x ∈ q.s.xs, S x.1 ∧ x.2.1 = l ∧ ∀ w ∈ q.s.wl, Sx S q1.s.rl.length w → bit (gD as w) x.1 = false
    haveI : DecidablePred Xp := fun _ => Classical.propDecidable _
    have hXp : ∀ l, Xp l → PT.get l T = none := by
      rintro l ⟨y, hy, hys, rfl, hyb⟩
      cases hg : PT.get y.2.1 T with
      | none => rfl
      | some o' =>
        rw [← hTd] at hg
        rcases layF_get hg with ⟨z, hz, hzb, _, hzl, _⟩ | hg
        · have : z.1 = y.1 := cx.ninj _ _ _ (F.xnm z (hext1.xs z hz)) (by rw [hzl]; exact F.xnm y hy)
          rw [this, hyb _ himem (.inr rfl)] at hzb
          cases hzb
        · rw [al_none cx clo hI.base hy (fun w hw hs => hyb w hw (.inl hs))] at hg
          cases hg
    have mvU := Mv.frame hI.mv.hr hsub mv Xp hXp
    have clo' : ∀ j, Sx S q1.s.rl.length j → ∀ x, bit (gD as j) x = true → Sx S q1.s.rl.length x := by
      rintro j (hj | rfl) x hx
      · exact .inl (clo j hj x hx)
      · exact .inl (hcl x hx)
    refine ⟨E', w', H', _, _, ⟨hI.mv.trans mvU, hbase', Nat.le_trans hI.nxr mv.up, ?_, ?_, ?_⟩, tmi_put cx.stat mv.le tmi ho hi hrec hput hv, hsteps⟩
    · intro y hy hs
      cases hρ : E'.ρ y.2.1 with
      | none => rfl
      | some z =>
        rcases mv.nw _ _ hρ with hz | hz
        · rw [hI.nm y hy (fun h => hs (.inl h))] at hz; cases hz
        · have := (cx.nlo _ _ (F.xnm y hy)).2
          have := hI.nxr
          omega
    · intro y hy hs hb
      have hys : S y.1 := hs.elim id (fun e => absurd e (notx (by simp) y hy))
      rw [if_pos (show Xp y.2.1 from ⟨y, hy, hys, rfl, hb⟩)]
      exact hI.xs y hy hys (fun w hw hs => hb w hw (.inl hs))
    · intro l o' e
      by_cases hl : Xp l
      · obtain ⟨y, hy, hys, rfl, hyb⟩ := hl
        rw [al_none cx clo' hbase' hy hyb] at e; cases e
      · rw [if_neg hl]; exact e
end Go.Ai

/- The abstract machine is sound. -/
namespace Go.Ai
open Go Go.RowKit
set_option linter.unusedVariables false
variable {G : Program} {W0 : World} {cf : Cf} {call : CallF} {n : Nat} {opsA : Array Oper} {as : List Nat} {names : List P} {tm0 : PT AV} {H00 : Hp} {q : Tq}
def unl : Nat → Array Bool → Nat
  | 0, _ => 0
  | n + 1, l => (match l.getD n true with | false => 1 | true => 0) + unl n l
theorem unl_zero : ∀ {n : Nat} {l : Array Bool}, unl n l = 0 → ∀ j, j < n → l.getD j true = true
  | 0, l, _, j, hj => by omega
  | n + 1, l, h, j, hj => by
    unfold unl at h
    by_cases hjn : j = n
    · subst hjn
      cases hb : l.getD j true with
      | true => rfl
      | false => rw [hb] at h; simp at h
    · exact unl_zero (n := n) (by omega) j (by omega)
theorem unl_all : ∀ {n : Nat} {l : Array Bool}, (∀ j, j < n → l.getD j true = true) → unl n l = 0
  | 0, l, _ => rfl
  | n + 1, l, h => by
    unfold unl
    rw [h n (by omega), unl_all (fun j hj => h j (by omega))]
theorem unl_none : ∀ {n : Nat} {l : Array Bool}, (∀ j, j < n → l.getD j true = false) → unl n l = n
  | 0, l, _ => rfl
  | n + 1, l, h => by
    unfold unl
    rw [h n (by omega), unl_none (fun j hj => h j (by omega))]
    simp only; omega
theorem unl_least : ∀ {n : Nat} {l : Array Bool}, unl n l ≠ 0 → ∃ j, j < n ∧ l.getD j true = false ∧ ∀ i, i < j → l.getD i true = true
  | 0, l, h => absurd rfl h
  | n + 1, l, h => by
    by_cases h0 : unl n l = 0
    · refine ⟨n, by omega, ?_, unl_zero h0⟩
      unfold unl at h
      cases hb : l.getD n true with
      | false => rfl
      | true => rw [hb, h0] at h; simp at h
    · obtain ⟨j, h1, h2, h3⟩ := unl_least h0
      exact ⟨j, by omega, h2, h3⟩
theorem getD_set {l : Array Bool} {i j : Nat} {d : Bool} (hi : i < l.size) : (l.setIfInBounds i true).getD j d = if j = i then true else l.getD j d := by
  rw [Array.getD_eq_getD_getElem?, Array.getD_eq_getD_getElem?, Array.getElem?_setIfInBounds]
  by_cases h : i = j
  · subst h; simp [hi]
  · have : ¬ j = i := fun e => h e.symm
    simp [h, this]
theorem unl_set {l : Array Bool} {i : Nat} (hi : i < l.size) (hf : l.getD i true = false) : ∀ {n : Nat}, i < n → unl n (l.setIfInBounds i true) + 1 = unl n l
  | 0, h => by omega
  | n + 1, h => by
    unfold unl
    rw [getD_set hi]
    by_cases hn : n = i
    · subst hn
      rw [if_pos rfl, hf]
      have : ∀ {m : Nat}, m ≤ n → unl m (l.setIfInBounds n true) = unl m l := by
        intro m
        induction m with
        | zero => intro _; rfl
        | succ m ih =>
          intro hm
          unfold unl
          rw [getD_set hi, if_neg (by omega), ih (by omega)]
      rw [this (Nat.le_refl n)]
      simp only; omega
    · rw [if_neg hn]
      have := unl_set hi hf (n := n) (by omega)
      omega
def Ls (l : Array Bool) : Nat → Prop := fun j => l.getD j false = true
theorem Ls_set {l : Array Bool} {i : Nat} (hi : i < l.size) : Ls (l.setIfInBounds i true) = Sx (Ls l) i := by
  funext j
  unfold Ls Sx
  rw [getD_set hi]
  by_cases h : j = i
  · simp [h]
  · simp [h]
theorem getD_both {l : Array Bool} {j : Nat} (hj : j < l.size) : l.getD j true = l.getD j false := by
  rw [Array.getD_eq_getD_getElem?, Array.getD_eq_getD_getElem?]; simp [hj]
def Clo (as : List Nat) (S : Nat → Prop) : Prop := ∀ i, S i → ∀ x, bit (gD as i) x = true → S x
theorem go_all [GlOk cf.gl W0] {E0 : Env} {F0 : P → Option AObj} {nx0 nxr : Nat} {w0 : World} (cx : Cx G W0 cf call n opsA (ancs opsA.toList []) names tm0 H00 q E0 nx0 nxr)
    (hN : ∀ j, q.s.rl.length < j → j < opsA.size → bit (gD (ancs opsA.toList []) j) q.s.rl.length = true) (b : Frame) (k : List Item) (dv : List Deferred) (cs : List Frame) :
    ∀ (fuel t : Nat) (listed : Array Bool) (E : Env) (w : World) (X : Hp) (U : P → Option AObj) (arr : Array Value), listed.size = opsA.size → unl opsA.size listed = fuel → Clo (ancs opsA.toList []) (Ls listed) → (∀ j, Ls listed j → j < q.s.rl.length) →
      HI G W0 (ancs opsA.toList []) q E0 F0 nx0 nxr w0 (Ls listed) E w X U → TmI opsA.toList q tm0 n (Ls listed) E arr →
      (∃ E' w' X' U' arr' S', (∀ j, j < opsA.size → S' j) ∧ Clo (ancs opsA.toList []) S' ∧ (∀ j, S' j → j < q.s.rl.length) ∧ HI G W0 (ancs opsA.toList []) q E0 F0 nx0 nxr w0 S' E' w' X' U' ∧ TmI opsA.toList q tm0 n S' E' arr' ∧
        Steps G (lone (Fr b arr (.inRegion opsA (Region.linearise.go .any opsA fuel t listed []) :: k) dv) cs w) (lone (Fr b arr' (.inRegion opsA [] :: k) dv) cs w')) ∨
      (∃ E' w' X' U' arr' S' rest, ¬ S' q.s.rl.length ∧ q.s.rl.length < opsA.size ∧ (∀ x, bit (gD (ancs opsA.toList []) q.s.rl.length) x = true → S' x) ∧ Clo (ancs opsA.toList []) S' ∧ (∀ j, S' j → j < q.s.rl.length) ∧ HI G W0 (ancs opsA.toList []) q E0 F0 nx0 nxr w0 S' E' w' X' U' ∧ TmI opsA.toList q tm0 n S' E' arr' ∧
        Steps G (lone (Fr b arr (.inRegion opsA (Region.linearise.go .any opsA fuel t listed []) :: k) dv) cs w) (lone (Fr b arr' (.inRegion opsA (q.s.rl.length :: rest) :: k) dv) cs w')) := by
  intro fuel
  induction fuel with
  | zero =>
    intro t listed E w X U arr hsz hu clo hlt hI tmi
    exact .inl ⟨E, w, X, U, arr, Ls listed, fun j hj => by unfold Ls; rw [← getD_both (by omega)]; exact unl_zero hu j hj, clo, hlt, hI, tmi, .refl _ _⟩
  | succ fuel ih =>
    intro t listed E w X U arr hsz hu clo hlt hI tmi
    have hsize : opsA.toList.length = opsA.size := by simp
    have hready : ∀ i, i ∈ Region.ready .any opsA listed ↔ i < opsA.size ∧ listed.getD i true = false ∧ ((opsA[i]?).map (·.after.all fun e => !Region.binds .any e || listed.getD e.on false)).getD false = true := by
      intro i
      simp only [Region.ready, List.mem_filter, List.mem_range, Bool.and_eq_true, Bool.not_eq_true']
    have hne : Region.ready .any opsA listed ≠ [] := by
      obtain ⟨j, h1, h2, h3⟩ := unl_least (n := opsA.size) (l := listed) (by omega)
      have : j ∈ Region.ready .any opsA listed := by
        rw [hready]
        refine ⟨h1, h2, ?_⟩
        have hj : opsA[j]? = some opsA[j] := Array.getElem?_eq_getElem h1
        rw [hj]
        simp only [Option.map_some, Option.getD_some]
        rw [← Array.all_toList]
        refine List.all_eq_true.2 fun e he => ?_
        cases hb : Region.binds .any e with
        | false => rfl
        | true =>
          have hlt' := static_edge cx.stat (i := j) (o := opsA[j]) (by simp) e he hb
          have := h3 e.on hlt'
          rw [getD_both (by omega)] at this
          simp [this]
      intro e; rw [e] at this; simp at this
    simp only [Region.linearise.go]
    change (∃ E' w' X' U' arr' S', _ ∧ _ ∧ _ ∧ _ ∧ _ ∧ Steps G (lone (Fr b arr (.inRegion opsA (match (Region.ready .any opsA listed)[t % (Region.ready .any opsA listed).length]? with
      | some i => Region.linearise.go .any opsA fuel (t / (Region.ready .any opsA listed).length) (listed.setIfInBounds i true) [i]
      | none => [].reverse) :: k) dv) cs w) _) ∨ (∃ E' w' X' U' arr' S' rest, _ ∧ _ ∧ _ ∧ _ ∧ _ ∧ _ ∧ _ ∧ Steps G (lone (Fr b arr (.inRegion opsA (match (Region.ready .any opsA listed)[t % (Region.ready .any opsA listed).length]? with
      | some i => Region.linearise.go .any opsA fuel (t / (Region.ready .any opsA listed).length) (listed.setIfInBounds i true) [i]
      | none => [].reverse) :: k) dv) cs w) _)
    cases hi : (Region.ready .any opsA listed)[t % (Region.ready .any opsA listed).length]? with
    | none =>
      have hlen : 0 < (Region.ready .any opsA listed).length := List.length_pos_iff.2 hne
      have := Nat.mod_lt t hlen
      rw [List.getElem?_eq_none_iff] at hi
      omega
    | some i =>
      have hmem := List.mem_of_getElem? hi
      rw [hready] at hmem
      obtain ⟨hi1, hi2, hi3⟩ := hmem
      have hoi : opsA[i]? = some opsA[i] := Array.getElem?_eq_getElem hi1
      rw [hoi] at hi3
      simp only [Option.map_some, Option.getD_some] at hi3
      rw [← Array.all_toList] at hi3
      have hnS : ¬ Ls listed i := by unfold Ls; rw [← getD_both (by omega), hi2]; simp
      have hcl : ∀ x, bit (gD (ancs opsA.toList []) i) x = true → Ls listed x := by
        intro x hx
        obtain ⟨e, h1, h2, h3⟩ := anc_bit (o := opsA[i]) (by simp) hx
        have := List.all_eq_true.1 hi3 e h1
        rw [h2] at this
        have hon : Ls listed e.on := by unfold Ls; simpa using this
        rcases h3 with rfl | h3
        · exact hon
        · exact clo e.on hon x h3
      simp only
      rw [linearise_go_acc, List.reverse_singleton, List.singleton_append]
      by_cases hlti : i < q.s.rl.length
      · obtain ⟨E1, w1, X1, U1, arr1, hI1, tmi1, hs1⟩ := exec_one cx clo hI tmi hnS hcl hlti b k dv cs (Region.linearise.go .any opsA fuel (t / (Region.ready .any opsA listed).length) (listed.setIfInBounds i true) [])
        have hL := Ls_set (l := listed) (i := i) (by omega)
        have hu1 := unl_set (l := listed) (i := i) (by omega) hi2 (n := opsA.size) hi1
        rw [← hL] at hI1 tmi1
        have clo1 : Clo (ancs opsA.toList []) (Ls (listed.setIfInBounds i true)) := by
          rw [hL]
          rintro j (hj | rfl) x hx
          · exact .inl (clo j hj x hx)
          · exact .inl (hcl x hx)
        have hlt1 : ∀ j, Ls (listed.setIfInBounds i true) j → j < q.s.rl.length := by
          rw [hL]
          rintro j (hj | rfl)
          · exact hlt j hj
          · exact hlti
        rcases ih (t / (Region.ready .any opsA listed).length) (listed.setIfInBounds i true) E1 w1 X1 U1 arr1 (by simpa using hsz) (by omega) clo1 hlt1 hI1 tmi1 with
          ⟨E2, w2, X2, U2, arr2, S2, a1, a2, a3, a4, a5, a6⟩ | ⟨E2, w2, X2, U2, arr2, S2, rest, a1, a2, a3, a4, a5, a6, a7, a8⟩
        · exact .inl ⟨E2, w2, X2, U2, arr2, S2, a1, a2, a3, a4, a5, hs1.trans a6⟩
        · exact .inr ⟨E2, w2, X2, U2, arr2, S2, rest, a1, a2, a3, a4, a5, a6, a7, hs1.trans a8⟩
      · by_cases hie : i = q.s.rl.length
        · subst hie
          exact .inr ⟨E, w, X, U, arr, Ls listed, _, hnS, hi1, hcl, clo, hlt, hI, tmi, .refl _ _⟩
        · have := hlt _ (hcl _ (hN i (by omega) hi1))
          omega
theorem Mv.bump {E E' : Env} {H H' : P → Option AObj} {nx nx' nx'' : Nat} {w w' : World} (h : Mv G W0 E H nx w E' H' nx' w') (hle : nx' ≤ nx'') : Mv G W0 E H nx w E' H' nx'' w' :=
  ⟨h.le, ⟨h.hr.below, fun l x e => Nat.lt_of_lt_of_le (h.hr.dom l x e) hle, h.hr.obj, h.hr.inj⟩, Nat.le_trans h.up hle, h.sz, h.fr, h.own, h.nw⟩
theorem base_all {S : Nat → Prop} : ∀ {wl : List Nat} {hs : List Hp} {X : Hp}, (∀ w ∈ wl, S w) → Base S wl hs X → ∃ l, hs = X :: l
  | [], [], X, _, h => by cases h
  | [], H :: hs, X, _, h => ⟨hs, by rw [show X = H from h]⟩
  | w :: wl, [], X, _, h => by cases h
  | w :: wl, H :: hs, X, hw, h => by
    rcases h with ⟨_, rfl⟩ | ⟨a, _⟩
    · exact ⟨hs, rfl⟩
    · exact absurd (hw w List.mem_cons_self) a
theorem base_head {S : Nat → Prop} {m : Nat} (hm : ∀ x, bit m x = true → S x) : ∀ {wl : List Nat} {hs : List Hp} {X : Hp}, chained m wl = true → Base S wl hs X → ∃ l, hs = X :: l
  | [], [], X, _, h => by cases h
  | [], H :: hs, X, _, h => ⟨hs, by rw [show X = H from h]⟩
  | w :: wl, [], X, _, h => by cases h
  | w :: wl, H :: hs, X, hc, h => by
    rcases h with ⟨_, rfl⟩ | ⟨a, _⟩
    · exact ⟨hs, rfl⟩
    · exact absurd (hm w hc) a
theorem drawK_ok [GlOk cf.gl W0] (hm : G.follows .mixedOrders = true) (hcall : CallOk G W0 cf call) : DrawOk G W0 cf call := by
  intro n b id opsA tm ds H rc E w arr dv cs k hcf st hstat
  unfold drawK
  rw [resvK_eq]
  refine CodeOk.steps (.one (st_region_draw (id := id))) ?_
  simp only [Region.schedule, hm, Bool.true_or, if_true, Region.linearise]
  generalize w.tape w.drawn (.order b.fn id) = t
  refine traceK_ok (Φ := CodeOk G W0 n b H E w cs _ k) (fun k => trivial) ?_ opsA.toList ⟨⟨[], [⟨nxF opsA.toList H.nx, H.tab⟩], [], []⟩, tm, ⟨nxF opsA.toList H.nx, H.tab⟩⟩ .nil rfl
  intro s tm1 H1 pan hE
  split
  · trivial
  rename_i htes
  have hnx := nxF_nat opsA.toList H.nx
  have hsize : opsA.toList.length = opsA.size := by simp
  have start : ∀ {q : Tq}, Tr G cf call n opsA.toList (ancs opsA.toList []) (namesF opsA.toList H.nx) tm ⟨nxF opsA.toList H.nx, H.tab⟩ q → okT (ordB (ancs opsA.toList []) opsA.toList 0) (tesOk G cf opsA.toList (ancs opsA.toList []) q.s.xs (snaps q.s.wl q.s.hs none) q.s.rl) = true →
      Cx G W0 cf call n opsA (ancs opsA.toList []) (namesF opsA.toList H.nx) tm ⟨nxF opsA.toList H.nx, H.tab⟩ q E H.nx.toNat (nxF opsA.toList H.nx).toNat ∧
      HI G W0 (ancs opsA.toList []) q E H.f H.nx.toNat (nxF opsA.toList H.nx).toNat w (Ls (Array.replicate opsA.size false)) E { w with drawn := w.drawn + 1 } ⟨nxF opsA.toList H.nx, H.tab⟩ H.f ∧
      TmI opsA.toList q tm n (Ls (Array.replicate opsA.size false)) E arr := by
    intro q hq ht
    have hLs : ∀ j, ¬ Ls (Array.replicate opsA.size false) j := by
      intro j h
      unfold Ls at h
      rw [Array.getD_eq_getD_getElem?, Array.getElem?_replicate] at h
      split at h <;> simp at h
    have cx : Cx G W0 cf call n opsA (ancs opsA.toList []) (namesF opsA.toList H.nx) tm ⟨nxF opsA.toList H.nx, H.tab⟩ q E H.nx.toNat (nxF opsA.toList H.nx).toNat :=
      ⟨hq, hstat, okT_or ht, hcall, hcf, fun i l hl => by have := names_nat _ _ _ hl; omega, fun i j l h1 h2 => by have := names_nat _ _ _ h1; have := names_nat _ _ _ h2; omega⟩
    refine ⟨cx, ⟨(Mv.drew st.hr).bump (by rw [hnx]; omega), (base_none hq).congr (fun w _ => ⟨False.elim, fun h => hLs _ h⟩), Nat.le_refl _, ?_, fun x _ h => absurd h (hLs _), fun l o h => h⟩, st.sz, ?_⟩
    · intro x hx _
      cases hρ : E.ρ x.2.1 with
      | none => rfl
      | some y =>
        have := st.hr.dom _ _ hρ
        have := (cx.nlo _ _ (hq.facts.xnm x hx)).1
        omega
    · intro t v hc
      rcases hc with ⟨j, _, _, hj, _⟩ | ⟨_, hv⟩
      · exact absurd hj (hLs j)
      · exact st.tr t v hv
  have hu0 : unl opsA.size (Array.replicate opsA.size false) = opsA.size := unl_none (fun j hj => by rw [Array.getD_eq_getD_getElem?, Array.getElem?_replicate]; simp [hj])
  have clo0 : Clo (ancs opsA.toList []) (Ls (Array.replicate opsA.size false)) := by
    intro j h
    unfold Ls at h
    rw [Array.getD_eq_getD_getElem?, Array.getElem?_replicate] at h
    split at h <;> simp at h
  have lt0 : ∀ (N j : Nat), Ls (Array.replicate opsA.size false) j → j < N := by
    intro N j h
    unfold Ls at h
    rw [Array.getD_eq_getD_getElem?, Array.getElem?_replicate] at h
    split at h <;> simp at h
  cases hE with
  | none h hl =>
    rename_i q
    obtain ⟨cx, hI, tmi⟩ := start h htes
    simp only
    rw [layAll_eq]
    rcases go_all cx (fun j h1 h2 => by omega) b k dv cs opsA.size t (Array.replicate opsA.size false) E _ _ _ arr (by simp) hu0 clo0 (lt0 _) hI tmi with
      ⟨E', w', X', U', arr', S', a1, a2, a3, a4, a5, a6⟩ | ⟨_, _, _, _, _, _, _, _, a2, _⟩
    · obtain ⟨l, hX⟩ := base_all (fun w hw => a1 w (by have := h.facts.wlt w hw; omega)) a4.base
      obtain ⟨l1, hl1⟩ := h.facts.hd
      have hXe : X' = q.H := by rw [hl1] at hX; injection hX with h1 h2; exact h1.symm
      subst hXe
      have hsub : ∀ l o, PT.get l (layAF (ancs opsA.toList []) q.s.wl q.s.xs q.H.tab) = some o → U' l = some o := by
        intro l o hg
        rcases layAF_get hg with ⟨x, hx, h1, rfl, rfl⟩ | hg
        · refine a4.xs x hx (a1 _ (by have := h.facts.xlt x hx; omega)) (fun w hw _ => ?_)
          cases hb : bit (gD (ancs opsA.toList []) w) x.1 with
          | false => rfl
          | true => have := anyBit_iff.2 ⟨w, hw, hb⟩; rw [h1] at this; cases this
        · exact a4.tab l o hg
      have mv := a4.mv.drop hsub
      refine ⟨E', w', arr', dv, cs, ⟨mv, ⟨mv.hr, a5.1, ?_, st.ds.mono mv.le, st.rc.mono mv.le⟩, .refl _ _⟩, a6.trans (.one st_region_end)⟩
      intro i v hg
      refine a5.2 i v ?_
      rcases h.facts.src i v hg with ⟨j, o, te, h1, h2, h3, h4, h5⟩ | ⟨h1, h2⟩
      · exact .inl ⟨j, o, te, a1 j (by omega), h2, h3, h4, h5⟩
      · exact .inr ⟨fun j o _ ho => h1 j o (by have := (List.getElem?_eq_some_iff.1 ho).1; omega) ho, h2⟩
    · omega
  | some h ho hw hc hop hcl hb =>
    rename_i q o f args v
    obtain ⟨cx, hI, tmi⟩ := start h htes
    simp only
    rw [eraseD_eq]
    have hNlt : q.s.rl.length < opsA.size := by have := (List.getElem?_eq_some_iff.1 ho).1; omega
    rcases go_all cx (fun j h1 h2 => hb j h1 (by omega)) b k dv cs opsA.size t (Array.replicate opsA.size false) E _ _ _ arr (by simp) hu0 clo0 (lt0 _) hI tmi with
      ⟨E', w', X', U', arr', S', a1, a2, a3, a4, a5, a6⟩ | ⟨E', w', X', U', arr', S', rest, a1, a2, a3, a4, a5, a6, a7, a8⟩
    · have := a3 _ (a1 _ hNlt); omega
    · obtain ⟨l, hX⟩ := base_head a3 hc a6.base
      obtain ⟨l1, hl1⟩ := h.facts.hd
      have hXe : X' = q.H := by rw [hl1] at hX; injection hX with h1 h2; exact h1.symm
      subst hXe
      have hoA : opsA[q.s.rl.length]? = some o := by simpa using ho
      have hlook := looks_ok cx.stat a4 a7 h (.refl q) ho a1 a3
      have hwr := wanted_ok' hlook hw
      have hev : EvR E' (evR q.tm o) (Act.eval ⟨arr', dv⟩) := evR_ok hlook
      have hsub := lay_sub a6 a3 (fun x hx => hx) (done := q.s.wl) (fun w hw _ => hw)
      have hrT := a6.mv.hr.drop hsub
      have hcf' : cf.ok E'.σ := by rw [a6.mv.le.1]; exact hcf
      have hk := opK_ok (H := ⟨q.H.nx, layF (ancs opsA.toList []) (gD (ancs opsA.toList []) q.s.rl.length) q.s.wl q.s.xs q.H.tab⟩) hcf' hrT (o := o) hev
      rw [hop] at hk
      obtain ⟨xs, hrun, hxs⟩ := hk
      have hcr := hcall f args ⟨q.H.nx, layF (ancs opsA.toList []) (gD (ancs opsA.toList []) q.s.rl.length) q.s.wl q.s.xs q.H.tab⟩ E' w' xs hcf' hrT hxs
      rw [hcl] at hcr
      have hd : b.roundOf = none ∨ ∀ c, o.op ≠ .defer c := by
        refine .inr fun c hc => ?_
        rcases opK_defer (G := G) (cf := cf) (ev := evR q.tm o) (H := ⟨q.H.nx, layF (ancs opsA.toList []) (gD (ancs opsA.toList []) q.s.rl.length) q.s.wl q.s.xs q.H.tab⟩) hc with ⟨f, a, cap, e⟩ | ⟨e, he⟩
        · rw [hop] at e; cases e
        · rw [hop] at he; cases he
      obtain ⟨e, w2, fr, ⟨E2, x, rfl, mv, hv⟩, hsteps, _, hleave⟩ := hcr (Fr b arr' (.inRegion opsA (q.s.rl.length :: rest) :: k) dv :: cs)
      have mvU := Mv.frame a6.mv.hr hsub mv (fun _ => False) (fun l h => h.elim)
      have mvT := (a6.mv.trans mvU).drop (H'' := H1.f) (fun l o e => by rw [if_neg (fun h => h)]; exact e)
      refine ⟨E2, w2, arr', dv, cs, ⟨mvT, ⟨mvT.hr, a7.1, ?_, st.ds.mono mvT.le, st.rc.mono mvT.le⟩, .refl _ _⟩, x, .inRegion opsA (q.s.rl.length :: rest) :: k, hv, a8.trans (.head (st_enter hoA hwr hd hrun) (hsteps.trans (.one ?_)))⟩
      · intro i u hg
        obtain ⟨h1, h2⟩ := eraF_get hg
        obtain ⟨y, hy, hyv⟩ := a7.2 i u (.inr ⟨fun j o _ ho => h1 o (List.mem_of_getElem? ho), h2⟩)
        exact ⟨y, hy, hyv.mono mvU.le⟩
      · exact step_leave_panicked (c := Fr b arr' (.inRegion opsA (q.s.rl.length :: rest) :: k) dv) (cs := cs) hleave
theorem callN_sound [GlOk cf.gl W0] (hm : G.follows .mixedOrders = true) (fuel d : Nat) : CallOk G W0 cf (callN G cf fuel d) := callN_ok (fun call h => drawK_ok hm h) fuel d
/-! ### the whole -/
noncomputable def yes (r : KR) : Bool := match r with
  | .ret (.bool b) _ => b
  | _ => false
theorem HR.start (w : World) (σ : Nat → Int) (hX : XOk w σ := by exact XOk.none rfl) : HR G w ⟨σ, fun _ => none⟩ (Hp.f ⟨P.h, PT.e⟩) 0 w := by
  refine ⟨⟨Below.refl _ _, hX⟩, (fun l x e => nomatch e), (fun l o e => ?_), (fun l l' o o' b c c' e => ?_)⟩
  · have e' : PT.get l PT.e = some o := e
    rw [PT.get_e] at e'; cases e'
  · have e' : PT.get l PT.e = some o := e
    rw [PT.get_e] at e'; cases e'
theorem sound (hm : G.follows .mixedOrders = true) {cf : Cf} {fuel d : Nat} {f : FuncId} {avs : List AV} {xs : List Value} {w : World} {σ : Nat → Int} [GlOk cf.gl w] (hcf : cf.ok σ) (hx : VRs ⟨σ, fun _ => none⟩ avs xs)
    (h : yes (callN G cf fuel d f avs ⟨P.h, PT.e⟩) = true) (hX : XOk w σ := by exact XOk.none rfl) : Calls G f xs.toArray w fun e w' => e = .returned (.bool true) ∧ Below w.heap.size w w' := by
  have hc := callN_sound (W0 := w) (cf := cf) hm fuel d f avs ⟨P.h, PT.e⟩ ⟨σ, fun _ => none⟩ w xs hcf (HR.start w σ hX) hx
  unfold yes at h
  split at h
  · rename_i b H' hr
    rw [hr] at hc
    refine Calls.mono hc ?_
    rintro e w' ⟨E', x, rfl, mv, hv⟩
    cases hv
    exact ⟨by rw [h], mv.hr.below.toBelow⟩
  · cases h
end Go.Ai

/- A function that is proved to answer true, taken as a fact. -/
namespace Go.Ai
open Go Go.RowKit
set_option linter.unusedVariables false
variable {G : Program} {W0 : World} {cf : Cf}
theorem Mv.below {E : Env} {H : P → Option AObj} {nx : Nat} {w w' : World} (h : HR G W0 E H nx w) (hb : Below w.heap.size w w') : Mv G W0 E H nx w E H nx w' := by
  have same : ∀ b, b < w.heap.size → w'.heap[b]? = w.heap[b]? := fun b hb' => hb.block b hb'
  refine ⟨Env.le.refl E, ⟨?_, h.dom, ?_, h.inj⟩, Nat.le_refl _, hb.size, fun b hb' _ => same b hb', fun l o b c ho e => .inr ⟨l, o, c, ho, e⟩, fun _ _ e => .inl e⟩
  · exact h.below.trans (hb.mono h.below.size)
  · intro l o e
    obtain ⟨b, c, ob, e1, e2, e3, e4⟩ := h.obj l o e
    exact ⟨b, c, ob, e1, e2, by rw [same b (h.lt e e1)]; exact e3, e4⟩
noncomputable def overC (aw : Nat) (call : CallF) : CallF := fun f args H => match Nat.beq f aw with
  | true => List.casesOn args (.ret (.bool true) H) (fun _ _ => call f args H)
  | false => call f args H
/-- no assumption -/
noncomputable def cf0 : Cf := ⟨[], [], [], fun _ _ _ => none, fun _ => none⟩
theorem cf0_ok (σ : Nat → Int) : cf0.ok σ := by
  refine ⟨fun a b h => ?_, fun op a b r h => ?_, fun a lo hi h => ?_, fun op a b r h => ?_⟩
  · exact absurd h (by simp [cf0])
  · exact absurd h (by simp [cf0])
  · exact absurd h (by simp [cf0])
  · exact absurd h (by simp [cf0])
/-- it answers true wherever it is called, and leaves what was -/
def Awake (G : Program) (gl : Nat → Option (List AV)) (aw : Nat) : Prop := ∀ w : World, GlOk gl w → Calls G aw #[] w fun e w' => e = .returned (.bool true) ∧ Below w.heap.size w w'
theorem overC_ok [hgl : GlOk cf.gl W0] {aw : Nat} (ha : Awake G cf.gl aw) {call : CallF} (hc : CallOk G W0 cf call) : CallOk G W0 cf (overC aw call) := by
  intro f args H E w xs hcf hr hx
  unfold overC
  split
  · rename_i hf
    have hf := Nat.eq_of_beq_eq_true hf
    subst hf
    cases args with
    | nil =>
      cases hx
      exact Calls.mono (ha w (hgl.below hr.below.toBelow)) (fun e w' h => ⟨E, .bool true, h.1, Mv.below hr h.2, .bool true⟩)
    | cons a args => exact hc _ _ H E w xs hcf hr hx
  · exact hc _ _ H E w xs hcf hr hx
end Go.Ai

/- Package variables that a row lists: arrays of whole numbers, as they lie in a world. -/
namespace Go.Ai
open Go Go.RowKit
set_option linter.unusedVariables false
theorem mapM_some {α β : Type} {f : α → Option β} : ∀ {l : List α} {xs : List β}, l.mapM f = some xs → l.map f = xs.map some
  | [], xs, h => by
    rw [List.mapM_nil] at h
    cases h; rfl
  | a :: l, xs, h => by
    simp only [List.mapM_cons, Option.bind_eq_bind, Option.bind_eq_some_iff, Option.pure_def, Option.some.injEq] at h
    obtain ⟨b, hb, bs, hbs, rfl⟩ := h
    simp [hb, mapM_some hbs]
theorem laid_mem {P : Program} {w : World} {n : String} {d : DataW Unit} : ∀ {l : List (String × DataW Unit)} {ps : List MemPlace}, DataW.LaidVars P w l ps → (n, d) ∈ l →
    ∃ g t cs fuel p, P.globalNamed n = some g ∧ (P.globals[g]?).map (·.type) = some t ∧ w.var? P n = some cs ∧ DataW.trod (fun _ => ()) P w 0 (fun _ => true) false fuel t cs.toList = some (d, p)
  | [], ps, _, hm => by cases hm
  | (n', d') :: l, ps, ⟨g, t, cs, fuel, p, q, h1, h2, h3, h4, h5, h6⟩, hm => by
    rcases List.mem_cons.1 hm with e | hm
    · cases e; exact ⟨g, t, cs, fuel, p, h1, h2, h3, h4⟩
    · exact laid_mem h5 hm
theorem trod_int {P : Program} {w : World} {base : Nat} {sp : Nat → Bool} {held : Bool} {fuel : Nat} {e : TypeId} {k : IntKind} (he : P.underlying e = some (.int k)) {v : Value} {y : DataW Unit × List MemPlace}
    (h : DataW.trod (fun _ => ()) P w base sp held fuel e [v] = some y) : ∃ m, v = .int k m ∧ y.1 = .lit (.int k m) := by
  cases fuel with
  | zero => simp [DataW.trod] at h
  | succ fuel =>
    cases v <;> simp [DataW.trod, he] at h
    rename_i k' m
    obtain ⟨⟨rfl, _⟩, rfl⟩ := h
    exact ⟨m, rfl, rfl⟩
theorem trod_ints {P : Program} {w : World} {base : Nat} {sp : Nat → Bool} {held : Bool} {fuel : Nat} {t e : TypeId} {n : Nat} {k : IntKind} (hu : P.underlying t = some (.array n e)) (he : P.underlying e = some (.int k)) (hc : P.cellsOf t = n) (hs : P.cellsOf e = 1)
    {cs : List Value} {ns : List Int} {p : List MemPlace} (h : DataW.trod (fun _ => ()) P w base sp held fuel t cs = some (.agg (ns.map fun x => .lit (.int k x)), p)) : cs = ns.map (Value.int k) := by
  cases fuel with
  | zero => simp [DataW.trod] at h
  | succ fuel =>
    simp only [DataW.trod, hu] at h
    split at h
    · rename_i hl
      rw [hc] at hl
      simp only [Option.map_eq_some_iff] at h
      obtain ⟨xs, hxs, hx⟩ := h
      have hmap := mapM_some hxs
      have hlen : xs.length = n := by
        have := congrArg List.length hmap
        simpa using this.symm
      have hd : xs.map (·.1) = ns.map fun x => (DataW.lit (.int k x) : DataW Unit) := by
        simp only [Prod.mk.injEq, DataW.agg.injEq] at hx
        exact hx.1
      have hnl : ns.length = n := by
        have := congrArg List.length hd
        simpa [hlen] using this.symm
      apply List.ext_getElem (by simp [hl, hnl])
      intro i h1 h2
      have hi : i < n := by omega
      have hxi : i < xs.length := by omega
      have hf := congrArg (fun l => l[i]?) hmap
      simp only [List.getElem?_map, List.getElem?_range hi, Option.map_some, List.getElem?_eq_getElem hxi] at hf
      have hone : (cs.drop (i * P.cellsOf e)).take (P.cellsOf e) = [cs[i]] := by
        rw [hs, Nat.mul_one, List.drop_eq_getElem_cons h1]; rfl
      rw [hone] at hf
      obtain ⟨m, hm, hy⟩ := trod_int he (Option.some.inj hf)
      have hdi := congrArg (fun l => l[i]?) hd
      have hni : i < ns.length := by omega
      simp only [List.getElem?_map, List.getElem?_eq_getElem hxi, List.getElem?_eq_getElem hni, Option.map_some, Option.some.injEq] at hdi
      rw [hy] at hdi
      simp only [DataW.lit.injEq, Lit.int.injEq, true_and] at hdi
      rw [hm, List.getElem_map, hdi]
    · cases h
theorem vrs_ints (E : Env) (k : IntKind) : ∀ ns : List Int, VRs E (ns.map fun x => AV.int k (.lit x)) (ns.map (Value.int k))
  | [] => .nil
  | n :: ns => .cons (.int k (.lit n)) (vrs_ints E k ns)
/-- a package variable that is an array of whole numbers, as a row lists it -/
theorem laid_ints {P : Program} {w : World} {l : List (String × DataW Unit)} {n : String} {g t e N : Nat} {k : IntKind} {ns : List Int} (h : laidMet P l w) (hm : (n, (DataW.agg (ns.map fun x => .lit (.int k x)) : DataW Unit)) ∈ l) (hg : P.globalNamed n = some g) (ht : (P.globals[g]?).map (·.type) = some t)
    (hu : P.underlying t = some (.array N e)) (he : P.underlying e = some (.int k)) (hc : P.cellsOf t = N) (hs : P.cellsOf e = 1) :
    ∃ arr ty fz, ∃ pre rest : List Value, w.heap[g]? = some (.cells arr ty fz) ∧ arr.toList = pre ++ rest ∧ ∀ E : Env, VRs E (ns.map fun x => AV.int k (.lit x)) pre := by
  obtain ⟨ps, hl, _⟩ := h
  obtain ⟨g', t', cs, fuel, p, h1, h2, h3, h4⟩ := laid_mem hl hm
  rw [hg] at h1; cases h1
  rw [ht] at h2; cases h2
  have hcs := trod_ints hu he hc hs h4
  unfold World.var? at h3
  rw [hg] at h3
  simp only [Option.bind_some] at h3
  split at h3
  · rename_i c ty fz hh
    cases h3
    exact ⟨_, _, _, ns.map (Value.int k), [], hh, by rw [hcs]; simp, fun E => vrs_ints E k ns⟩
  · cases h3
/-! which places are met, and no one twice -/
def placeN : MemPlace → Option Nat
  | .cell b off => match Nat.ble off 65535 with
    | true => some (b * 65536 + off)
    | false => none
  | .map _ => none
noncomputable def nodupT (l : List MemPlace) : PT Unit → Bool := List.rec (fun _ => true) (fun x _ ih t => match placeN x with
  | some n => Option.rec (PT.putK (P.of n) t (some ()) ih) (fun _ => false) (PT.get (P.of n) t)
  | none => false) l
theorem nodupT_cons (x : MemPlace) (l : List MemPlace) (t : PT Unit) : nodupT (x :: l) t = (match placeN x with
  | some n => Option.rec (PT.putK (P.of n) t (some ()) (nodupT l)) (fun _ => false) (PT.get (P.of n) t)
  | none => false) := rfl
theorem placeN_inj {x y : MemPlace} {n : Nat} (hx : placeN x = some n) (hy : placeN y = some n) : x = y := by
  unfold placeN at hx hy
  split at hx
  · split at hx
    · rename_i h1
      have h1 := Nat.le_of_ble_eq_true h1
      split at hy
      · split at hy
        · rename_i h2
          have h2 := Nat.le_of_ble_eq_true h2
          simp only [Option.some.injEq] at hx hy
          congr 1 <;> omega
        · cases hy
      · cases hy
    · cases hx
  · cases hx
theorem nodupT_ok : ∀ (l : List MemPlace) (t : PT Unit), nodupT l t = true → l.Nodup ∧ ∀ x ∈ l, ∀ n, placeN x = some n → PT.get (P.of n) t = none
  | [], t, _ => ⟨.nil, fun x h => by cases h⟩
  | x :: l, t, h => by
    rw [nodupT_cons] at h
    split at h
    · rename_i n hn
      cases hg : PT.get (P.of n) t with
      | some u => rw [hg] at h; cases h
      | none =>
        rw [hg] at h
        simp only [PT.putK_eq] at h
        obtain ⟨h1, h2⟩ := nodupT_ok l _ h
        refine ⟨List.nodup_cons.2 ⟨fun hm => ?_, h1⟩, fun y hy m hm => ?_⟩
        · have := h2 x hm n hn
          rw [PT.get_put_same] at this; cases this
        · rcases List.mem_cons.1 hy with rfl | hy
          · rw [hn] at hm; cases hm; exact hg
          · by_cases hnm : n = m
            · subst hnm; exact hg
            · have := h2 y hy m hm
              rw [PT.get_put_other (fun e => hnm (P.of_inj e))] at this
              exact this
    · cases h
theorem laidMet_of_run2 {P : Program} {w : World} {l : List (String × DataW Unit)} (fuel : Nat) (h : (DataW.laidRun P w fuel (l.map (·.1))).map (·.1) = some l)
    (hn : (DataW.laidRun P w fuel (l.map (·.1))).map (fun x => nodupT x.2 .e) = some true) (hr : (DataW.laidRun P w fuel (l.map (·.1))).map (fun x => laidRowsB P w x.2) = some true) : laidMet P l w := by
  cases hx : DataW.laidRun P w fuel (l.map (·.1)) with
  | none => simp [hx] at h
  | some x =>
    obtain ⟨l', ps⟩ := x
    simp only [hx, Option.map_some, Option.some.injEq] at h hn hr
    subst h
    exact laidMet_of_run fuel hx (decide_eq_true (nodupT_ok _ _ hn).1) hr
end Go.Ai

/- Compiled regions: expressions as trees; what they come to is what the row of the text comes to. -/
namespace Go.Ai
open Go Go.RowKit
set_option linter.unusedVariables false

/-! ### the trees -/
inductive K1 where
  | mv
  | len (t : TypeId)
  | load (t : TypeId)
  | fa (s : TypeId) (f : Nat)
  | fld (t : TypeId) (f : Nat)
  | ext (i : Nat)
  | nil
  | un (op : UnOp)
  | conv (s d : TypeId)
  | iface (t : TypeId)
  | asrt (xt t : TypeId) (ok : Bool)
  | sl0 (t : TypeId)
inductive K2 where
  | bin (op : BinOp) (t : TypeId) (lit : Bool)
  | ia (t : TypeId)
  | ix (t : TypeId)
  | look (t : TypeId) (ok : Bool)
  | min
  | slLo (t : TypeId)
  | slHi (t : TypeId)
inductive CE where
  | tmp (p : P)
  | lit (v : AV)
  | n1 (k : K1) (e : CE)
  | n2 (k : K2) (a b : CE)
  | sl (t : TypeId) (x a b : CE)
  | pick (want : Bool) (c a : CE) (l : AV)

/-! ### what they come to -/
section
variable (G : Program) (cf : Cf)
def nilSameB (op : BinOp) (t : TypeId) (lit : Bool) : Option Bool := match G.underlying t, lit, op with
  | some (.interface _), true, .eql => some true
  | some (.interface _), true, .neq => some false
  | _, _, _ => none
noncomputable def binB {R : Type} (op : BinOp) (t : TypeId) (lit : Bool) (x y : AV) (K : Option AV → R) : R := match x with
  | .if0 => match y with
    | .if0 => match nilSameB G op t lit with
      | some r => K (some (.bool r))
      | none => K none
    | _ => binOpK cf G op t x y K
  | _ => binOpK cf G op t x y K
theorem binB_eq {R : Type} (op : BinOp) (t : TypeId) (xo yo : Operand) (x y : AV) (K : Option AV → R) : binB G cf op t (litOp xo yo) x y K = binOpN cf G op t xo yo x y K := rfl
theorem binB_nat {R : Type} (op : BinOp) (t : TypeId) (lit : Bool) (x y : AV) (K : Option AV → R) : binB G cf op t lit x y K = K (binB G cf op t lit x y id) := by
  unfold binB
  repeat' split
  all_goals first
    | rfl
    | exact binOpK_nat _ _ _ _ _ _ _
section
variable {R : Type} (bad : R) (K : AV → R) (tab : PT AObj)
noncomputable def okK (r : Option AV) : R := Option.rec bad K r
noncomputable def ev1K (k : K1) (a : AV) : R :=
  K1.rec (motive := fun _ => R) (K a) (fun t => okK bad K (lenO G tab t a)) (fun t => okK bad K (loadG cf G tab t a)) (fun s f => okK bad K (fieldAddrO G s a f)) (fun t f => okK bad K (fieldO G t a f)) (fun i => okK bad K (extractO a i)) (okK bad K (nilChkO a))
    (fun op => unK cf op a (okK bad K)) (fun s d => convIK G cf tab s d a (okK bad K)) (fun t => okK bad K (mkIfaceO G t a)) (fun xt t ok => okK bad K (assertO G a xt t ok)) (fun t => okK bad K (sliceC cf G t a none none)) k
noncomputable def ev2K (k : K2) (a b : AV) : R :=
  K2.rec (motive := fun _ => R) (fun op t lit => binB G cf op t lit a b (okK bad K)) (fun t => okK bad K (indexAddrC cf G t a b)) (fun t => okK bad K (indexO G t a b)) (fun t ok => okK bad K (lookO cf G tab t a b ok)) (okK bad K (minO [a, b]))
    (fun t => okK bad K (sliceC cf G t a (some b) none)) (fun t => okK bad K (sliceC cf G t a none (some b))) k
noncomputable def pickK (want : Bool) (l : AV) (a : (AV → R) → R) (c : AV) : R := match c with
  | .bool r => Bool.rec (Bool.rec (a K) (K l) want) (Bool.rec (K l) (a K) want) r
  | _ => bad
end
noncomputable def cevK {R : Type} (bad : R) (tab : PT AObj) (tm : PT AV) (e : CE) : (AV → R) → R :=
  CE.rec (motive := fun _ => (AV → R) → R) (fun p K => okK bad K (PT.get p tm)) (fun v K => K v) (fun k _ ih K => ih (fun a => ev1K G cf bad K tab k a))
    (fun k _ _ iha ihb K => iha (fun a => ihb (fun b => ev2K G cf bad K tab k a b)))
    (fun t _ _ _ ihx iha ihb K => ihx (fun x => iha (fun a => ihb (fun b => okK bad K (sliceC cf G t x (some a) (some b))))))
    (fun want _ _ l ihc iha K => ihc (fun c => pickK bad K want l iha c)) e
noncomputable def ev1 (tab : PT AObj) (k : K1) (a : AV) : Option AV := ev1K G cf none some tab k a
noncomputable def ev2 (tab : PT AObj) (k : K2) (a b : AV) : Option AV := ev2K G cf none some tab k a b
noncomputable def cev (tab : PT AObj) (tm : PT AV) (e : CE) : Option AV := cevK G cf none tab tm e some
theorem okK_some (r : Option AV) : okK none some r = r := by cases r <;> rfl
theorem okK_id {R : Type} (bad : R) (K : AV → R) (r : Option AV) : okK bad K (okK none some r) = okK bad K r := by rw [okK_some]
theorem ev1K_eq {R : Type} (bad : R) (K : AV → R) (tab : PT AObj) (k : K1) (a : AV) : ev1K G cf bad K tab k a = okK bad K (ev1 G cf tab k a) := by
  cases k with
  | mv => rfl
  | un op => show unK cf op a (okK bad K) = okK bad K (unK cf op a (okK none some)); rw [unK_nat, unK_nat (K := okK none some), okK_id]
  | conv s d => show convIK G cf tab s d a (okK bad K) = okK bad K (convIK G cf tab s d a (okK none some)); rw [convIK_nat, convIK_nat (K := okK none some), okK_id]
  | _ => exact (okK_id bad K _).symm
theorem ev2K_eq {R : Type} (bad : R) (K : AV → R) (tab : PT AObj) (k : K2) (a b : AV) : ev2K G cf bad K tab k a b = okK bad K (ev2 G cf tab k a b) := by
  cases k with
  | bin op t lit => show binB G cf op t lit a b (okK bad K) = okK bad K (binB G cf op t lit a b (okK none some)); rw [binB_nat, binB_nat (K := okK none some), okK_id]
  | _ => exact (okK_id bad K _).symm
theorem cevK_eq (tab : PT AObj) (tm : PT AV) : ∀ (e : CE) {R : Type} (bad : R) (K : AV → R), cevK G cf bad tab tm e K = okK bad K (cev G cf tab tm e) := by
  intro e
  induction e with
  | tmp p => intro R bad K; exact (okK_id bad K _).symm
  | lit v => intro R bad K; rfl
  | n1 k e ih =>
    intro R bad K
    show cevK G cf bad tab tm e (fun a => ev1K G cf bad K tab k a) = okK bad K (cevK G cf none tab tm e (fun a => ev1K G cf none some tab k a))
    rw [ih, ih]
    cases cev G cf tab tm e with
    | none => rfl
    | some a => exact ev1K_eq G cf bad K tab k a
  | n2 k a b iha ihb =>
    intro R bad K
    show cevK G cf bad tab tm a (fun a => cevK G cf bad tab tm b (fun b => ev2K G cf bad K tab k a b)) = okK bad K (cevK G cf none tab tm a (fun a => cevK G cf none tab tm b (fun b => ev2K G cf none some tab k a b)))
    rw [iha, iha]
    cases cev G cf tab tm a with
    | none => rfl
    | some x =>
      show cevK G cf bad tab tm b (fun b => ev2K G cf bad K tab k x b) = okK bad K (cevK G cf none tab tm b (fun b => ev2K G cf none some tab k x b))
      rw [ihb, ihb]
      cases cev G cf tab tm b with
      | none => rfl
      | some y => exact ev2K_eq G cf bad K tab k x y
  | sl t x a b ihx iha ihb =>
    intro R bad K
    show cevK G cf bad tab tm x (fun x => cevK G cf bad tab tm a (fun a => cevK G cf bad tab tm b (fun b => okK bad K (sliceC cf G t x (some a) (some b))))) = okK bad K (cevK G cf none tab tm x (fun x => cevK G cf none tab tm a (fun a => cevK G cf none tab tm b (fun b => okK none some (sliceC cf G t x (some a) (some b))))))
    rw [ihx, ihx]
    cases cev G cf tab tm x with
    | none => rfl
    | some x =>
      show cevK G cf bad tab tm a (fun a => cevK G cf bad tab tm b (fun b => okK bad K (sliceC cf G t x (some a) (some b)))) = okK bad K (cevK G cf none tab tm a (fun a => cevK G cf none tab tm b (fun b => okK none some (sliceC cf G t x (some a) (some b)))))
      rw [iha, iha]
      cases cev G cf tab tm a with
      | none => rfl
      | some y =>
        show cevK G cf bad tab tm b (fun b => okK bad K (sliceC cf G t x (some y) (some b))) = okK bad K (cevK G cf none tab tm b (fun b => okK none some (sliceC cf G t x (some y) (some b))))
        rw [ihb, ihb]
        cases cev G cf tab tm b with
        | none => rfl
        | some z => exact (okK_id bad K _).symm
  | pick want c a l ihc iha =>
    intro R bad K
    show cevK G cf bad tab tm c (fun c => pickK bad K want l (cevK G cf bad tab tm a) c) = okK bad K (cevK G cf none tab tm c (fun c => pickK none some want l (cevK G cf none tab tm a) c))
    rw [ihc, ihc]
    cases cev G cf tab tm c with
    | none => rfl
    | some x =>
      show pickK bad K want l (cevK G cf bad tab tm a) x = okK bad K (pickK none some want l (cevK G cf none tab tm a) x)
      unfold pickK
      split
      · rename_i r
        cases r <;> cases want
        · exact iha bad K
        · rfl
        · rfl
        · exact iha bad K
      · rfl
end

/-! ### which operations a tree stands for -/
structure Kp where
  n : Nat
  m : Nat
  l : List Nat
def Kp.has (V : Kp) (t : Nat) : Bool := Nat.ble (Nat.succ t) V.m || V.l.any (Nat.beq t)
inductive Root where
  | tmp (t : Nat)
  | lit (v : AV)
noncomputable def Root.is (r : Root) (x : Operand) : Bool := match r, x with
  | .tmp t, .tmp u => Nat.beq t u
  | .tmp _, _ => false
  | .lit v, x => match evO .e x with | some u => AV.same u v | none => false
def ubeq (a b : UnOp) : Bool := match a, b with
  | .not, .not => true
  | .neg, .neg => true
  | .xor, .xor => true
  | _, _ => false
def bbeq (a b : Bool) : Bool := match a with | true => b | false => !b
theorem bbeq_eq {a b : Bool} (h : bbeq a b = true) : a = b := by cases a <;> cases b <;> simp_all [bbeq]
theorem ubeq_eq {a b : UnOp} (h : ubeq a b = true) : a = b := by cases a <;> cases b <;> simp_all [ubeq]
noncomputable def chk1 (k : K1) (r : Root) (op : Op) : Bool := match k, op with
  | .mv, .move x => r.is x
  | .mv, .assign x => r.is x
  | .len t, .call c => match c.callee, c.argTypes.toList, c.args.toList with
    | .builtin .len, [u], [x] => Nat.beq t u && r.is x
    | _, _, _ => false
  | .load t, .load u x => Nat.beq t u && r.is x
  | .fa s f, .fieldAddr s' x f' => Nat.beq s s' && Nat.beq f f' && r.is x
  | .fld s f, .field s' x f' => Nat.beq s s' && Nat.beq f f' && r.is x
  | .ext i, .extract x j => Nat.beq i j && r.is x
  | .nil, .nilCheck x => r.is x
  | .un op, .unOp op' _ x => ubeq op op' && r.is x
  | .conv s d, .convert s' d' x => Nat.beq s s' && Nat.beq d d' && r.is x
  | .iface t, .makeInterface t' x => Nat.beq t t' && r.is x
  | .asrt xt t ok, .typeAssert x xt' t' ok' => Nat.beq xt xt' && Nat.beq t t' && bbeq ok ok' && r.is x
  | .sl0 t, .slice t' x none none none => Nat.beq t t' && r.is x
  | _, _ => false
noncomputable def chk2 (k : K2) (r q : Root) (op : Op) : Bool := match k, op with
  | .bin op t lit, .binOp op' t' x y _ => obeq op op' && Nat.beq t t' && bbeq lit (litOp x y) && r.is x && q.is y
  | .ia t, .indexAddr t' x y => Nat.beq t t' && r.is x && q.is y
  | .ix t, .index t' x y => Nat.beq t t' && r.is x && q.is y
  | .look t ok, .lookup t' x y ok' => Nat.beq t t' && bbeq ok ok' && r.is x && q.is y
  | .min, .call c => match c.callee, c.args.toList with
    | .builtin .min, [x, y] => r.is x && q.is y
    | _, _ => false
  | .slLo t, .slice t' x (some y) none none => Nat.beq t t' && r.is x && q.is y
  | .slHi t, .slice t' x none (some y) none => Nat.beq t t' && r.is x && q.is y
  | _, _ => false
noncomputable def chk3 (t : TypeId) (r q s : Root) (op : Op) : Bool := match op with
  | .slice t' x (some y) (some z) none => Nat.beq t t' && r.is x && q.is y && s.is z
  | _ => false
noncomputable def chkP (want : Bool) (l : AV) (r q : Root) (op : Op) : Bool := match op with
  | .pick c x y => r.is c && (match want with | true => q.is x && (Root.lit l).is y | false => (Root.lit l).is x && q.is y)
  | _ => false
abbrev Gd := Option (Nat × Bool)
def gbeq (a b : Gd) : Bool := match a, b with
  | none, none => true
  | some (i, x), some (j, y) => Nat.beq i j && bbeq x y
  | _, _ => false
theorem gbeq_eq {a b : Gd} (h : gbeq a b = true) : a = b := by
  unfold gbeq at h
  split at h
  · rfl
  · simp only [Bool.and_eq_true] at h; rw [Nat.eq_of_beq_eq_true h.1, bbeq_eq h.2]
  · cases h
/-- one operation whose result may be looked at (top: it is kept) -/
def one (V : Kp) (top : Bool) (g : Gd) (ok : Op → Bool) (i : Nat) (l : List Oper) : Option (Root × Nat × List Oper) := match l with
  | o :: rest => match o.dst with
    | some t => match gbeq o.guard g && ok o.op && Nat.ble (Nat.succ t) V.n && bbeq top (V.has t) with
      | true => some (.tmp t, Nat.succ i, rest)
      | false => none
    | none => none
  | [] => none
noncomputable def mat (V : Kp) : CE → Bool → Gd → Nat → List Oper → Option (Root × Nat × List Oper)
  | .tmp p, top, g, i, l => match V.has p.toNat, top with
    | true, false => some (.tmp p.toNat, i, l)
    | _, _ => none
  | .lit v, top, g, i, l => match top with
    | false => some (.lit v, i, l)
    | true => none
  | .n1 k e, top, g, i, l => match mat V e false g i l with
    | some (r, i, l) => one V top g (chk1 k r) i l
    | none => none
  | .n2 k a b, top, g, i, l => match mat V a false g i l with
    | some (r, i, l) => match mat V b false g i l with
      | some (q, i, l) => one V top g (chk2 k r q) i l
      | none => none
    | none => none
  | .sl t x a b, top, g, i, l => match mat V x false g i l with
    | some (r, i, l) => match mat V a false g i l with
      | some (q, i, l) => match mat V b false g i l with
        | some (s, i, l) => one V top g (chk3 t r q s) i l
        | none => none
      | none => none
    | none => none
  | .pick want c a lv, top, g, i, l => match mat V c false g i l with
    | some (r, i', l') => match Nat.ble (Nat.succ i) i' with
      | true => match mat V a false (some (Nat.pred i', want)) i' l' with
        | some (q, i, l) => one V top g (chkP want lv r q) i l
        | none => none
      | false => none
    | none => none
end Go.Ai

/- Compiled regions: what a tree stands for is done. -/
namespace Go.Ai
open Go Go.RowKit
set_option linter.unusedVariables false
theorem P.of_toNat (p : P) : P.of p.toNat = p := P.toNat_inj (P.toNat_of _)
def dstAt (ops : List Oper) (j : Nat) : Option Nat := (ops[j]?).bind (·.dst)
def SSA (ops : List Oper) : Prop := ∀ j j' t, dstAt ops j = some t → dstAt ops j' = some t → j = j'
section
variable {G : Program} {cf : Cf} {V : Kp} {ops : List Oper}
theorem drop_cons {i : Nat} {o : Oper} {l : List Oper} (h : ops.drop i = o :: l) : ops[i]? = some o ∧ ops.drop (i + 1) = l := by
  have h1 : ops[i]? = some o := by
    have := List.getElem?_drop (xs := ops) (i := i) (j := 0)
    rw [h] at this
    simpa using this.symm
  exact ⟨h1, by rw [← List.drop_drop, h]; rfl⟩
theorem one_some {top : Bool} {g : Gd} {ok : Op → Bool} {i i' : Nat} {l l' : List Oper} {r : Root} (h : one V top g ok i l = some (r, i', l')) :
    ∃ o t, l = o :: l' ∧ o.dst = some t ∧ o.guard = g ∧ ok o.op = true ∧ Nat.ble (Nat.succ t) V.n = true ∧ V.has t = top ∧ r = .tmp t ∧ i' = i + 1 := by
  unfold one at h
  split at h
  · rename_i o rest
    split at h
    · rename_i t hd
      split at h
      · rename_i hc
        cases h
        simp only [Bool.and_eq_true] at hc
        exact ⟨o, t, rfl, hd, gbeq_eq hc.1.1.1, hc.1.1.2, hc.1.2, (bbeq_eq hc.2).symm, rfl, rfl⟩
      · cases h
    · cases h
  · cases h
structure MF (V : Kp) (ops : List Oper) (top : Bool) (i i' : Nat) (l' : List Oper) (r : Root) : Prop where
  dr : ops.drop i' = l'
  le : i ≤ i'
  ds : ∀ j, i ≤ j → j < i' → ∃ t, dstAt ops j = some t ∧ (j + 1 < i' → V.has t = false)
  rt : (i' = i ∧ top = false ∧ ((∃ v, r = .lit v) ∨ ∃ t, r = .tmp t ∧ V.has t = true)) ∨ (i < i' ∧ ∃ t, r = .tmp t ∧ dstAt ops (i' - 1) = some t ∧ V.has t = top)
theorem MF.nk {i i' : Nat} {l' : List Oper} {r : Root} (h : MF V ops false i i' l' r) {j t : Nat} (h1 : i ≤ j) (h2 : j < i') (h3 : dstAt ops j = some t) : V.has t = false := by
  obtain ⟨u, hu, hk⟩ := h.ds j h1 h2
  rw [h3] at hu; cases hu
  by_cases hj : j + 1 < i'
  · exact hk hj
  · rcases h.rt with ⟨e, _⟩ | ⟨_, u, _, h4, h5⟩
    · omega
    · have : i' - 1 = j := by omega
      rw [this, h3] at h4; cases h4; exact h5
/-- one more -/
theorem MF.one {top : Bool} {g : Gd} {ok : Op → Bool} {i i1 i' : Nat} {l1 l' : List Oper} {r : Root} (hle : i ≤ i1) (hdr : ops.drop i1 = l1) (hds : ∀ j, i ≤ j → j < i1 → ∃ t, dstAt ops j = some t ∧ V.has t = false)
    (h : one V top g ok i1 l1 = some (r, i', l')) : MF V ops top i i' l' r := by
  obtain ⟨o, t, rfl, hd, hg, hok, hn, hV, rfl, rfl⟩ := one_some h
  obtain ⟨ho, hdr'⟩ := drop_cons hdr
  have hda : dstAt ops i1 = some t := by simp [dstAt, ho, hd]
  refine ⟨hdr', by omega, fun j h1 h2 => ?_, .inr ⟨by omega, t, rfl, by simpa using hda, hV⟩⟩
  by_cases hj : j < i1
  · obtain ⟨u, hu, hk⟩ := hds j h1 hj
    exact ⟨u, hu, fun _ => hk⟩
  · have : j = i1 := by omega
    subst this
    exact ⟨t, hda, fun h => by omega⟩
theorem MF.all {i i' : Nat} {l' : List Oper} {r : Root} (h : MF V ops false i i' l' r) : ∀ j, i ≤ j → j < i' → ∃ t, dstAt ops j = some t ∧ V.has t = false := by
  intro j h1 h2
  obtain ⟨t, ht, _⟩ := h.ds j h1 h2
  exact ⟨t, ht, h.nk h1 h2 ht⟩
theorem all_trans {Q : Nat → Prop} {i i1 i2 : Nat} (h : ∀ j, i ≤ j → j < i1 → Q j) (k : ∀ j, i1 ≤ j → j < i2 → Q j) : ∀ j, i ≤ j → j < i2 → Q j := by
  intro j h1 h2
  by_cases hj : j < i1
  · exact h j h1 hj
  · exact k j (by omega) h2
theorem mat_facts : ∀ (e : CE) {top : Bool} {g : Gd} {i i' : Nat} {l l' : List Oper} {r : Root}, mat V e top g i l = some (r, i', l') → ops.drop i = l → MF V ops top i i' l' r := by
  intro e
  induction e with
  | tmp p =>
    intro top g i i' l l' r h hd
    unfold mat at h
    split at h
    · rename_i h1
      cases h
      exact ⟨hd, Nat.le_refl _, fun j _ _ => by omega, .inl ⟨rfl, rfl, .inr ⟨_, rfl, h1⟩⟩⟩
    · cases h
  | lit v =>
    intro top g i i' l l' r h hd
    unfold mat at h
    split at h
    · cases h
      exact ⟨hd, Nat.le_refl _, fun j _ _ => by omega, .inl ⟨rfl, rfl, .inl ⟨_, rfl⟩⟩⟩
    · cases h
  | n1 k e ih =>
    intro top g i i' l l' r h hd
    unfold mat at h
    split at h
    · rename_i r1 i1 l1 h1
      have f1 := ih h1 hd
      exact MF.one f1.le f1.dr f1.all h
    · cases h
  | n2 k a b iha ihb =>
    intro top g i i' l l' r h hd
    unfold mat at h
    split at h
    · rename_i r1 i1 l1 h1
      have f1 := iha h1 hd
      split at h
      · rename_i r2 i2 l2 h2
        have f2 := ihb h2 f1.dr
        exact MF.one (Nat.le_trans f1.le f2.le) f2.dr (all_trans f1.all f2.all) h
      · cases h
    · cases h
  | sl t x a b ihx iha ihb =>
    intro top g i i' l l' r h hd
    unfold mat at h
    split at h
    · rename_i r1 i1 l1 h1
      have f1 := ihx h1 hd
      split at h
      · rename_i r2 i2 l2 h2
        have f2 := iha h2 f1.dr
        split at h
        · rename_i r3 i3 l3 h3
          have f3 := ihb h3 f2.dr
          exact MF.one (Nat.le_trans f1.le (Nat.le_trans f2.le f3.le)) f3.dr (all_trans f1.all (all_trans f2.all f3.all)) h
        · cases h
      · cases h
    · cases h
  | pick want c a lv ihc iha =>
    intro top g i i' l l' r h hd
    unfold mat at h
    split at h
    · rename_i r1 i1 l1 h1
      have f1 := ihc h1 hd
      split at h
      · split at h
        · rename_i r2 i2 l2 h2
          have f2 := iha h2 f1.dr
          exact MF.one (Nat.le_trans f1.le f2.le) f2.dr (all_trans f1.all f2.all) h
        · cases h
      · cases h
    · cases h

/-! ### guards -/
def GdT (ops : List Oper) (g : Gd) (i : Nat) (tm : PT AV) : Prop := match g with
  | none => True
  | some (j, w) => j < i ∧ ∃ t, dstAt ops j = some t ∧ PT.get (P.of t) tm = some (.bool w)
def GdF (ops : List Oper) (j : Nat) (w : Bool) (i : Nat) (tm : PT AV) : Prop := j < i ∧ ∃ t, dstAt ops j = some t ∧ (PT.get (P.of t) tm = some (.bool (!w)) ∨ ∃ l, PT.get (P.of t) tm = some (.tup l))
theorem dstAt_some {j t : Nat} (h : dstAt ops j = some t) : ∃ o, nthL ops j = some o ∧ o.dst = some t := by
  unfold dstAt at h
  cases e : ops[j]? with
  | none => rw [e] at h; cases h
  | some o => rw [e] at h; exact ⟨o, by rw [nthL_eq]; exact e, h⟩
theorem GdT.want {o : Oper} {i : Nat} {tm : PT AV} (h : GdT ops o.guard i tm) : wantO ops o tm = some true := by
  unfold wantO
  cases hg : o.guard with
  | none => rfl
  | some p =>
    obtain ⟨j, w⟩ := p
    rw [hg] at h
    obtain ⟨_, t, h1, h2⟩ := h
    obtain ⟨oj, h3, h4⟩ := dstAt_some h1
    simp only [h3, h4, h2]
    cases w <;> rfl
theorem GdF.want {o : Oper} {i j : Nat} {w : Bool} {tm : PT AV} (hg : o.guard = some (j, w)) (h : GdF ops j w i tm) : wantO ops o tm = some false := by
  unfold wantO
  obtain ⟨_, t, h1, h2⟩ := h
  obtain ⟨oj, h3, h4⟩ := dstAt_some h1
  rw [hg]
  rcases h2 with h2 | ⟨l, h2⟩
  · simp only [h3, h4, h2]
    cases w <;> rfl
  · simp only [h3, h4, h2]
/-! ### what is not written stays -/
def Frm (ops : List Oper) (i i' : Nat) (tm tm' : PT AV) : Prop := ∀ t, (∀ j, i ≤ j → j < i' → dstAt ops j ≠ some t) → PT.get (P.of t) tm' = PT.get (P.of t) tm
theorem Frm.refl (i : Nat) (tm : PT AV) : Frm ops i i tm tm := fun _ _ => rfl
theorem Frm.trans {i i1 i2 : Nat} {tm tm1 tm2 : PT AV} (h : Frm ops i i1 tm tm1) (k : Frm ops i1 i2 tm1 tm2) (h1 : i ≤ i1) (h2 : i1 ≤ i2) : Frm ops i i2 tm tm2 :=
  fun t ht => (k t (fun j a b => ht j (by omega) b)).trans (h t (fun j a b => ht j a (by omega)))
theorem GdT.keep (hs : SSA ops) {g : Gd} {i i' : Nat} {tm tm' : PT AV} (h : GdT ops g i tm) (hf : Frm ops i i' tm tm') (hle : i ≤ i') : GdT ops g i' tm' := by
  cases g with
  | none => trivial
  | some p =>
    obtain ⟨j, w⟩ := p
    obtain ⟨h0, t, h1, h2⟩ := h
    exact ⟨by omega, t, h1, (hf t (fun k a b e => by have := hs j k t h1 e; omega)).trans h2⟩
theorem GdF.keep (hs : SSA ops) {j : Nat} {w : Bool} {i i' : Nat} {tm tm' : PT AV} (h : GdF ops j w i tm) (hf : Frm ops i i' tm tm') (hle : i ≤ i') : GdF ops j w i' tm' := by
  obtain ⟨h0, t, h1, h2⟩ := h
  refine ⟨by omega, t, h1, ?_⟩
  rw [hf t (fun k a b e => by have := hs j k t h1 e; omega)]
  exact h2
def RootV (tm : PT AV) (r : Root) (v : AV) : Prop := match r with
  | .tmp t => PT.get (P.of t) tm = some v
  | .lit u => u = v
theorem RootV.is {tm : PT AV} {r : Root} {v : AV} (h : RootV tm r v) {x : Operand} (hx : r.is x = true) : evO tm x = some v := by
  unfold Root.is at hx
  split at hx
  · have := Nat.eq_of_beq_eq_true hx
    subst this
    exact h
  · cases hx
  · rename_i u
    split at hx
    · rename_i u' hu
      have e : u = v := h
      have := same_eq hx
      subst this e
      cases x with
      | tmp t =>
        have hu' : PT.get (P.of t) (PT.e : PT AV) = some u' := hu
        rw [PT.get_e] at hu'; cases hu'
      | _ => exact hu
    · cases hx
theorem RootV.keep (hs : SSA ops) {i i1 i2 : Nat} {l1 l2 : List Oper} {r q : Root} {tm tm' : PT AV} {v : AV} (h : RootV tm r v) (f1 : MF V ops false i i1 l1 r) (f2 : MF V ops false i1 i2 l2 q) (hf : Frm ops i1 i2 tm tm') : RootV tm' r v := by
  cases r with
  | lit u => exact h
  | tmp t =>
    refine (hf t (fun j a b e => ?_)).trans h
    rcases f1.rt with ⟨_, _, ⟨_, h1⟩ | ⟨u, h1, h2⟩⟩ | ⟨_, u, h1, h2, _⟩
    · cases h1
    · cases h1
      rw [f2.nk a b e] at h2; cases h2
    · cases h1
      have := hs _ _ _ h2 e
      have := f1.le
      omega
/-- of the temporaries that are kept: what is known in the one is known in the other -/
def Sub (V : Kp) (tm tmO : PT AV) : Prop := ∀ t v, V.has t = true → PT.get (P.of t) tm = some v → PT.get (P.of t) tmO = some v
theorem Sub.keep {i i' : Nat} {l' : List Oper} {r : Root} {tm tmO tmO' : PT AV} (h : Sub V tm tmO) (f : MF V ops false i i' l' r) (hf : Frm ops i i' tmO tmO') : Sub V tm tmO' := by
  intro t v ht hg
  refine (hf t (fun j a b e => ?_)).trans (h t v ht hg)
  rw [f.nk a b e] at ht; cases ht

/-! ### steps -/
theorem putT_lt {R : Type} {n t : Nat} (h : Nat.ble (Nat.succ t) n = true) (tm : PT AV) (v : AV) (K : Option (PT AV) → R) : putT n (some t) tm v K = K (some (PT.put (P.of t) tm (some v))) := by
  rw [putT_eq]; simp only [putF, h]
/-- operations that only read, in their row -/
inductive PRun (G : Program) (cf : Cf) (n : Nat) (ops : List Oper) (H : Hp) : List Oper → PT AV → List Oper → PT AV → Prop
  | refl (l : List Oper) (tm : PT AV) : PRun G cf n ops H l tm l tm
  | rd {o : Oper} {l l' : List Oper} {tm tm' : PT AV} {v : AV} {t : Nat} (hw : wantO ops o tm = some true) (hop : opK G cf o (evO tm) H = .rd v) (hd : o.dst = some t) (hn : Nat.ble (Nat.succ t) n = true)
      (h : PRun G cf n ops H l (PT.put (P.of t) tm (some v)) l' tm') : PRun G cf n ops H (o :: l) tm l' tm'
  | skip {o : Oper} {l l' : List Oper} {tm tm' : PT AV} {t : Nat} (hw : wantO ops o tm = some false) (hd : o.dst = some t) (hn : Nat.ble (Nat.succ t) n = true)
      (h : PRun G cf n ops H l (PT.put (P.of t) tm (some (.tup []))) l' tm') : PRun G cf n ops H (o :: l) tm l' tm'
theorem PRun.trans {n : Nat} {H : Hp} {l l1 l2 : List Oper} {tm tm1 tm2 : PT AV} (h : PRun G cf n ops H l tm l1 tm1) (k : PRun G cf n ops H l1 tm1 l2 tm2) : PRun G cf n ops H l tm l2 tm2 := by
  induction h with
  | refl l tm => exact k
  | rd hw hop hd hn _ ih => exact .rd hw hop hd hn (ih k)
  | skip hw hd hn _ ih => exact .skip hw hd hn (ih k)
theorem PRun.regK {call : CallF} {rnd : RndF} {n : Nat} {ds : List AD} {H : Hp} {rc : RC} {l l' : List Oper} {tm tm' : PT AV} (h : PRun G cf n ops H l tm l' tm') : Ai.regK G cf call rnd n ops l tm ds H rc = Ai.regK G cf call rnd n ops l' tm' ds H rc := by
  induction h with
  | refl l tm => rfl
  | rd hw hop hd hn _ ih =>
    rw [regK_cons, hw, hop, hd]
    exact (putT_lt hn _ _ _).trans ih
  | skip hw hd hn _ ih =>
    rw [regK_cons, hw, hd]
    exact (putT_lt hn _ _ _).trans ih
variable {H : Hp}
theorem put_frm {i t : Nat} {tm : PT AV} {v : AV} (h : dstAt ops i = some t) : Frm ops i (i + 1) tm (PT.put (P.of t) tm (some v)) := by
  intro u hu
  refine PT.get_put_other (fun e => ?_) _ _
  have := P.of_inj e
  subst this
  exact hu i (Nat.le_refl _) (by omega) h
theorem one_ok {top : Bool} {g : Gd} {ok : Op → Bool} {i i' : Nat} {l l' : List Oper} {r : Root} {tm : PT AV} {v : AV} (h : one V top g ok i l = some (r, i', l')) (hd : ops.drop i = l) (hg : GdT ops g i tm)
    (hop : ∀ o : Oper, ok o.op = true → opK G cf o (evO tm) H = .rd v) :
    ∃ tm', PRun G cf V.n ops H l tm l' tm' ∧ Frm ops i i' tm tm' ∧ RootV tm' r v := by
  obtain ⟨o, t, rfl, hdst, rfl, hok, hn, hV, rfl, rfl⟩ := one_some h
  obtain ⟨ho, _⟩ := drop_cons hd
  have hda : dstAt ops i = some t := by simp [dstAt, ho, hdst]
  refine ⟨PT.put (P.of t) tm (some v), ?_, put_frm hda, PT.get_put_same _ _ _⟩
  exact .rd hg.want (hop o hok) hdst hn (.refl _ _)
theorem one_skip {top : Bool} {j : Nat} {w : Bool} {ok : Op → Bool} {i i' : Nat} {l l' : List Oper} {r : Root} {tm : PT AV} (h : one V top (some (j, w)) ok i l = some (r, i', l')) (hd : ops.drop i = l) (hg : GdF ops j w i tm) :
    ∃ tm', PRun G cf V.n ops H l tm l' tm' ∧ Frm ops i i' tm tm' ∧ ∃ t, dstAt ops (i' - 1) = some t ∧ ∃ l, PT.get (P.of t) tm' = some (.tup l) := by
  obtain ⟨o, t, rfl, hdst, hgd, hok, hn, hV, rfl, rfl⟩ := one_some h
  obtain ⟨ho, _⟩ := drop_cons hd
  have hda : dstAt ops i = some t := by simp [dstAt, ho, hdst]
  refine ⟨PT.put (P.of t) tm (some (.tup [])), ?_, put_frm hda, t, by simpa using hda, [], PT.get_put_same _ _ _⟩
  exact .skip (hg.want hgd) hdst hn (.refl _ _)
theorem chk1_ok {k : K1} {r : Root} {o : Oper} {ev : Operand → Option AV} {a v : AV} (h : chk1 k r o.op = true) (hr : ∀ x, r.is x = true → ev x = some a) (he : ev1 G cf H.tab k a = some v) : opK G cf o ev H = .rd v := by
  unfold chk1 at h
  unfold opK
  split at h
  · rename_i x ho
    cases he
    simp only [ho, hr x h]; rfl
  · rename_i x ho
    cases he
    simp only [ho, hr x h]; rfl
  · rename_i t c ho
    split at h
    · rename_i u x h1 h2 h3
      simp only [Bool.and_eq_true] at h
      have := Nat.eq_of_beq_eq_true h.1
      subst this
      have he' : lenO G H.tab t a = some v := (okK_some _).symm.trans he
      have hm : mapO ev c.args.toList = some [a] := by
        rw [h3]
        show (Option.casesOn (ev x) none (fun b => Option.casesOn (some []) none (fun bs => some (b :: bs))) : Option (List AV)) = some [a]
        rw [hr x h.2]
      simp only [ho, callK, hm, h1, h2, he']; rfl
    · cases h
  · rename_i t u x ho
    simp only [Bool.and_eq_true] at h
    have := Nat.eq_of_beq_eq_true h.1
    subst this
    have he' : loadG cf G H.tab t a = some v := (okK_some _).symm.trans he
    simp only [ho, hr x h.2, he']; rfl
  · rename_i s f s' x f' ho
    simp only [Bool.and_eq_true] at h
    have h1 := Nat.eq_of_beq_eq_true h.1.1
    have h2 := Nat.eq_of_beq_eq_true h.1.2
    subst h1 h2
    have he' : fieldAddrO G s a f = some v := (okK_some _).symm.trans he
    simp only [ho, hr x h.2, he']; rfl
  · rename_i s f s' x f' ho
    simp only [Bool.and_eq_true] at h
    have h1 := Nat.eq_of_beq_eq_true h.1.1
    have h2 := Nat.eq_of_beq_eq_true h.1.2
    subst h1 h2
    have he' : fieldO G s a f = some v := (okK_some _).symm.trans he
    simp only [ho, hr x h.2, he']; rfl
  · rename_i i x j ho
    simp only [Bool.and_eq_true] at h
    have h1 := Nat.eq_of_beq_eq_true h.1
    subst h1
    have he' : extractO a i = some v := (okK_some _).symm.trans he
    simp only [ho, hr x h.2, he']; rfl
  · rename_i x ho
    have he' : nilChkO a = some v := (okK_some _).symm.trans he
    simp only [ho, hr x h, he']; rfl
  · rename_i op op' t x ho
    simp only [Bool.and_eq_true] at h
    have h1 := ubeq_eq h.1
    subst h1
    have he' : unK cf op a id = some v := (okK_some _).symm.trans ((unK_nat cf op a (okK none some)).symm.trans he)
    simp only [ho, hr x h.2]
    rw [unK_nat, he']; rfl
  · rename_i s d s' d' x ho
    simp only [Bool.and_eq_true] at h
    have h1 := Nat.eq_of_beq_eq_true h.1.1
    have h2 := Nat.eq_of_beq_eq_true h.1.2
    subst h1 h2
    have he' : convIK G cf H.tab s d a id = some v := (okK_some _).symm.trans ((convIK_nat G cf H.tab s d a (okK none some)).symm.trans he)
    simp only [ho, hr x h.2]
    unfold cvtK
    cases hs : slcO G H.tab s d a with
    | true =>
      exfalso
      have hn : convIK G cf H.tab s d a id = none := by
        unfold slcO at hs
        split at hs
        · split at hs
          · rename_i q1 q2 q3
            have := Nat.eq_of_beq_eq_true q1
            subst this
            split at hs
            · rename_i u hu
              simp only [convIK, convO, hu]
              rfl
            · cases hs
          · cases hs
        · cases hs
      rw [hn] at he'; cases he'
    | false =>
      simp only
      split
      · exfalso
        rename_i l off
        have hn : convIK G cf H.tab s d (.ptr l off) id = none := by
          simp only [convIK, convO]
          repeat' split
          all_goals first | rfl | (rename_i h; cases h)
        rw [hn] at he'; cases he'
      · split
        · exfalso
          rename_i sd ob mk q1 q2
          unfold s2bO at q2
          split at q2
          · rename_i e hu
            simp only [convIK, convO, hu, q1] at he'
            first | (cases he'; done) | (repeat' split at he' <;> cases he')
          · cases q2
        · rw [convIK_nat, he']; rfl
      · rw [convIK_nat, he']; rfl
  · rename_i t t' x ho
    simp only [Bool.and_eq_true] at h
    have h1 := Nat.eq_of_beq_eq_true h.1
    subst h1
    have he' : mkIfaceO G t a = some v := (okK_some _).symm.trans he
    simp only [ho, hr x h.2, he']; rfl
  · rename_i xt t ok x xt' t' ok' ho
    simp only [Bool.and_eq_true] at h
    have h1 := Nat.eq_of_beq_eq_true h.1.1.1
    have h2 := Nat.eq_of_beq_eq_true h.1.1.2
    have h3 := bbeq_eq h.1.2
    subst h1 h2 h3
    have he' : assertO G a xt t ok = some v := (okK_some _).symm.trans he
    simp only [ho, hr x h.2, he']; rfl
  · rename_i t t' x ho
    simp only [Bool.and_eq_true] at h
    have h1 := Nat.eq_of_beq_eq_true h.1
    subst h1
    have he' : sliceC cf G t a none none = some v := (okK_some _).symm.trans he
    simp only [ho, hr x h.2, evOpt, he']; rfl
  · cases h
theorem chk2_ok {k : K2} {r q : Root} {o : Oper} {ev : Operand → Option AV} {a b v : AV} (h : chk2 k r q o.op = true) (hr : ∀ x, r.is x = true → ev x = some a) (hq : ∀ x, q.is x = true → ev x = some b) (he : ev2 G cf H.tab k a b = some v) : opK G cf o ev H = .rd v := by
  unfold chk2 at h
  unfold opK
  split at h
  · rename_i op t lit op' t' x y yt ho
    simp only [Bool.and_eq_true] at h
    have h1 := (obeq_iff _ _).1 h.1.1.1.1
    have h2 := Nat.eq_of_beq_eq_true h.1.1.1.2
    have h3 := bbeq_eq h.1.1.2
    subst h1 h2 h3
    have he' : binB G cf op t (litOp x y) a b id = some v := (okK_some _).symm.trans ((binB_nat G cf op t (litOp x y) a b (okK none some)).symm.trans he)
    simp only [ho, hr x h.1.2, hq y h.2]
    rw [← binB_eq, binB_nat, he']; rfl
  · rename_i t t' x y ho
    simp only [Bool.and_eq_true] at h
    have h1 := Nat.eq_of_beq_eq_true h.1.1
    subst h1
    have he' : indexAddrC cf G t a b = some v := (okK_some _).symm.trans he
    simp only [ho, hr x h.1.2, hq y h.2, he']; rfl
  · rename_i t t' x y ho
    simp only [Bool.and_eq_true] at h
    have h1 := Nat.eq_of_beq_eq_true h.1.1
    subst h1
    have he' : indexO G t a b = some v := (okK_some _).symm.trans he
    simp only [ho, hr x h.1.2, hq y h.2, he']; rfl
  · rename_i t ok t' x y ok' ho
    simp only [Bool.and_eq_true] at h
    have h1 := Nat.eq_of_beq_eq_true h.1.1.1
    have h2 := bbeq_eq h.1.1.2
    subst h1 h2
    have he' : lookO cf G H.tab t a b ok = some v := (okK_some _).symm.trans he
    simp only [ho, hr x h.1.2, hq y h.2, he']; rfl
  · rename_i c ho
    split at h
    · rename_i x y h1 h2
      simp only [Bool.and_eq_true] at h
      have he' : minO [a, b] = some v := (okK_some _).symm.trans he
      have hm : mapO ev c.args.toList = some [a, b] := by
        rw [h2]
        show (Option.casesOn (ev x) none (fun b => Option.casesOn (Option.casesOn (ev y) none (fun b => Option.casesOn (some []) none (fun bs => some (b :: bs)))) none (fun bs => some (b :: bs))) : Option (List AV)) = some [a, b]
        rw [hr x h.1, hq y h.2]
      simp only [ho, callK, hm, h1, he']; rfl
    · cases h
  · rename_i t t' x y ho
    simp only [Bool.and_eq_true] at h
    have h1 := Nat.eq_of_beq_eq_true h.1.1
    subst h1
    have he' : sliceC cf G t a (some b) none = some v := (okK_some _).symm.trans he
    simp only [ho, hr x h.1.2, hq y h.2, evOpt, he']; rfl
  · rename_i t t' x y ho
    simp only [Bool.and_eq_true] at h
    have h1 := Nat.eq_of_beq_eq_true h.1.1
    subst h1
    have he' : sliceC cf G t a none (some b) = some v := (okK_some _).symm.trans he
    simp only [ho, hr x h.1.2, hq y h.2, evOpt, he']; rfl
  · cases h
theorem chk3_ok {t : TypeId} {r q s : Root} {o : Oper} {ev : Operand → Option AV} {a b c v : AV} (h : chk3 t r q s o.op = true) (hr : ∀ x, r.is x = true → ev x = some a) (hq : ∀ x, q.is x = true → ev x = some b) (hs : ∀ x, s.is x = true → ev x = some c) (he : sliceC cf G t a (some b) (some c) = some v) : opK G cf o ev H = .rd v := by
  unfold chk3 at h
  unfold opK
  split at h
  · rename_i t' x y z ho
    simp only [Bool.and_eq_true] at h
    have h1 := Nat.eq_of_beq_eq_true h.1.1.1
    subst h1
    simp only [ho, hr x h.1.1.2, hq y h.1.2, hs z h.2, evOpt, he]; rfl
  · cases h
theorem chkP_ok {want : Bool} {l : AV} {r q : Root} {o : Oper} {tm : PT AV} {w : Bool} {v : AV} (h : chkP want l r q o.op = true) (hr : RootV tm r (.bool w)) (hq : w = want → RootV tm q v) (hl : w ≠ want → v = l) : opK G cf o (evO tm) H = .rd v := by
  unfold chkP at h
  unfold opK
  split at h
  · rename_i c x y ho
    simp only [Bool.and_eq_true] at h
    simp only [ho, hr.is h.1]
    have hlit : w ≠ want → ∀ z, (Root.lit l).is z = true → evO tm z = some v := fun hn z hz => by
      have : RootV tm (.lit l) v := (hl hn).symm
      exact this.is hz
    cases want with
    | true =>
      have h2 := h.2
      simp only [Bool.and_eq_true] at h2
      cases w with
      | true => show K3.ofR 8 (evO tm x) = _; rw [(hq rfl).is h2.1]; rfl
      | false => show K3.ofR 8 (evO tm y) = _; rw [hlit (by simp) y h2.2]; rfl
    | false =>
      have h2 := h.2
      simp only [Bool.and_eq_true] at h2
      cases w with
      | true => show K3.ofR 8 (evO tm x) = _; rw [hlit (by simp) x h2.1]; rfl
      | false => show K3.ofR 8 (evO tm y) = _; rw [(hq rfl).is h2.2]; rfl
  · cases h

/-! ### a tree whose guard does not hold -/
theorem skip_ok (hs : SSA ops) : ∀ (e : CE) {top : Bool} {j : Nat} {w : Bool} {i i' : Nat} {l l' : List Oper} {r : Root} {tm : PT AV}, mat V e top (some (j, w)) i l = some (r, i', l') → ops.drop i = l → GdF ops j w i tm →
    ∃ tm', PRun G cf V.n ops H l tm l' tm' ∧ Frm ops i i' tm tm' ∧ (i < i' → ∃ t, dstAt ops (i' - 1) = some t ∧ ∃ l, PT.get (P.of t) tm' = some (.tup l)) := by
  have fin : ∀ {top : Bool} {j : Nat} {w : Bool} {ok : Op → Bool} {i i1 i' : Nat} {l1 l' : List Oper} {r : Root} {l : List Oper} {tm tm1 : PT AV}, i ≤ i1 → one V top (some (j, w)) ok i1 l1 = some (r, i', l') → ops.drop i1 = l1 → GdF ops j w i tm → Frm ops i i1 tm tm1 →
      PRun G cf V.n ops H l tm l1 tm1 →
      ∃ tm', PRun G cf V.n ops H l tm l' tm' ∧ Frm ops i i' tm tm' ∧ (i < i' → ∃ t, dstAt ops (i' - 1) = some t ∧ ∃ l, PT.get (P.of t) tm' = some (.tup l)) := by
    intro top j w ok i i1 i' l1 l' r l tm tm1 hle h hd hg hf hX
    obtain ⟨tm2, h1, h2, h3⟩ := one_skip (G := G) (cf := cf) (H := H) h hd (hg.keep hs hf hle)
    obtain ⟨o, t, _, _, _, _, _, _, _, rfl⟩ := one_some h
    exact ⟨tm2, hX.trans h1, hf.trans h2 hle (by omega), fun _ => h3⟩
  intro e
  induction e with
  | tmp p =>
    intro top j w i i' l l' r tm h hd hg
    unfold mat at h
    split at h
    · cases h; exact ⟨tm, .refl _ _, .refl _ _, fun h => by omega⟩
    · cases h
  | lit v =>
    intro top j w i i' l l' r tm h hd hg
    unfold mat at h
    split at h
    · cases h; exact ⟨tm, .refl _ _, .refl _ _, fun h => by omega⟩
    · cases h
  | n1 k e ih =>
    intro top j w i i' l l' r tm h hd hg
    unfold mat at h
    split at h
    · rename_i r1 i1 l1 h1
      have f1 := mat_facts e h1 hd
      obtain ⟨tm1, e1, fr1, _⟩ := ih h1 hd hg
      exact fin f1.le h f1.dr hg fr1 e1
    · cases h
  | n2 k a b iha ihb =>
    intro top j w i i' l l' r tm h hd hg
    unfold mat at h
    split at h
    · rename_i r1 i1 l1 h1
      have f1 := mat_facts a h1 hd
      obtain ⟨tm1, e1, fr1, _⟩ := iha h1 hd hg
      split at h
      · rename_i r2 i2 l2 h2
        have f2 := mat_facts b h2 f1.dr
        obtain ⟨tm2, e2, fr2, _⟩ := ihb h2 f1.dr (hg.keep hs fr1 f1.le)
        exact fin (Nat.le_trans f1.le f2.le) h f2.dr hg (fr1.trans fr2 f1.le f2.le) (e1.trans e2)
      · cases h
    · cases h
  | sl t x a b ihx iha ihb =>
    intro top j w i i' l l' r tm h hd hg
    unfold mat at h
    split at h
    · rename_i r1 i1 l1 h1
      have f1 := mat_facts x h1 hd
      obtain ⟨tm1, e1, fr1, _⟩ := ihx h1 hd hg
      split at h
      · rename_i r2 i2 l2 h2
        have f2 := mat_facts a h2 f1.dr
        obtain ⟨tm2, e2, fr2, _⟩ := iha h2 f1.dr (hg.keep hs fr1 f1.le)
        have fr12 := fr1.trans fr2 f1.le f2.le
        split at h
        · rename_i r3 i3 l3 h3
          have f3 := mat_facts b h3 f2.dr
          obtain ⟨tm3, e3, fr3, _⟩ := ihb h3 f2.dr (hg.keep hs fr12 (Nat.le_trans f1.le f2.le))
          exact fin (Nat.le_trans f1.le (Nat.le_trans f2.le f3.le)) h f3.dr hg (fr12.trans fr3 (Nat.le_trans f1.le f2.le) f3.le) ((e1.trans e2).trans e3)
        · cases h
      · cases h
    · cases h
  | pick want c a lv ihc iha =>
    intro top j w i i' l l' r tm h hd hg
    unfold mat at h
    split at h
    · rename_i r1 i1 l1 h1
      have f1 := mat_facts c h1 hd
      obtain ⟨tm1, e1, fr1, k1⟩ := ihc h1 hd hg
      split at h
      · rename_i hlt
        have hlt := Nat.le_of_ble_eq_true hlt
        obtain ⟨t, ht1, ht2⟩ := k1 hlt
        split at h
        · rename_i r2 i2 l2 h2
          have f2 := mat_facts a h2 f1.dr
          obtain ⟨tm2, e2, fr2, _⟩ := iha h2 f1.dr (tm := tm1) ⟨by have : Nat.pred i1 = i1 - 1 := rfl; omega, t, ht1, .inr ht2⟩
          exact fin (Nat.le_trans f1.le f2.le) h f2.dr hg (fr1.trans fr2 f1.le f2.le) (e1.trans e2)
        · cases h
      · cases h
    · cases h

/-! ### a tree is done -/
theorem mat_ok (hs : SSA ops) {tm : PT AV} : ∀ (e : CE) {top : Bool} {g : Gd} {i i' : Nat} {l l' : List Oper} {r : Root} {tmO : PT AV} {v : AV}, mat V e top g i l = some (r, i', l') → ops.drop i = l → Sub V tm tmO → GdT ops g i tmO → cev G cf H.tab tm e = some v →
    ∃ tmO', PRun G cf V.n ops H l tmO l' tmO' ∧ Frm ops i i' tmO tmO' ∧ RootV tmO' r v := by
  have fin : ∀ {top : Bool} {g : Gd} {ok : Op → Bool} {i i1 i' : Nat} {l1 l' : List Oper} {r : Root} {l : List Oper} {tm0 tm1 : PT AV} {v : AV}, i ≤ i1 → one V top g ok i1 l1 = some (r, i', l') → ops.drop i1 = l1 → GdT ops g i tm0 → Frm ops i i1 tm0 tm1 →
      PRun G cf V.n ops H l tm0 l1 tm1 → (∀ o : Oper, ok o.op = true → opK G cf o (evO tm1) H = .rd v) →
      ∃ tmO', PRun G cf V.n ops H l tm0 l' tmO' ∧ Frm ops i i' tm0 tmO' ∧ RootV tmO' r v := by
    intro top g ok i i1 i' l1 l' r l tm0 tm1 v hle h hd hg hf hX hop
    obtain ⟨tm2, h1, h2, h3⟩ := one_ok (G := G) (cf := cf) (H := H) h hd (hg.keep hs hf hle) hop
    obtain ⟨o, t, _, _, _, _, _, _, _, rfl⟩ := one_some h
    exact ⟨tm2, hX.trans h1, hf.trans h2 hle (by omega), h3⟩
  intro e
  induction e with
  | tmp p =>
    intro top g i i' l l' r tmO v h hd hsub hg hv
    unfold mat at h
    split at h
    · rename_i hV
      cases h
      refine ⟨tmO, .refl _ _, .refl _ _, hsub _ _ hV ?_⟩
      rw [P.of_toNat]
      exact (okK_some _).symm.trans hv
    · cases h
  | lit u =>
    intro top g i i' l l' r tmO v h hd hsub hg hv
    unfold mat at h
    split at h
    · cases h
      cases hv
      exact ⟨tmO, .refl _ _, .refl _ _, rfl⟩
    · cases h
  | n1 k e ih =>
    intro top g i i' l l' r tmO v h hd hsub hg hv
    have hv' : okK none (fun a => ev1K G cf none some H.tab k a) (cev G cf H.tab tm e) = some v := (cevK_eq G cf H.tab tm e none _).symm.trans hv
    cases hc : cev G cf H.tab tm e with
    | none => rw [hc] at hv'; cases hv'
    | some a =>
      rw [hc] at hv'
      have hv'' : ev1 G cf H.tab k a = some v := hv'
      unfold mat at h
      split at h
      · rename_i r1 i1 l1 h1
        have f1 := mat_facts e h1 hd
        obtain ⟨tm1, e1, fr1, hr1⟩ := ih h1 hd hsub hg hc
        exact fin f1.le h f1.dr hg fr1 e1 (fun o hok => chk1_ok hok (fun x hx => hr1.is hx) hv'')
      · cases h
  | n2 k a b iha ihb =>
    intro top g i i' l l' r tmO v h hd hsub hg hv
    have hv1 : okK none (fun x => cevK G cf none H.tab tm b (fun y => ev2K G cf none some H.tab k x y)) (cev G cf H.tab tm a) = some v := (cevK_eq G cf H.tab tm a none _).symm.trans hv
    cases hca : cev G cf H.tab tm a with
    | none => rw [hca] at hv1; cases hv1
    | some x =>
      rw [hca] at hv1
      have hv2 : okK none (fun y => ev2K G cf none some H.tab k x y) (cev G cf H.tab tm b) = some v := (cevK_eq G cf H.tab tm b none _).symm.trans hv1
      cases hcb : cev G cf H.tab tm b with
      | none => rw [hcb] at hv2; cases hv2
      | some y =>
        rw [hcb] at hv2
        have hv3 : ev2 G cf H.tab k x y = some v := hv2
        unfold mat at h
        split at h
        · rename_i r1 i1 l1 h1
          have f1 := mat_facts a h1 hd
          obtain ⟨tm1, e1, fr1, hr1⟩ := iha h1 hd hsub hg hca
          split at h
          · rename_i r2 i2 l2 h2
            have f2 := mat_facts b h2 f1.dr
            obtain ⟨tm2, e2, fr2, hr2⟩ := ihb h2 f1.dr (hsub.keep f1 fr1) (hg.keep hs fr1 f1.le) hcb
            have hr1' := hr1.keep hs f1 f2 fr2
            exact fin (Nat.le_trans f1.le f2.le) h f2.dr hg (fr1.trans fr2 f1.le f2.le) (e1.trans e2) (fun o hok => chk2_ok hok (fun x hx => hr1'.is hx) (fun x hx => hr2.is hx) hv3)
          · cases h
        · cases h
  | sl t x a b ihx iha ihb =>
    intro top g i i' l l' r tmO v h hd hsub hg hv
    have hv1 : okK none (fun p => cevK G cf none H.tab tm a (fun q => cevK G cf none H.tab tm b (fun s => okK none some (sliceC cf G t p (some q) (some s))))) (cev G cf H.tab tm x) = some v := (cevK_eq G cf H.tab tm x none _).symm.trans hv
    cases hcx : cev G cf H.tab tm x with
    | none => rw [hcx] at hv1; cases hv1
    | some p =>
      rw [hcx] at hv1
      have hv2 : okK none (fun q => cevK G cf none H.tab tm b (fun s => okK none some (sliceC cf G t p (some q) (some s)))) (cev G cf H.tab tm a) = some v := (cevK_eq G cf H.tab tm a none _).symm.trans hv1
      cases hca : cev G cf H.tab tm a with
      | none => rw [hca] at hv2; cases hv2
      | some q =>
        rw [hca] at hv2
        have hv3 : okK none (fun s => okK none some (sliceC cf G t p (some q) (some s))) (cev G cf H.tab tm b) = some v := (cevK_eq G cf H.tab tm b none _).symm.trans hv2
        cases hcb : cev G cf H.tab tm b with
        | none => rw [hcb] at hv3; cases hv3
        | some s =>
          rw [hcb] at hv3
          have hv4 : sliceC cf G t p (some q) (some s) = some v := (okK_some _).symm.trans hv3
          unfold mat at h
          split at h
          · rename_i r1 i1 l1 h1
            have f1 := mat_facts x h1 hd
            obtain ⟨tm1, e1, fr1, hr1⟩ := ihx h1 hd hsub hg hcx
            split at h
            · rename_i r2 i2 l2 h2
              have f2 := mat_facts a h2 f1.dr
              obtain ⟨tm2, e2, fr2, hr2⟩ := iha h2 f1.dr (hsub.keep f1 fr1) (hg.keep hs fr1 f1.le) hca
              have hr1' := hr1.keep hs f1 f2 fr2
              have fr12 := fr1.trans fr2 f1.le f2.le
              have h12 := Nat.le_trans f1.le f2.le
              split at h
              · rename_i r3 i3 l3 h3
                have f3 := mat_facts b h3 f2.dr
                obtain ⟨tm3, e3, fr3, hr3⟩ := ihb h3 f2.dr ((hsub.keep f1 fr1).keep f2 fr2) (hg.keep hs fr12 h12) hcb
                have hr2' := hr2.keep hs f2 f3 fr3
                have hr1'' : RootV tm3 r1 p := by
                  cases r1 with
                  | lit u => exact hr1'
                  | tmp u =>
                    refine (fr3 u (fun j ja jb je => ?_)).trans hr1'
                    rcases f1.rt with ⟨_, _, ⟨_, k1⟩ | ⟨z, k1, k2⟩⟩ | ⟨_, z, k1, k2, _⟩
                    · cases k1
                    · cases k1; rw [f3.nk ja jb je] at k2; cases k2
                    · cases k1
                      have := hs _ _ _ k2 je
                      have := f1.le
                      have := f2.le
                      omega
                exact fin (Nat.le_trans h12 f3.le) h f3.dr hg (fr12.trans fr3 h12 f3.le) ((e1.trans e2).trans e3) (fun o hok => chk3_ok hok (fun x hx => hr1''.is hx) (fun x hx => hr2'.is hx) (fun x hx => hr3.is hx) hv4)
              · cases h
            · cases h
          · cases h
  | pick want c a lv ihc iha =>
    intro top g i i' l l' r tmO v h hd hsub hg hv
    have hv1 : okK none (fun x => pickK none some want lv (cevK G cf none H.tab tm a) x) (cev G cf H.tab tm c) = some v := (cevK_eq G cf H.tab tm c none _).symm.trans hv
    cases hcc : cev G cf H.tab tm c with
    | none => rw [hcc] at hv1; cases hv1
    | some x =>
      rw [hcc] at hv1
      have hv2 : pickK none some want lv (cevK G cf none H.tab tm a) x = some v := hv1
      unfold pickK at hv2
      split at hv2
      · rename_i w
        unfold mat at h
        split at h
        · rename_i r1 i1 l1 h1
          have f1 := mat_facts c h1 hd
          obtain ⟨tm1, e1, fr1, hr1⟩ := ihc h1 hd hsub hg hcc
          split at h
          · rename_i hlt
            have hlt := Nat.le_of_ble_eq_true hlt
            have hpr : Nat.pred i1 = i1 - 1 := rfl
            obtain ⟨t, ht1, ht2, ht3⟩ : ∃ t, r1 = .tmp t ∧ dstAt ops (i1 - 1) = some t ∧ V.has t = false := by
              rcases f1.rt with ⟨e, _⟩ | ⟨_, t, a1, a2, a3⟩
              · omega
              · exact ⟨t, a1, a2, a3⟩
            have hgt : PT.get (P.of t) tm1 = some (.bool w) := by rw [ht1] at hr1; exact hr1
            split at h
            · rename_i r2 i2 l2 h2
              have f2 := mat_facts a h2 f1.dr
              by_cases hw : w = want
              · have hca : cev G cf H.tab tm a = some v := by
                  subst hw
                  cases w <;> exact hv2
                obtain ⟨tm2, e2, fr2, hr2⟩ := iha h2 f1.dr (hsub.keep f1 fr1) (show GdT ops (some (Nat.pred i1, want)) i1 tm1 from ⟨by omega, t, ht2, by rw [← hw]; exact hgt⟩) hca
                have hr1' := hr1.keep hs f1 f2 fr2
                exact fin (Nat.le_trans f1.le f2.le) h f2.dr hg (fr1.trans fr2 f1.le f2.le) (e1.trans e2) (fun o hok => chkP_ok hok hr1' (fun _ => hr2) (fun hn => absurd hw hn))
              · have hvl : v = lv := by
                  cases w <;> cases want
                  · exact absurd rfl hw
                  · cases hv2; rfl
                  · cases hv2; rfl
                  · exact absurd rfl hw
                obtain ⟨tm2, e2, fr2, _⟩ := skip_ok (G := G) (cf := cf) (H := H) hs a h2 f1.dr (tm := tm1) ⟨by omega, t, ht2, .inl (by rw [hgt]; cases w <;> cases want <;> first | rfl | exact absurd rfl hw)⟩
                have hr1' := hr1.keep hs f1 f2 fr2
                exact fin (Nat.le_trans f1.le f2.le) h f2.dr hg (fr1.trans fr2 f1.le f2.le) (e1.trans e2) (fun o hok => chkP_ok hok hr1' (fun he => absurd he hw) (fun _ => hvl))
            · cases h
          · cases h
        · cases h
      · cases hv2
end
end Go.Ai

/- Compiled regions: rows of trees with what they do. -/
namespace Go.Ai
open Go Go.RowKit
set_option linter.unusedVariables false
abbrev Dst := Option (Nat × P)
/-- what is done with values -/
inductive KE where
  | call (f : FuncId)
  | callv
  | store (t : TypeId)
  | app (t xt : TypeId)
  | alloc (t : TypeId)
  | box (t : TypeId)
  | bld (t : TypeId) (ix : List Nat)
  | bsl (t : TypeId) (n : Nat) (ix : List Nat)
  | cpy (t : TypeId)
  | mput (t : TypeId)
  | mksl (t : TypeId)
  | mkmap
  | del (t : TypeId)
  | clo (f : FuncId) (n : Nat)
  | cvs (s d : TypeId)
inductive Sg where
  | put (t : Nat) (p : P) (e : CE)
  | eff (d : Dst) (k : KE) (args : List CE)
noncomputable def zipL {α β : Type} (a : List α) : List β → List (α × β) := List.rec (fun _ => []) (fun x _ ih b => List.casesOn b [] (fun y t => (x, y) :: ih t)) a
section
variable (G : Program) (cf : Cf)
noncomputable def callvK (vs : List AV) (H : Hp) : K3 := match vs with
  | f :: args => match f with
    | .fn (.func f) first cap => match hasBody G f with
      | true => .call f ((first ++ args) ++ cap)
      | false => extK G f ((first ++ args) ++ cap) H
    | .fn (.yield l) first _ => .yield l (first ++ args)
    | _ => .err 22
  | [] => .err 22
noncomputable def two (n : Nat) (F : AV → AV → K3) (vs : List AV) : K3 := match vs with
  | [a, b] => F a b
  | _ => .err n
noncomputable def onev (F : AV → K3) (vs : List AV) : K3 := match vs with
  | [a] => F a
  | _ => .err 20
noncomputable def effK (k : KE) (vs : List AV) (H : Hp) : K3 :=
  KE.rec (motive := fun _ => K3) (fun f => .call f vs) (callvK G vs H) (fun t => two 20 (fun p v => storeK G t p v H (K3.ofU 7)) vs) (fun t xt => two 25 (fun s x => appendK G t xt s x H (K3.ofW 24)) vs)
    (fun t => K3.ofP 14 (allocO G t)) (fun t => onev (fun v => K3.ofP 13 (boxO t v)) vs) (fun t ix => K3.ofR 10 (buildO G t (zipL ix vs))) (fun t n ix => K3.ofA 11 (buildSlO G t n (zipL ix vs)))
    (fun t => two 27 (fun d s => copyK G t d s H (K3.ofW 26)) vs) (fun t => match vs with | [m, k, v] => mapPutK cf G t m k v H (K3.ofU 42) | _ => .err 42) (fun t => two 20 (fun a b => K3.ofA 41 (makeC cf G t a b)) vs) (.al (.map [] 0) .map)
    (fun t => two 29 (fun m k => mapDelK cf G t m k H (K3.ofW 28)) vs) (fun f n => .rd (.fn (.func f) (takeL n vs) (dropL n vs))) (fun s d => onev (fun v => cvtK G cf s d v H) vs) k
noncomputable def putD (d : Dst) (tm : PT AV) (v : AV) (F : PT AV → CR) : CR := Option.rec (F tm) (fun p => PT.putK p.2 tm (some v) F) d
noncomputable def endD (d : Dst) (ih : IH) (tm : PT AV) (ds : List AD) (rc : RC) : KR → CR := KR.rec (fun v H => putD d tm v (fun tm => ih tm ds H rc)) (fun v H => .ok (.pan v) tm ds H rc) (fun k => .err k)
noncomputable def effC (call : CallF) (rnd : RndF) (d : Dst) (ih : IH) (tm : PT AV) (ds : List AD) (H : Hp) (rc : RC) : K3 → CR :=
  K3.rec (fun v => putD d tm v (fun tm => ih tm ds H rc)) (fun ob mk => P.nextK H.nx (fun nx' => PT.putK H.nx H.tab (some ob) (fun t' => putD d tm (mk H.nx) (fun tm => ih tm ds ⟨nx', t'⟩ rc))))
    (fun v H => putD d tm v (fun tm => ih tm ds H rc)) (fun H => putD d tm (.tup []) (fun tm => ih tm ds H rc)) (fun f args => endD d ih tm ds rc (call f args H)) (fun l args => endD d ih tm ds rc (rnd l args H)) (fun _ _ _ => .err 202) (.err 203)
    (fun v => .ok (.pan v) tm ds H rc) (fun _ => .err 216) (fun k => .err k)
noncomputable def cevsK {R : Type} (bad : R) (tab : PT AObj) (tm : PT AV) (es : List CE) : (List AV → R) → R :=
  List.rec (motive := fun _ => (List AV → R) → R) (fun K => K []) (fun e _ ih K => cevK G cf bad tab tm e (fun v => ih (fun vs => K (v :: vs)))) es
noncomputable def sgK (call : CallF) (rnd : RndF) (s : Sg) (ih : IH) (tm : PT AV) (ds : List AD) (H : Hp) (rc : RC) : CR :=
  Sg.rec (motive := fun _ => CR) (fun t p e => cevK G cf (.err 200) H.tab tm e (fun v => PT.putK p tm (some v) (fun tm => ih tm ds H rc)))
    (fun d k args => cevsK G cf (.err 201) H.tab tm args (fun vs => effC call rnd d ih tm ds H rc (effK G cf k vs H))) s
noncomputable def sgsK (call : CallF) (rnd : RndF) (ss : List Sg) (F : IH) : IH := List.rec F (fun s _ ih => sgK G cf call rnd s ih) ss
/-- the same where an order is open: no block is made, nothing is thrown -/
noncomputable def endE (d : Dst) (ih : IH) (tm : PT AV) (ds : List AD) (rc : RC) : KR → CR := KR.rec (fun v H => putD d tm v (fun tm => ih tm ds H rc)) (fun _ _ => .err 211) (fun k => .err k)
noncomputable def effE (call : CallF) (d : Dst) (ih : IH) (tm : PT AV) (ds : List AD) (H : Hp) (rc : RC) : K3 → CR :=
  K3.rec (fun v => putD d tm v (fun tm => ih tm ds H rc)) (fun _ _ => .err 210) (fun v H => putD d tm v (fun tm => ih tm ds H rc)) (fun H => putD d tm (.tup []) (fun tm => ih tm ds H rc)) (fun f args => endE d ih tm ds rc (call f args H))
    (fun _ _ => .err 212) (fun _ _ _ => .err 213) (.err 214) (fun _ => .err 215) (fun _ => .err 217) (fun k => .err k)
noncomputable def seK (call : CallF) (s : Sg) (ih : IH) (tm : PT AV) (ds : List AD) (H : Hp) (rc : RC) : CR :=
  Sg.rec (motive := fun _ => CR) (fun t p e => cevK G cf (.err 200) H.tab tm e (fun v => PT.putK p tm (some v) (fun tm => ih tm ds H rc)))
    (fun d k args => cevsK G cf (.err 201) H.tab tm args (fun vs => effE call d ih tm ds H rc (effK G cf k vs H))) s
noncomputable def sesK (call : CallF) (ss : List Sg) (F : IH) : IH := List.rec F (fun s _ ih => seK G cf call s ih) ss
noncomputable def cevs (tab : PT AObj) (tm : PT AV) (es : List CE) : Option (List AV) := cevsK G cf none tab tm es some
theorem cevsK_eq (tab : PT AObj) (tm : PT AV) : ∀ (es : List CE) {R : Type} (bad : R) (K : List AV → R), cevsK G cf bad tab tm es K = match cevs G cf tab tm es with | some vs => K vs | none => bad := by
  intro es
  induction es with
  | nil => intro R bad K; rfl
  | cons e es ih =>
    intro R bad K
    show cevK G cf bad tab tm e (fun v => cevsK G cf bad tab tm es (fun vs => K (v :: vs))) = match (cevK G cf none tab tm e (fun v => cevsK G cf none tab tm es (fun vs => some (v :: vs)))) with | some vs => K vs | none => bad
    rw [cevK_eq, cevK_eq]
    cases cev G cf tab tm e with
    | none => rfl
    | some v =>
      show cevsK G cf bad tab tm es (fun vs => K (v :: vs)) = match (cevsK G cf none tab tm es (fun vs => some (v :: vs))) with | some vs => K vs | none => bad
      rw [ih, ih]
      cases cevs G cf tab tm es <;> rfl
end
/-! ### which operations they stand for -/
noncomputable def allIs (rs : List Root) (xs : List Operand) : Bool := match rs, xs with
  | [], [] => true
  | r :: rs, x :: xs => r.is x && allIs rs xs
  | _, _ => false
def natsBeq (a b : List Nat) : Bool := match a, b with
  | [], [] => true
  | x :: a, y :: b => Nat.beq x y && natsBeq a b
  | _, _ => false
theorem natsBeq_eq : ∀ {a b : List Nat}, natsBeq a b = true → a = b
  | [], [], _ => rfl
  | x :: a, y :: b, h => by
    simp only [natsBeq, Bool.and_eq_true] at h
    rw [Nat.eq_of_beq_eq_true h.1, natsBeq_eq h.2]
  | [], _ :: _, h => by simp [natsBeq] at h
  | _ :: _, [], h => by simp [natsBeq] at h
noncomputable def chkE (G : Program) (k : KE) (rs : List Root) (op : Op) : Bool := match k, op with
  | .call f, .call c => match c.callee with
    | .value (.func g) => Nat.beq f g && hasBody G f && allIs rs c.args.toList
    | _ => false
  | .callv, .call c => match c.callee, rs with
    | .value x, r :: rs => r.is x && allIs rs c.args.toList
    | _, _ => false
  | .store t, .store t' a v => Nat.beq t t' && allIs rs [a, v]
  | .app t xt, .call c => match c.callee, c.argTypes.toList with
    | .builtin .append, [u, v] => Nat.beq t u && Nat.beq xt v && allIs rs c.args.toList
    | _, _ => false
  | .alloc t, .alloc t' => Nat.beq t t'
  | .box t, .box t' x => Nat.beq t t' && allIs rs [x]
  | .bld t ix, .build t' ps => Nat.beq t t' && natsBeq ix (ps.toList.map (·.1)) && allIs rs (ps.toList.map (·.2))
  | .bsl t n ix, .buildSlice t' n' ps => Nat.beq t t' && Nat.beq n n' && natsBeq ix (ps.toList.map (·.1)) && allIs rs (ps.toList.map (·.2))
  | .cpy t, .call c => match c.callee, c.argTypes.toList with
    | .builtin .copy, [u, _] => Nat.beq t u && allIs rs c.args.toList
    | _, _ => false
  | .mput t, .mapUpdate t' m k x => Nat.beq t t' && allIs rs [m, k, x]
  | .mksl t, .makeSlice t' a b => Nat.beq t t' && allIs rs [a, b]
  | .mkmap, .makeMap _ none => true
  | .del t, .call c => match c.callee, c.argTypes.toList with
    | .builtin .delete, [u, _] => Nat.beq t u && allIs rs c.args.toList
    | _, _ => false
  | .cvs s d, .convert s' d' x => Nat.beq s s' && Nat.beq d d' && allIs rs [x]
  | .clo f n, .makeFunc (.func g) a b => Nat.beq f g && Nat.beq n a.toList.length && allIs rs (a.toList ++ b.toList)
  | _, _ => false
def dOk (V : Kp) (d : Dst) (dst : Option Nat) : Bool := match d, dst with
  | some (t, p), some u => Nat.beq t u && Nat.beq p.toNat t && V.has t && Nat.ble (Nat.succ t) V.n
  | none, some u => !V.has u && Nat.ble (Nat.succ u) V.n
  | none, none => true
  | some _, none => false
noncomputable def mats (V : Kp) : List CE → Nat → List Oper → Option (List Root × Nat × List Oper)
  | [], i, l => some ([], i, l)
  | e :: es, i, l => match mat V e false none i l with
    | some (r, i, l) => match mats V es i l with
      | some (rs, i, l) => some (r :: rs, i, l)
      | none => none
    | none => none
noncomputable def matS (G : Program) (V : Kp) (s : Sg) (i : Nat) (l : List Oper) : Option (Nat × List Oper) := match s with
  | .put t p e => match mat V e true none i l with
    | some (.tmp u, i, l) => match Nat.beq u t && Nat.beq p.toNat t with
      | true => some (i, l)
      | false => none
    | _ => none
  | .eff d k args => match mats V args i l with
    | some (rs, i, o :: l) => match gbeq o.guard none && chkE G k rs o.op && dOk V d o.dst with
      | true => some (Nat.succ i, l)
      | false => none
    | _ => none
noncomputable def matSs (G : Program) (V : Kp) : List Sg → Nat → List Oper → Option (Nat × List Oper)
  | [], i, l => some (i, l)
  | s :: ss, i, l => match matS G V s i l with
    | some (i, l) => matSs G V ss i l
    | none => none
section
variable {G : Program} {cf : Cf} {V : Kp} {ops : List Oper} {call : CallF} {rnd : RndF} {ds : List AD} {H : Hp} {rc : RC}
def Keys (V : Kp) (tm : PT AV) : Prop := ∀ p v, PT.get p tm = some v → V.has p.toNat = true
theorem RootV.keepA (hs : SSA ops) {i i1 i2 : Nat} {l1 : List Oper} {r : Root} {tm tm' : PT AV} {v : AV} (h : RootV tm r v) (f1 : MF V ops false i i1 l1 r) (f2 : ∀ j, i1 ≤ j → j < i2 → ∃ t, dstAt ops j = some t ∧ V.has t = false) (hf : Frm ops i1 i2 tm tm') : RootV tm' r v := by
  cases r with
  | lit u => exact h
  | tmp t =>
    refine (hf t (fun j a b e => ?_)).trans h
    rcases f1.rt with ⟨_, _, ⟨_, h1⟩ | ⟨u, h1, h2⟩⟩ | ⟨_, u, h1, h2, _⟩
    · cases h1
    · cases h1
      obtain ⟨z, h3, h4⟩ := f2 j a b
      rw [e] at h3; cases h3
      rw [h4] at h2; cases h2
    · cases h1
      have := hs _ _ _ h2 e
      have := f1.le
      omega
theorem Sub.keepA {i i' : Nat} {tm tmO tmO' : PT AV} (h : Sub V tm tmO) (f : ∀ j, i ≤ j → j < i' → ∃ t, dstAt ops j = some t ∧ V.has t = false) (hf : Frm ops i i' tmO tmO') : Sub V tm tmO' := by
  intro t v ht hg
  refine (hf t (fun j a b e => ?_)).trans (h t v ht hg)
  obtain ⟨z, h3, h4⟩ := f j a b
  rw [e] at h3; cases h3
  rw [h4] at ht; cases ht
inductive RVs (tm : PT AV) : List Root → List AV → Prop
  | nil : RVs tm [] []
  | cons {r : Root} {v : AV} {rs : List Root} {vs : List AV} (h : RootV tm r v) (hs : RVs tm rs vs) : RVs tm (r :: rs) (v :: vs)
theorem RVs.ev {tm : PT AV} : ∀ {rs : List Root} {vs : List AV} {xs : List Operand}, RVs tm rs vs → allIs rs xs = true → mapO (evO tm) xs = some vs
  | _, _, [], .nil, _ => rfl
  | _, _, x :: xs, .cons h hs, e => by
    simp only [allIs, Bool.and_eq_true] at e
    show (Option.casesOn (evO tm x) none (fun b => Option.casesOn (mapO (evO tm) xs) none (fun bs => some (b :: bs))) : Option (List AV)) = _
    rw [h.is e.1, hs.ev e.2]
  | _, _, x :: xs, .nil, e => by simp [allIs] at e
  | _, _, [], .cons _ _, e => by simp [allIs] at e
theorem mats_ok (hs : SSA ops) {tm : PT AV} : ∀ (es : List CE) {i i' : Nat} {l l' : List Oper} {rs : List Root} {tmO : PT AV} {vs : List AV}, mats V es i l = some (rs, i', l') → ops.drop i = l → Sub V tm tmO → cevs G cf H.tab tm es = some vs →
    ops.drop i' = l' ∧ i ≤ i' ∧ (∀ j, i ≤ j → j < i' → ∃ t, dstAt ops j = some t ∧ V.has t = false) ∧
    ∃ tmO', PRun G cf V.n ops H l tmO l' tmO' ∧ Frm ops i i' tmO tmO' ∧ RVs tmO' rs vs := by
  intro es
  induction es with
  | nil =>
    intro i i' l l' rs tmO vs h hd hsub hv
    cases h; cases hv
    exact ⟨hd, Nat.le_refl _, fun j _ _ => by omega, tmO, .refl _ _, .refl _ _, .nil⟩
  | cons e es ih =>
    intro i i' l l' rs tmO vs h hd hsub hv
    have hv1 : okK none (fun v => cevsK G cf none H.tab tm es (fun vs => some (v :: vs))) (cev G cf H.tab tm e) = some vs := (cevK_eq G cf H.tab tm e none _).symm.trans hv
    cases hc : cev G cf H.tab tm e with
    | none => rw [hc] at hv1; cases hv1
    | some v =>
      rw [hc] at hv1
      have hv2 : (match cevs G cf H.tab tm es with | some ws => some (v :: ws) | none => none) = some vs := (cevsK_eq G cf H.tab tm es none _).symm.trans hv1
      cases hcs : cevs G cf H.tab tm es with
      | none => rw [hcs] at hv2; cases hv2
      | some ws =>
        rw [hcs] at hv2
        cases hv2
        unfold mats at h
        split at h
        · rename_i r1 i1 l1 h1
          have f1 := mat_facts e h1 hd
          obtain ⟨tm1, e1, fr1, hr1⟩ := mat_ok (G := G) (cf := cf) (H := H) hs e h1 hd hsub trivial hc
          split at h
          · rename_i rs2 i2 l2 h2
            cases h
            obtain ⟨d2, le2, al2, tm2, e2, fr2, hr2⟩ := ih h2 f1.dr (hsub.keep f1 fr1) hcs
            exact ⟨d2, Nat.le_trans f1.le le2, all_trans f1.all al2, tm2, e1.trans e2, fr1.trans fr2 f1.le le2, .cons (hr1.keepA hs f1 al2 fr2) hr2⟩
          · cases h
        · cases h
theorem parts_zip {ev : Operand → Option AV} : ∀ {ps : List (Nat × Operand)} {ix : List Nat} {vs : List AV}, ix = ps.map (·.1) → mapO ev (ps.map (·.2)) = some vs → partsO ev ps = some (zipL ix vs)
  | [], ix, vs, h1, h2 => by subst h1; cases h2; rfl
  | (n, x) :: ps, ix, vs, h1, h2 => by
    subst h1
    obtain ⟨b, bs, e1, e2, rfl⟩ := mapO_cons _ _ _ h2
    have := parts_zip (ps := ps) rfl e2
    show (Option.casesOn (match ev x with | some v => some (n, v) | none => none) none (fun b => Option.casesOn (partsO ev ps) none (fun bs => some (b :: bs))) : Option (List (Nat × AV))) = some ((n, b) :: zipL (ps.map (·.1)) bs)
    rw [e1, this]
theorem mapO_one {ev : Operand → Option AV} {x : Operand} {vs : List AV} (h : mapO ev [x] = some vs) : ∃ a, vs = [a] ∧ ev x = some a := by
  obtain ⟨b, bs, e1, e2, rfl⟩ := mapO_cons _ _ _ h
  cases e2
  exact ⟨b, rfl, e1⟩
theorem mapO_two {ev : Operand → Option AV} {x y : Operand} {vs : List AV} (h : mapO ev [x, y] = some vs) : ∃ a b, vs = [a, b] ∧ ev x = some a ∧ ev y = some b := by
  obtain ⟨b, bs, e1, e2, rfl⟩ := mapO_cons _ _ _ h
  obtain ⟨c, rfl, e3⟩ := mapO_one e2
  exact ⟨b, c, rfl, e1, e3⟩
theorem mapO_three {ev : Operand → Option AV} {x y z : Operand} {vs : List AV} (h : mapO ev [x, y, z] = some vs) : ∃ a b c, vs = [a, b, c] ∧ ev x = some a ∧ ev y = some b ∧ ev z = some c := by
  obtain ⟨b, bs, e1, e2, rfl⟩ := mapO_cons _ _ _ h
  obtain ⟨c, d, rfl, e3, e4⟩ := mapO_two e2
  exact ⟨b, c, d, rfl, e1, e3, e4⟩
theorem mapO_app {ev : Operand → Option AV} : ∀ {xs ys : List Operand} {vs : List AV}, mapO ev (xs ++ ys) = some vs → mapO ev xs = some (takeL xs.length vs) ∧ mapO ev ys = some (dropL xs.length vs)
  | [], ys, vs, h => by rw [takeL_eq, dropL_eq]; simpa using ⟨rfl, h⟩
  | x :: xs, ys, vs, h => by
    obtain ⟨b, bs, e1, e2, rfl⟩ := mapO_cons _ _ _ h
    obtain ⟨h1, h2⟩ := mapO_app (xs := xs) e2
    rw [takeL_eq] at h1 ⊢
    rw [dropL_eq] at h2 ⊢
    refine ⟨?_, by simpa using h2⟩
    show (Option.casesOn (ev x) none (fun b => Option.casesOn (mapO ev xs) none (fun bs => some (b :: bs))) : Option (List AV)) = _
    rw [e1, h1]; rfl
theorem chkE_ok {k : KE} {rs : List Root} {o : Oper} {tm : PT AV} {vs : List AV} (h : chkE G k rs o.op = true) (hr : RVs tm rs vs) : opK G cf o (evO tm) H = effK G cf k vs H := by
  unfold chkE at h
  unfold opK
  split at h
  · rename_i f c ho
    split at h
    · rename_i g hc
      simp only [Bool.and_eq_true] at h
      have h1 := Nat.eq_of_beq_eq_true h.1.1
      subst h1
      have hm := hr.ev h.2
      simp only [ho, callK, hm, hc, evO, h.1.2]
      simp [effK]
    · cases h
  · rename_i c ho
    split at h
    · rename_i x r rs hc
      simp only [Bool.and_eq_true] at h
      cases hr with
      | cons hr1 hr2 =>
        have hm := hr2.ev h.2
        have hx := hr1.is h.1
        rename_i v vs
        simp only [ho, callK, hm, hc, hx]
        cases v with
        | fn f a b => cases f <;> rfl
        | _ => rfl
    · cases h
  · rename_i t t' a v ho
    simp only [Bool.and_eq_true] at h
    have h1 := Nat.eq_of_beq_eq_true h.1
    subst h1
    obtain ⟨p, q, rfl, e1, e2⟩ := mapO_two (hr.ev h.2)
    simp only [ho, e1, e2]; rfl
  · rename_i t xt c ho
    split at h
    · rename_i u v h1 h2
      simp only [Bool.and_eq_true] at h
      have h3 := Nat.eq_of_beq_eq_true h.1.1
      have h4 := Nat.eq_of_beq_eq_true h.1.2
      subst h3 h4
      have hm := hr.ev h.2
      simp only [ho, callK, hm, h1, h2]
      match vs with
      | [] => rfl
      | [a] => rfl
      | [a, b] => rfl
      | a :: b :: c :: l => rfl
    · cases h
  · rename_i t t' ho
    have h1 := Nat.eq_of_beq_eq_true h
    subst h1
    simp only [ho]; rfl
  · rename_i t t' x ho
    simp only [Bool.and_eq_true] at h
    have h1 := Nat.eq_of_beq_eq_true h.1
    subst h1
    obtain ⟨p, rfl, e1⟩ := mapO_one (hr.ev h.2)
    simp only [ho, e1]; rfl
  · rename_i t ix t' ps ho
    simp only [Bool.and_eq_true] at h
    have h1 := Nat.eq_of_beq_eq_true h.1.1
    subst h1
    have hp := parts_zip (natsBeq_eq h.1.2) (hr.ev h.2)
    simp only [ho, hp]; rfl
  · rename_i t n ix t' n' ps ho
    simp only [Bool.and_eq_true] at h
    have h1 := Nat.eq_of_beq_eq_true h.1.1.1
    have h2 := Nat.eq_of_beq_eq_true h.1.1.2
    subst h1 h2
    have hp := parts_zip (natsBeq_eq h.1.2) (hr.ev h.2)
    simp only [ho, hp]; rfl
  · rename_i t c ho
    split at h
    · rename_i u v h1 h2
      simp only [Bool.and_eq_true] at h
      have h3 := Nat.eq_of_beq_eq_true h.1
      subst h3
      have hm := hr.ev h.2
      simp only [ho, callK, hm, h1, h2]
      match vs with
      | [] => rfl
      | [a] => rfl
      | [a, b] => rfl
      | a :: b :: c :: l => rfl
    · cases h
  · rename_i t t' m kk x ho
    simp only [Bool.and_eq_true] at h
    have h1 := Nat.eq_of_beq_eq_true h.1
    subst h1
    obtain ⟨p, q, s, rfl, e1, e2, e3⟩ := mapO_three (hr.ev h.2)
    simp only [ho, e1, e2, e3]; rfl
  · rename_i t t' a b ho
    simp only [Bool.and_eq_true] at h
    have h1 := Nat.eq_of_beq_eq_true h.1
    subst h1
    obtain ⟨p, q, rfl, e1, e2⟩ := mapO_two (hr.ev h.2)
    simp only [ho, e1, e2]; rfl
  · rename_i t ho
    simp only [ho]; rfl
  · rename_i t c ho
    split at h
    · rename_i u v h1 h2
      simp only [Bool.and_eq_true] at h
      have h3 := Nat.eq_of_beq_eq_true h.1
      subst h3
      have hm := hr.ev h.2
      simp only [ho, callK, hm, h1, h2]
      match vs with
      | [] => rfl
      | [a] => rfl
      | [a, b] => rfl
      | a :: b :: c :: l => rfl
    · cases h
  · rename_i s d s' d' x ho
    simp only [Bool.and_eq_true] at h
    have h1 := Nat.eq_of_beq_eq_true h.1.1
    have h2 := Nat.eq_of_beq_eq_true h.1.2
    subst h1 h2
    obtain ⟨p, rfl, e1⟩ := mapO_one (hr.ev h.2)
    simp only [ho, e1]; rfl
  · rename_i f n g a b ho
    simp only [Bool.and_eq_true] at h
    have h1 := Nat.eq_of_beq_eq_true h.1.1
    have h2 := Nat.eq_of_beq_eq_true h.1.2
    subst h1 h2
    obtain ⟨e1, e2⟩ := mapO_app (hr.ev h.2)
    simp only [ho, e1, e2]; rfl
  · cases h
/-- how a row of trees and the row of the text go on together -/
inductive SegO (G : Program) (cf : Cf) (call : CallF) (rnd : RndF) (V : Kp) (ops : List Oper) (F : IH) (ds : List AD) (rc : RC) (l' : List Oper) : CR → CR → Prop
  | err (k : Nat) (rO : CR) : SegO G cf call rnd V ops F ds rc l' (.err k) rO
  | pan (v : AV) {tm' tmO' : PT AV} {H' : Hp} (h : Sub V tm' tmO') (hk : Keys V tm') : SegO G cf call rnd V ops F ds rc l' (.ok (.pan v) tm' ds H' rc) (.ok (.pan v) tmO' ds H' rc)
  | go {tm' tmO' : PT AV} {H' : Hp} (h : Sub V tm' tmO') (hk : Keys V tm') : SegO G cf call rnd V ops F ds rc l' (F tm' ds H' rc) (regK G cf call rnd V.n ops l' tmO' ds H' rc)
theorem Keys.put {tm : PT AV} (h : Keys V tm) {p : P} (hp : V.has p.toNat = true) (v : AV) : Keys V (PT.put p tm (some v)) := by
  intro q u e
  by_cases hq : p = q
  · subst hq; exact hp
  · rw [PT.get_put_other hq] at e; exact h q u e
theorem putD_ok {d : Dst} {dst : Option Nat} {tm tmO : PT AV} (h : dOk V d dst = true) (hsub : Sub V tm tmO) (hk : Keys V tm) (v : AV) :
    ∃ tm' tmO', (∀ F : PT AV → CR, putD d tm v F = F tm') ∧ (∀ K : Option (PT AV) → CR, putT V.n dst tmO v K = K (some tmO')) ∧ Sub V tm' tmO' ∧ Keys V tm' ∧ putF V.n dst tmO v = some tmO' := by
  unfold dOk at h
  split at h
  · rename_i t p u
    simp only [Bool.and_eq_true] at h
    have h1 := Nat.eq_of_beq_eq_true h.1.1.1
    have h2 := Nat.eq_of_beq_eq_true h.1.1.2
    subst h1
    have hp : p = P.of t := by rw [← h2, P.of_toNat]
    refine ⟨PT.put p tm (some v), PT.put (P.of t) tmO (some v), fun F => PT.putK_eq _ _ _ _, fun K => putT_lt h.2 _ _ _, ?_, hk.put (by rw [h2]; exact h.1.2) v, by simp only [putF, h.2]⟩
    subst hp
    intro t' w ht hg
    by_cases he : t = t'
    · subst he
      rw [PT.get_put_same] at hg ⊢
      exact hg
    · rw [PT.get_put_other (fun e => he (P.of_inj e))] at hg ⊢
      exact hsub t' w ht hg
  · rename_i u
    simp only [Bool.and_eq_true] at h
    refine ⟨tm, PT.put (P.of u) tmO (some v), fun F => rfl, fun K => putT_lt h.2 _ _ _, ?_, hk, by simp only [putF, h.2]⟩
    intro t' w ht hg
    have he : u ≠ t' := fun e => by subst e; rw [ht] at h; simp at h
    rw [PT.get_put_other (fun e => he (P.of_inj e))]
    exact hsub t' w ht hg
  · exact ⟨tm, tmO, fun F => rfl, fun K => by rw [putT_eq]; rfl, hsub, hk, rfl⟩
  · cases h
theorem put_ok (hs : SSA ops) {t : Nat} {p : P} {e : CE} {F : IH} {i i' : Nat} {l l' : List Oper} {tm tmO : PT AV} (h : matS G V (.put t p e) i l = some (i', l')) (hd : ops.drop i = l) (hsub : Sub V tm tmO) (hk : Keys V tm) :
    ops.drop i' = l' ∧ ((∃ k, sgK G cf call rnd (.put t p e) F tm ds H rc = .err k) ∨ ∃ tm' tmO', sgK G cf call rnd (.put t p e) F tm ds H rc = F tm' ds H rc ∧ PRun G cf V.n ops H l tmO l' tmO' ∧ Sub V tm' tmO' ∧ Keys V tm') := by
  unfold matS at h
  simp only at h
  split at h
  · rename_i u i1 l1 hm
    split at h
    · rename_i hc
      cases h
      simp only [Bool.and_eq_true] at hc
      have h1 := Nat.eq_of_beq_eq_true hc.1
      have h2 := Nat.eq_of_beq_eq_true hc.2
      subst h1
      have hp : p = P.of u := by rw [← h2, P.of_toNat]
      have f := mat_facts e hm hd
      refine ⟨f.dr, ?_⟩
      have he : sgK G cf call rnd (.put u p e) F tm ds H rc = okK (.err 200) (fun v => PT.putK p tm (some v) (fun tm => F tm ds H rc)) (cev G cf H.tab tm e) := cevK_eq G cf H.tab tm e _ _
      rw [he]
      cases hv : cev G cf H.tab tm e with
      | none => exact .inl ⟨_, rfl⟩
      | some v =>
        obtain ⟨tmO', e1, fr, hr⟩ := mat_ok (G := G) (cf := cf) (H := H) hs e hm hd hsub trivial hv
        have hrt : i < i' ∧ dstAt ops (i' - 1) = some u ∧ V.has u = true := by
          rcases f.rt with ⟨_, e, _⟩ | ⟨a, z, b, c, d⟩
          · cases e
          · cases b; exact ⟨a, c, d⟩
        refine .inr ⟨PT.put p tm (some v), tmO', PT.putK_eq _ _ _ _, e1, ?_, hk.put (by rw [h2]; exact hrt.2.2) v⟩
        subst hp
        intro t' w ht hg
        by_cases hh : u = t'
        · subst hh
          rw [PT.get_put_same] at hg
          cases hg
          exact hr
        · rw [PT.get_put_other (fun e => hh (P.of_inj e))] at hg
          refine (fr t' (fun j a b e => ?_)).trans (hsub t' w ht hg)
          obtain ⟨z, hz, hz2⟩ := f.ds j a b
          rw [e] at hz; cases hz
          by_cases hj : j + 1 < i'
          · rw [hz2 hj] at ht; cases ht
          · have : i' - 1 = j := by omega
            rw [this] at hrt
            rw [e] at hrt
            exact hh (Option.some.inj hrt.2.1).symm
    · cases h
  · cases h
theorem sg_ok (hs : SSA ops) {s : Sg} {F : IH} {i i' : Nat} {l l' : List Oper} {tm tmO : PT AV} (h : matS G V s i l = some (i', l')) (hd : ops.drop i = l) (hsub : Sub V tm tmO) (hk : Keys V tm) :
    ops.drop i' = l' ∧ SegO G cf call rnd V ops F ds rc l' (sgK G cf call rnd s F tm ds H rc) (regK G cf call rnd V.n ops l tmO ds H rc) := by
  cases s with
  | put t p e =>
    obtain ⟨h1, h2⟩ := put_ok (G := G) (cf := cf) (call := call) (rnd := rnd) (ds := ds) (H := H) (rc := rc) (F := F) hs h hd hsub hk
    refine ⟨h1, ?_⟩
    rcases h2 with ⟨k, e⟩ | ⟨tm', tmO', e, hp, h3, h4⟩
    · rw [e]; exact .err _ _
    · rw [e, hp.regK]; exact .go h3 h4
  | eff d k args =>
    unfold matS at h
    simp only at h
    split at h
    · rename_i rs i1 o l1 hm
      split at h
      · rename_i hc
        cases h
        simp only [Bool.and_eq_true] at hc
        have hg := gbeq_eq hc.1.1
        have he : sgK G cf call rnd (.eff d k args) F tm ds H rc = (match cevs G cf H.tab tm args with | some vs => effC call rnd d F tm ds H rc (effK G cf k vs H) | none => .err 201) := cevsK_eq G cf H.tab tm args _ _
        rw [he]
        cases hv : cevs G cf H.tab tm args with
        | none =>
          refine ⟨?_, .err _ _⟩
          have : ∀ (es : List CE) {i i' : Nat} {l l' : List Oper} {rs : List Root}, mats V es i l = some (rs, i', l') → ops.drop i = l → ops.drop i' = l' := by
            intro es
            induction es with
            | nil => intro i i' l l' rs h hd; cases h; exact hd
            | cons e es ih =>
              intro i i' l l' rs h hd
              unfold mats at h
              split at h
              · rename_i h1
                split at h
                · rename_i h2
                  cases h
                  exact ih h2 (mat_facts e h1 hd).dr
                · cases h
              · cases h
          exact (drop_cons (this args hm hd)).2
        | some vs =>
          obtain ⟨d2, le2, al2, tm2, e2, fr2, hr2⟩ := mats_ok (G := G) (cf := cf) (H := H) hs args hm hd hsub hv
          have hsub2 := hsub.keepA al2 fr2
          refine ⟨(drop_cons d2).2, ?_⟩
          rw [e2.regK, regK_cons, GdT.want (i := i1) (by rw [hg]; trivial), chkE_ok (cf := cf) hc.1.2 hr2]
          have put := fun v => putD_ok hc.2 hsub2 hk v
          show SegO G cf call rnd V ops F ds rc l' (effC call rnd d F tm ds H rc (effK G cf k vs H)) _
          cases effK G cf k vs H with
          | rd v =>
            obtain ⟨a, b, p1, p2, p3, p4, _⟩ := put v
            show SegO G cf call rnd V ops F ds rc l' (putD d tm v (fun tm => F tm ds H rc)) _
            rw [p1]; simp only [p2]; exact .go p3 p4
          | al ob mk =>
            obtain ⟨a, b, p1, p2, p3, p4, _⟩ := put (mk H.nx)
            show SegO G cf call rnd V ops F ds rc l' (P.nextK H.nx (fun nx' => PT.putK H.nx H.tab (some ob) (fun t' => putD d tm (mk H.nx) (fun tm => F tm ds ⟨nx', t'⟩ rc)))) _
            simp only [P.nextK_eq, PT.putK_eq, p1, p2]
            exact .go p3 p4
          | wv v H' =>
            obtain ⟨a, b, p1, p2, p3, p4, _⟩ := put v
            show SegO G cf call rnd V ops F ds rc l' (putD d tm v (fun tm => F tm ds H' rc)) _
            rw [p1]; simp only [p2]; exact .go p3 p4
          | wu H' =>
            obtain ⟨a, b, p1, p2, p3, p4, _⟩ := put (.tup [])
            show SegO G cf call rnd V ops F ds rc l' (putD d tm (.tup []) (fun tm => F tm ds H' rc)) _
            rw [p1]; simp only [p2]; exact .go p3 p4
          | call f xs =>
            show SegO G cf call rnd V ops F ds rc l' (endD d F tm ds rc (call f xs H)) _
            simp only
            cases call f xs H with
            | ret v H' =>
              obtain ⟨a, b, p1, p2, p3, p4, _⟩ := put v
              show SegO G cf call rnd V ops F ds rc l' (putD d tm v (fun tm => F tm ds H' rc)) _
              rw [p1]; simp only [p2]; exact .go p3 p4
            | pan v H' => exact .pan v hsub2 hk
            | err k => exact .err _ _
          | yield l xs =>
            show SegO G cf call rnd V ops F ds rc l' (endD d F tm ds rc (rnd l xs H)) _
            simp only
            cases rnd l xs H with
            | ret v H' =>
              obtain ⟨a, b, p1, p2, p3, p4, _⟩ := put v
              show SegO G cf call rnd V ops F ds rc l' (putD d tm v (fun tm => F tm ds H' rc)) _
              rw [p1]; simp only [p2]; exact .go p3 p4
            | pan v H' => exact .pan v hsub2 hk
            | err k => exact .err _ _
          | defer f a c => exact .err _ _
          | recover => exact .err _ _
          | pan v => exact .pan v hsub2 hk
          | sel v => exact .err _ _
          | err k => exact .err _ _
      · cases h
    · cases h
theorem sgs_ok (hs : SSA ops) {F : IH} : ∀ (ss : List Sg) {i i' : Nat} {l l' : List Oper} {tm tmO : PT AV} {H : Hp}, matSs G V ss i l = some (i', l') → ops.drop i = l → Sub V tm tmO → Keys V tm →
    ops.drop i' = l' ∧ SegO G cf call rnd V ops F ds rc l' (sgsK G cf call rnd ss F tm ds H rc) (regK G cf call rnd V.n ops l tmO ds H rc) := by
  intro ss
  induction ss with
  | nil =>
    intro i i' l l' tm tmO H h hd hsub hk
    cases h
    exact ⟨hd, .go hsub hk⟩
  | cons s ss ih =>
    intro i i' l l' tm tmO H h hd hsub hk
    unfold matSs at h
    split at h
    · rename_i i1 l1 h1
      obtain ⟨d1, o1⟩ := sg_ok (G := G) (cf := cf) (call := call) (rnd := rnd) (ds := ds) (H := H) (rc := rc) (F := sgsK G cf call rnd ss F) hs h1 hd hsub hk
      have fin := fun {tm tmO H} => ih (tm := tm) (tmO := tmO) (H := H) h d1
      change ops.drop i' = l' ∧ SegO G cf call rnd V ops F ds rc l' (sgK G cf call rnd s (sgsK G cf call rnd ss F) tm ds H rc) _
      generalize hX : sgK G cf call rnd s (sgsK G cf call rnd ss F) tm ds H rc = X at o1
      generalize hY : regK G cf call rnd V.n ops l tmO ds H rc = Y at o1
      have hdrop : ∀ (ss : List Sg) {i i' : Nat} {l l' : List Oper}, matSs G V ss i l = some (i', l') → ops.drop i = l → ops.drop i' = l' := fun ss => by
        induction ss with
        | nil => intro i i' l l' h hd; cases h; exact hd
        | cons s ss ih2 =>
          intro i i' l l' h hd
          unfold matSs at h
          split at h
          · rename_i h1
            exact ih2 h (sg_ok (G := G) (cf := cf) (call := call) (rnd := rnd) (ds := ds) (H := H) (rc := rc) (F := F) (tm := .e) (tmO := .e) hs h1 hd (fun _ _ _ e => by rw [PT.get_e] at e; cases e) (fun _ _ e => by rw [PT.get_e] at e; cases e)).1
          · cases h
      cases o1 with
      | err k => exact ⟨hdrop ss h d1, .err _ _⟩
      | pan v h k => exact ⟨hdrop ss ‹_› d1, .pan v h k⟩
      | go h2 k2 => exact fin h2 k2
    · cases h
/-! ### an order that is open: what writes, too -/
inductive WrT (G : Program) (cf : Cf) (call : CallF) (o : Oper) (tm : PT AV) (H : Hp) : AV → Hp → Prop
  | wv {v : AV} {H' : Hp} (h : opK G cf o (evO tm) H = .wv v H') : WrT G cf call o tm H v H'
  | wu {H' : Hp} (h : opK G cf o (evO tm) H = .wu H') : WrT G cf call o tm H (.tup []) H'
  | call {f : FuncId} {args : List AV} {v : AV} {H' : Hp} (h : opK G cf o (evO tm) H = .call f args) (hc : call f args H = .ret v H') : WrT G cf call o tm H v H'
inductive TRun (G : Program) (cf : Cf) (call : CallF) (n : Nat) (ops : List Oper) : List Oper → PT AV → Hp → List Oper → PT AV → Hp → Prop
  | refl (l : List Oper) (tm : PT AV) (H : Hp) : TRun G cf call n ops l tm H l tm H
  | rd {o : Oper} {l l' : List Oper} {tm tm1 tm' : PT AV} {H H' : Hp} {v : AV} (hw : wantO ops o tm = some true) (hop : opK G cf o (evO tm) H = .rd v) (hp : putF n o.dst tm v = some tm1) (h : TRun G cf call n ops l tm1 H l' tm' H') : TRun G cf call n ops (o :: l) tm H l' tm' H'
  | skip {o : Oper} {l l' : List Oper} {tm tm1 tm' : PT AV} {H H' : Hp} (hw : wantO ops o tm = some false) (hp : putF n o.dst tm (.tup []) = some tm1) (h : TRun G cf call n ops l tm1 H l' tm' H') : TRun G cf call n ops (o :: l) tm H l' tm' H'
  | wr {o : Oper} {l l' : List Oper} {tm tm1 tm' : PT AV} {H H1 H' : Hp} {v : AV} (hw : wantO ops o tm = some true) (hr : WrT G cf call o tm H v H1) (hp : putF n o.dst tm v = some tm1) (h : TRun G cf call n ops l tm1 H1 l' tm' H') : TRun G cf call n ops (o :: l) tm H l' tm' H'
theorem TRun.trans {n : Nat} {l l1 l2 : List Oper} {tm tm1 tm2 : PT AV} {H H1 H2 : Hp} (h : TRun G cf call n ops l tm H l1 tm1 H1) (k : TRun G cf call n ops l1 tm1 H1 l2 tm2 H2) : TRun G cf call n ops l tm H l2 tm2 H2 := by
  induction h with
  | refl => exact k
  | rd hw hop hp _ ih => exact .rd hw hop hp (ih k)
  | skip hw hp _ ih => exact .skip hw hp (ih k)
  | wr hw hr hp _ ih => exact .wr hw hr hp (ih k)
theorem PRun.trun {n : Nat} {l l' : List Oper} {tm tm' : PT AV} {H : Hp} (h : PRun G cf n ops H l tm l' tm') : TRun G cf call n ops l tm H l' tm' H := by
  induction h with
  | refl => exact .refl _ _ _
  | rd hw hop hd hn _ ih => exact .rd hw hop (by rw [hd]; simp only [putF, hn]) ih
  | skip hw hd hn _ ih => exact .skip hw (by rw [hd]; simp only [putF, hn]) ih
theorem se_ok (hs : SSA ops) {s : Sg} {F : IH} {i i' : Nat} {l l' : List Oper} {tm tmO : PT AV} (h : matS G V s i l = some (i', l')) (hd : ops.drop i = l) (hsub : Sub V tm tmO) (hk : Keys V tm) :
    (∃ k, seK G cf call s F tm ds H rc = .err k) ∨ ∃ tm' H' tmO', seK G cf call s F tm ds H rc = F tm' ds H' rc ∧ TRun G cf call V.n ops l tmO H l' tmO' H' ∧ Sub V tm' tmO' ∧ Keys V tm' := by
  cases s with
  | put t p e =>
    obtain ⟨_, h2⟩ := put_ok (G := G) (cf := cf) (call := call) (rnd := fun _ _ _ => .err 0) (ds := ds) (H := H) (rc := rc) (F := F) hs h hd hsub hk
    rcases h2 with ⟨k, e⟩ | ⟨tm', tmO', e, hp, h3, h4⟩
    · exact .inl ⟨k, e⟩
    · exact .inr ⟨tm', H, tmO', e, hp.trun, h3, h4⟩
  | eff d k args =>
    unfold matS at h
    simp only at h
    split at h
    · rename_i rs i1 o l1 hm
      split at h
      · rename_i hc
        cases h
        simp only [Bool.and_eq_true] at hc
        have hg := gbeq_eq hc.1.1
        have he : seK G cf call (.eff d k args) F tm ds H rc = (match cevs G cf H.tab tm args with | some vs => effE call d F tm ds H rc (effK G cf k vs H) | none => .err 201) := cevsK_eq G cf H.tab tm args _ _
        rw [he]
        cases hv : cevs G cf H.tab tm args with
        | none => exact .inl ⟨_, rfl⟩
        | some vs =>
          obtain ⟨d2, le2, al2, tm2, e2, fr2, hr2⟩ := mats_ok (G := G) (cf := cf) (H := H) hs args hm hd hsub hv
          have hsub2 := hsub.keepA al2 fr2
          have hw : wantO ops o tm2 = some true := GdT.want (i := i1) (by rw [hg]; trivial)
          have hop := chkE_ok (cf := cf) (H := H) hc.1.2 hr2
          have put := fun v => putD_ok hc.2 hsub2 hk v
          show (∃ q, effE call d F tm ds H rc (effK G cf k vs H) = .err q) ∨ ∃ tm' H' tmO', effE call d F tm ds H rc (effK G cf k vs H) = F tm' ds H' rc ∧ _
          cases hq : effK G cf k vs H with
          | rd v =>
            obtain ⟨a, b, p1, _, p3, p4, p5⟩ := put v
            exact .inr ⟨a, H, b, p1 (fun tm => F tm ds H rc), e2.trun.trans (.rd hw (hop.trans hq) p5 (.refl _ _ _)), p3, p4⟩
          | wv v H' =>
            obtain ⟨a, b, p1, _, p3, p4, p5⟩ := put v
            exact .inr ⟨a, H', b, p1 (fun tm => F tm ds H' rc), e2.trun.trans (.wr hw (.wv (hop.trans hq)) p5 (.refl _ _ _)), p3, p4⟩
          | wu H' =>
            obtain ⟨a, b, p1, _, p3, p4, p5⟩ := put (.tup [])
            exact .inr ⟨a, H', b, p1 (fun tm => F tm ds H' rc), e2.trun.trans (.wr hw (.wu (hop.trans hq)) p5 (.refl _ _ _)), p3, p4⟩
          | call f xs =>
            show (∃ q, endE d F tm ds rc (call f xs H) = .err q) ∨ ∃ tm' H' tmO', endE d F tm ds rc (call f xs H) = F tm' ds H' rc ∧ _
            cases hcl : call f xs H with
            | ret v H' =>
              obtain ⟨a, b, p1, _, p3, p4, p5⟩ := put v
              exact .inr ⟨a, H', b, p1 (fun tm => F tm ds H' rc), e2.trun.trans (.wr hw (.call (hop.trans hq) hcl) p5 (.refl _ _ _)), p3, p4⟩
            | pan v H' => exact .inl ⟨_, rfl⟩
            | err k => exact .inl ⟨_, rfl⟩
          | al ob mk => exact .inl ⟨_, rfl⟩
          | yield l xs => exact .inl ⟨_, rfl⟩
          | defer f a c => exact .inl ⟨_, rfl⟩
          | recover => exact .inl ⟨_, rfl⟩
          | pan v => exact .inl ⟨_, rfl⟩
          | sel v => exact .inl ⟨_, rfl⟩
          | err k => exact .inl ⟨_, rfl⟩
      · cases h
    · cases h
theorem ses_ok (hs : SSA ops) {F : IH} : ∀ (ss : List Sg) {i i' : Nat} {l l' : List Oper} {tm tmO : PT AV} {H : Hp}, matSs G V ss i l = some (i', l') → ops.drop i = l → Sub V tm tmO → Keys V tm →
    (∃ k, sesK G cf call ss F tm ds H rc = .err k) ∨ ∃ tm' H' tmO', sesK G cf call ss F tm ds H rc = F tm' ds H' rc ∧ TRun G cf call V.n ops l tmO H l' tmO' H' ∧ Sub V tm' tmO' ∧ Keys V tm' := by
  intro ss
  induction ss with
  | nil =>
    intro i i' l l' tm tmO H h hd hsub hk
    cases h
    exact .inr ⟨tm, H, tmO, rfl, .refl _ _ _, hsub, hk⟩
  | cons s ss ih =>
    intro i i' l l' tm tmO H h hd hsub hk
    unfold matSs at h
    split at h
    · rename_i i1 l1 h1
      have d1 := (sg_ok (G := G) (cf := cf) (call := call) (rnd := fun _ _ _ => .err 0) (ds := ds) (H := H) (rc := rc) (F := F) hs h1 hd hsub hk).1
      change (∃ k, seK G cf call s (sesK G cf call ss F) tm ds H rc = .err k) ∨ ∃ tm' H' tmO', seK G cf call s (sesK G cf call ss F) tm ds H rc = F tm' ds H' rc ∧ _
      rcases se_ok (G := G) (cf := cf) (call := call) (ds := ds) (H := H) (rc := rc) (F := sesK G cf call ss F) hs h1 hd hsub hk with ⟨k, e⟩ | ⟨tm1, H1, tmO1, e, r1, s1, k1⟩
      · exact .inl ⟨k, e⟩
      · rcases ih h d1 s1 k1 (H := H1) with ⟨k, e2⟩ | ⟨tm2, H2, tmO2, e2, r2, s2, k2⟩
        · exact .inl ⟨k, e.trans e2⟩
        · exact .inr ⟨tm2, H2, tmO2, e.trans e2, r1.trans r2, s2, k2⟩
    · cases h
end
end Go.Ai

/- An order that is open, in which what reads and what writes stands in an order: done in the row of its text. -/
namespace Go.Ai
open Go Go.RowKit
set_option linter.unusedVariables false
section
variable {G : Program} {cf : Cf} {call : CallF}
theorem mapO_congr {α β : Type} {f g : α → Option β} : ∀ {l : List α}, (∀ x ∈ l, f x = g x) → mapO f l = mapO g l
  | [], _ => rfl
  | x :: l, h => by
    show (Option.casesOn (f x) none (fun b => Option.casesOn (mapO f l) none (fun bs => some (b :: bs))) : Option (List β)) = (Option.casesOn (g x) none (fun b => Option.casesOn (mapO g l) none (fun bs => some (b :: bs))) : Option (List β))
    rw [h x (List.mem_cons_self ..), mapO_congr (fun y hy => h y (List.mem_cons_of_mem _ hy))]
theorem parts_congr {f g : Operand → Option AV} {l : List (Nat × Operand)} (h : ∀ x ∈ l.map (·.2), f x = g x) : partsO f l = partsO g l :=
  mapO_congr (fun p hp => by rw [h p.2 (List.mem_map_of_mem hp)])
theorem opK_congr {o : Oper} {f g : Operand → Option AV} {H : Hp} (h : ∀ x ∈ o.op.operands.toList, f x = g x) : opK G cf o f H = opK G cf o g H := by
  unfold opK
  cases ho : o.op <;> rw [ho] at h <;> (try simp only) <;> (try exact rfl)
  case move x => rw [h x (by simp [Op.operands])]
  case assign x => rw [h x (by simp [Op.operands])]
  case pick c a b => rw [h c (by simp [Op.operands]), h a (by simp [Op.operands]), h b (by simp [Op.operands])]
  case box t x => rw [h x (by simp [Op.operands])]
  case build t ps => rw [parts_congr (fun x hx => h x (by simpa [Op.operands] using hx))]
  case buildSlice t n ps => rw [parts_congr (fun x hx => h x (by simpa [Op.operands] using hx))]
  case load t a => rw [h a (by simp [Op.operands])]
  case store t a x => rw [h a (by simp [Op.operands]), h x (by simp [Op.operands])]
  case nilCheck x => rw [h x (by simp [Op.operands])]
  case binOp op t x y u => rw [h x (by simp [Op.operands]), h y (by simp [Op.operands])]
  case unOp op t x => rw [h x (by simp [Op.operands])]
  case convert s d x => rw [h x (by simp [Op.operands])]
  case makeInterface t x => rw [h x (by simp [Op.operands])]
  case makeFunc fn a b =>
    cases fn <;> try exact rfl
    case func f' =>
      simp only
      rw [mapO_congr (fun x hx => h x (by simp [Op.operands]; exact .inl (by simpa using hx))), mapO_congr (l := b.toList) (fun x hx => h x (by simp [Op.operands]; exact .inr (by simpa using hx)))]
  case makeSlice t l c => rw [h l (by simp [Op.operands]), h c (by simp [Op.operands])]
  case slice t x lo hi mx =>
    have hl : evOpt f lo = evOpt g lo := by
      cases lo with
      | none => rfl
      | some y => simp only [evOpt]; rw [h y (by cases hi <;> cases mx <;> simp [Op.operands])]
    have hh : evOpt f hi = evOpt g hi := by
      cases hi with
      | none => rfl
      | some y => simp only [evOpt]; rw [h y (by cases lo <;> cases mx <;> simp [Op.operands])]
    cases mx with
    | none => simp only; rw [h x (by cases lo <;> cases hi <;> simp [Op.operands]), hl, hh]
    | some m => simp only; rw [h x (by cases lo <;> cases hi <;> simp [Op.operands]), hl, hh, h m (by cases lo <;> cases hi <;> simp [Op.operands])]
  case fieldAddr s x i => rw [h x (by simp [Op.operands])]
  case field s x i => rw [h x (by simp [Op.operands])]
  case indexAddr t x i => rw [h x (by simp [Op.operands]), h i (by simp [Op.operands])]
  case index t x i => rw [h x (by simp [Op.operands]), h i (by simp [Op.operands])]
  case lookup t x k ok => rw [h x (by simp [Op.operands]), h k (by simp [Op.operands])]
  case mapUpdate t m k x => rw [h m (by simp [Op.operands]), h k (by simp [Op.operands]), h x (by simp [Op.operands])]
  case insert t m k x => rw [h m (by simp [Op.operands]), h k (by simp [Op.operands]), h x (by simp [Op.operands])]
  case range t x => rw [h x (by simp [Op.operands])]
  case next x b => rw [h x (by simp [Op.operands])]
  case entry x => rw [h x (by simp [Op.operands])]
  case typeAssert x a b ok => rw [h x (by simp [Op.operands])]
  case extract t i => rw [h t (by simp [Op.operands])]
  case panic x => rw [h x (by simp [Op.operands])]
  case makeChan t n => rw [h n (by simp [Op.operands])]
  case select cs bl =>
    cases bl with
    | true => rfl
    | false =>
      show selK G cs.toList f H = selK G cs.toList g H
      unfold selK
      cases hcs : cs.toList with
      | nil => rfl
      | cons s rest =>
        cases rest with
        | cons s2 rest => rfl
        | nil =>
          have hx := h s.chan (by
            have : cs = #[s] := by apply Array.ext'; simpa using hcs
            subst this
            simp [Op.operands])
          simp only [hx]
  case makeMap t r => cases r <;> rfl
  case call c =>
    unfold callK
    have ha : mapO f c.args.toList = mapO g c.args.toList := mapO_congr (fun x hx => h x (by simp [Op.operands, Call.operands]; exact .inr (by simpa using hx)))
    rw [ha]
    cases hc : c.callee with
    | value x =>
      have hx := h x (by simp [Op.operands, Call.operands, hc])
      simp only [hx]
    | _ => rfl
  case defer c =>
    have ha : mapO f c.args.toList = mapO g c.args.toList := mapO_congr (fun x hx => h x (by simp [Op.operands, Call.operands]; exact .inr (by simpa using hx)))
    rw [ha]
    cases mapO g c.args.toList with
    | none => rfl
    | some args =>
      cases hc : c.callee with
      | value x =>
        have hx := h x (by simp [Op.operands, Call.operands, hc])
        simp only [hx]
      | _ => rfl
theorem memN_of {t : Nat} : ∀ {l : List Nat}, t ∈ l → memN t l = true
  | a :: l, h => by
    show (match Nat.beq a t with | true => true | false => memN t l) = true
    split
    · rfl
    · rename_i e
      rcases List.mem_cons.1 h with h | h
      · subst h; rw [Nat.beq_refl] at e; cases e
      · exact memN_of h
theorem opTmps_of {t : Nat} : ∀ {l : List Operand}, Operand.tmp t ∈ l → t ∈ opTmps l
  | .tmp u :: l, h => by
    rcases List.mem_cons.1 h with h | h
    · cases h; exact List.mem_cons_self ..
    · exact List.mem_cons_of_mem _ (opTmps_of h)
  | .const v :: l, h => by
    rcases List.mem_cons.1 h with h | h
    · cases h
    · exact opTmps_of (l := l) h
  | .global v :: l, h => by
    rcases List.mem_cons.1 h with h | h
    · cases h
    · exact opTmps_of (l := l) h
  | .func v :: l, h => by
    rcases List.mem_cons.1 h with h | h
    · cases h
    · exact opTmps_of (l := l) h
theorem evR_on {tm : PT AV} {o : Oper} {x : Operand} (h : x ∈ o.op.operands.toList) : evR tm o x = evO tm x := by
  cases x with
  | tmp t =>
    show (match memN t (opTmps o.op.operands.toList) with | true => PT.get (P.of t) tm | false => none) = PT.get (P.of t) tm
    rw [memN_of (opTmps_of h)]
  | _ => rfl
theorem wr_kind {o : Oper} {tm : PT AV} {H H' : Hp} {v : AV} (h : WrT G cf call o tm H v H') : ¬ kindO o.op ≤ 1 := by
  intro hk
  rcases kind_rd (G := G) (cf := cf) (ev := evO tm) (H := H) hk with ⟨u, e⟩ | ⟨u, e⟩
  · cases h with
    | wv h => rw [e] at h; cases h
    | wu h => rw [e] at h; cases h
    | call h => rw [e] at h; cases h
  · cases h with
    | wv h => rw [e] at h; cases h
    | wu h => rw [e] at h; cases h
    | call h => rw [e] at h; cases h
variable {n : Nat} {ops : List Oper} {as : List Nat} {names : List P} {tm0 : PT AV} {H00 : Hp}
theorem traceK_cons2 {K : TrS → PT AV → Hp → Option AV → CR} {bad : Nat → CR} (o : Oper) (rest : List Oper) (i : Nat) (nm : List P) (tm : PT AV) (H : Hp) (rl : List TE) (hs : List Hp) (wl : List Nat) :
    traceK G cf call n ops as K bad (o :: rest) i nm tm H ⟨rl, hs, wl, []⟩ = (match wantF ops o tm with
      | none => bad 60
      | some false => putT n o.dst tm (.tup []) (fun r => match r with | some tm => traceK G cf call n ops as K bad rest (Nat.succ i) nm.tail tm H ⟨.skip :: rl, hs, wl, []⟩ | none => bad 61)
      | some true =>
        let wrote := fun (v : AV) (H' : Hp) => match chained (gD as i) wl with
          | true => putT n o.dst tm v (fun r => match r with | some tm => traceK G cf call n ops as K bad rest (Nat.succ i) nm.tail tm H' ⟨.wr v :: rl, H' :: hs, i :: wl, []⟩ | none => bad 61)
          | false => bad 70
        match opF G cf (evR tm o) ⟨H.nx, H.tab⟩ o with
        | .rd v => putT n o.dst tm v (fun r => match r with | some tm' => traceK G cf call n ops as K bad rest (Nat.succ i) nm.tail tm' H ⟨.rd tm v :: rl, hs, wl, []⟩ | none => bad 61)
        | .al ob mk => match isAl o.op, nm with
          | true, l :: _ => putT n o.dst tm (mk l) (fun r => match r with | some tm => traceK G cf call n ops as K bad rest (Nat.succ i) nm.tail tm H ⟨.al l ob (mk l) :: rl, hs, wl, [(i, l, ob)]⟩ | none => bad 61)
          | _, _ => bad 71
        | .wv v H' => wrote v H'
        | .wu H' => wrote (.tup []) H'
        | .call f args => match call f args ⟨H.nx, H.tab⟩ with
          | .ret v H' => wrote v H'
          | .pan v H' => match chained (gD as i) wl, allBehind as i rest (Nat.succ i) with
            | true, true => K ⟨rl, hs, wl, []⟩ tm H' (some v)
            | _, _ => bad 73
          | .err k => bad k
        | .err k => bad k
        | _ => bad 75) := rfl
theorem tr_len {q : Tq} (h : Tr G cf call n ops as names tm0 H00 q) : q.s.rl.length ≤ ops.length := by
  cases h with
  | nil => simp
  | cons h ho hs =>
    have := (List.getElem?_eq_some_iff.1 ho).1
    rw [hs.rl]; simp; omega
theorem trun_trace {K : TrS → PT AV → Hp → Option AV → CR} {bad : Nat → CR} (hord : ordB as ops 0 = true) {l l' : List Oper} {tm tm' : PT AV} {H H' : Hp} (h : TRun G cf call n ops l tm H l' tm' H') (hl : l' = []) : ∀ (rl : List TE) (hs : List Hp) (wl : List Nat), Tr G cf call n ops as names tm0 H00 ⟨⟨rl, hs, wl, []⟩, tm, H⟩ → ops.drop rl.length = l →
    ∃ s', s'.xs = [] ∧ ∀ nm, traceK G cf call n ops as K bad l rl.length nm tm H ⟨rl, hs, wl, []⟩ = K s' tm' H' none := by
  have at_ : ∀ {rl : List TE} {o : Oper} {l : List Oper}, ops.drop rl.length = o :: l → ops[rl.length]? = some o ∧ ops.drop (rl.length + 1) = l := fun h => drop_cons h
  induction h with
  | refl l tm H =>
    intro rl hs wl ht hd
    subst hl
    exact ⟨⟨rl, hs, wl, []⟩, rfl, fun nm => rfl⟩
  | rd hw hop hp _ ih =>
    rename_i o l l' tm tm1 tm' H H' v _
    intro rl hs wl ht hd
    obtain ⟨ho, hd'⟩ := at_ hd
    have hop' : opK G cf o (evR tm o) ⟨H.nx, H.tab⟩ = .rd v := (opK_congr (fun x hx => evR_on hx)).trans hop
    obtain ⟨s', h1, h2⟩ := ih hl (.rd tm v :: rl) hs wl (.cons ht ho (.rd (q := ⟨⟨rl, hs, wl, []⟩, tm, H⟩) hw hop' hp)) hd'
    refine ⟨s', h1, fun nm => ?_⟩
    rw [traceK_cons2, wantF_eq, hw]
    have hop2 : opF G cf (evR tm o) ⟨H.nx, H.tab⟩ o = .rd v := (opF_eq _ _ _ _ _).trans hop'
    simp only [hop2]
    rw [putT_eq, hp]
    exact h2 nm.tail
  | skip hw hp _ ih =>
    rename_i o l l' tm tm1 tm' H H' _
    intro rl hs wl ht hd
    obtain ⟨ho, hd'⟩ := at_ hd
    obtain ⟨s', h1, h2⟩ := ih hl (.skip :: rl) hs wl (.cons ht ho (.skip (q := ⟨⟨rl, hs, wl, []⟩, tm, H⟩) hw hp)) hd'
    refine ⟨s', h1, fun nm => ?_⟩
    rw [traceK_cons2, wantF_eq, hw]
    simp only
    rw [putT_eq, hp]
    exact h2 nm.tail
  | wr hw hr hp _ ih =>
    rename_i o l l' tm tm1 tm' H H1 H' v _
    intro rl hs wl ht hd
    obtain ⟨ho, hd'⟩ := at_ hd
    have hk := wr_kind hr
    have hk2 := (ordB_ok hord).1 _ _ ho
    have hc : chained (gD as rl.length) wl = true := by
      cases hwl : wl with
      | nil => rfl
      | cons x xs =>
        obtain ⟨a, o2, b, c⟩ := wl_kind ht hord x (by rw [hwl]; exact List.mem_cons_self)
        exact ord_bit hord a b ho (by omega) (by omega) (.inl c)
    have cong : opK G cf o (evR tm o) ⟨H.nx, H.tab⟩ = opK G cf o (evO tm) H := opK_congr (fun x hx => evR_on hx)
    have hrs : WrS G cf call o (evR tm o) ⟨H.nx, H.tab⟩ v H1 := by
      cases hr with
      | wv h => exact .wv (cong.trans h)
      | wu h => exact .wu (cong.trans h)
      | call h hcl => exact .call (cong.trans h) hcl
    obtain ⟨s', h1, h2⟩ := ih hl (.wr v :: rl) (H1 :: hs) (rl.length :: wl) (.cons ht ho (.wr (q := ⟨⟨rl, hs, wl, []⟩, tm, H⟩) hw hc hrs hp)) hd'
    refine ⟨s', h1, fun nm => ?_⟩
    rw [traceK_cons2, wantF_eq, hw]
    cases hr with
    | wv h =>
      have hop2 : opF G cf (evR tm o) ⟨H.nx, H.tab⟩ o = .wv v H1 := (opF_eq _ _ _ _ _).trans (cong.trans h)
      simp only [hop2, hc]
      rw [putT_eq, hp]
      exact h2 nm.tail
    | wu h =>
      have hop2 : opF G cf (evR tm o) ⟨H.nx, H.tab⟩ o = .wu H1 := (opF_eq _ _ _ _ _).trans (cong.trans h)
      simp only [hop2, hc]
      rw [putT_eq, hp]
      exact h2 nm.tail
    | call h hcl =>
      rename_i f args
      have hop2 : opF G cf (evR tm o) ⟨H.nx, H.tab⟩ o = .call f args := (opF_eq _ _ _ _ _).trans (cong.trans h)
      have hcl2 : call f args ⟨H.nx, H.tab⟩ = .ret v H1 := hcl
      simp only [hop2, hcl2, hc]
      rw [putT_eq, hp]
      exact h2 nm.tail
theorem draw_ord {tm tm' : PT AV} {ds : List AD} {H H' : Hp} {rc : RC} (hord : ordB as ops 0 = true) (h : TRun G cf call n ops ops tm ⟨nxF ops H.nx, H.tab⟩ [] tm' H') : drawK G cf call n ops as tm ds H rc = .ok .normal tm' ds H' rc := by
  unfold drawK
  rw [resvK_eq]
  obtain ⟨s', h1, h2⟩ := trun_trace (as := as) (names := namesF ops H.nx) (tm0 := tm) (H00 := ⟨nxF ops H.nx, H.tab⟩) (bad := fun k => .err k) (K := fun s tm1 H pan => match okT (ordB as ops 0) (tesOk G cf ops as s.xs (snaps s.wl s.hs none) s.rl) with
    | false => .err 77
    | true => match pan with
      | none => layAll as s.wl s.xs H.tab (fun t => .ok .normal tm1 ds ⟨H.nx, t⟩ rc)
      | some v => eraseD ops tm (fun tm => .ok (.pan v) tm ds H rc)) hord h rfl [] [⟨nxF ops H.nx, H.tab⟩] [] .nil rfl
  refine (h2 (namesF ops H.nx)).trans ?_
  simp only [hord, okT_left, h1]
  rfl
end
end Go.Ai

/- Compiled code: defined; it is what the code is. -/
namespace Go.Ai
open Go Go.RowKit
set_option linter.unusedVariables false
inductive CC where
  | skip
  | reg (ss : List Sg)
  | seq (a b : CC)
  | cond (e : CE) (a b : CC)
  | condR (ss : List Sg) (e : CE) (a b : CC)
  | block (id : Nat) (c : CC)
  | loop (c : CC)
  | exit (id : Nat)
  | ret
  | old
  | oldD (as : List Nat)
  | regD (m : Nat) (ss : List Sg)
  | condD (m : Nat) (ss : List Sg) (e : CE) (a b : CC)
  | regE (m : Nat) (ss : List Sg)
def fstC (c : Code) : Code := match c with | .seq a _ => a | _ => .skip
def sndC (c : Code) : Code := match c with | .seq _ b => b | _ => .skip
def thnC (c : Code) : Code := match c with | .cond _ a _ => a | _ => .skip
def elsC (c : Code) : Code := match c with | .cond _ _ b => b | _ => .skip
def subC (c : Code) : Code := match c with | .block _ c => c | .loop c => c | _ => .skip
noncomputable def condV (a b : CR) (v : AV) : CR := match v with
  | .bool r => Bool.rec b a r
  | _ => .err 81
noncomputable def loopC (F : IH) (fuel : Nat) : IH := Nat.rec (fun _ _ _ _ => .err 80) (fun _ ih tm ds H rc => thenN ih (F tm ds H rc)) fuel
section
variable (G : Program) (cf : Cf) (call : CallF) (rnd : RndF)
noncomputable def oldR (n : Nat) (c : Code) (tm : PT AV) (ds : List AD) (H : Hp) (rc : RC) : CR := match c with
  | .region _ ops draw => regionK G cf call rnd n ops.toList draw tm ds H rc
  | _ => .err 205
noncomputable def oldDR (n : Nat) (as : List Nat) (c : Code) (tm : PT AV) (ds : List AD) (H : Hp) (rc : RC) : CR := match c with
  | .region _ ops _ => drawK G cf call n ops.toList as tm ds H rc
  | _ => .err 206
noncomputable def nxK {R : Type} (m : Nat) (K : P → R) : P → R := Nat.rec K (fun _ ih p => P.nextK p ih) m
noncomputable def bump (m : Nat) (F : IH) (tm : PT AV) (ds : List AD) (H : Hp) (rc : RC) : CR := nxK m (fun nx => F tm ds ⟨nx, H.tab⟩ rc) H.nx
/-- an order that is open, in which a call throws: done as the row of the text has it -/
noncomputable def fbE (r s : CR) : CR := match r with
  | .err k => match Nat.beq k 211 with
    | true => (match s with
      | .ok (.pan v) tm ds H rc => .ok (.pan v) tm ds H rc
      | _ => .err 211)
    | false => .err k
  | r => r
noncomputable def mSeq (iha ihb : Code → IH) (c : Code) (tm : PT AV) (ds : List AD) (H : Hp) (rc : RC) : CR := thenN (ihb (sndC c)) (iha (fstC c) tm ds H rc)
noncomputable def mCond (e : CE) (iha ihb : Code → IH) (c : Code) (tm : PT AV) (ds : List AD) (H : Hp) (rc : RC) : CR := cevK G cf (.err 204) H.tab tm e (condV (iha (thnC c) tm ds H rc) (ihb (elsC c) tm ds H rc))
noncomputable def mReg (ss : List Sg) : IH := sgsK G cf call rnd ss (fun tm ds H rc => .ok .normal tm ds H rc)
noncomputable def mCondR (ss : List Sg) (e : CE) (iha ihb : Code → IH) (c : Code) : IH := sgsK G cf call rnd ss (mCond G cf e iha ihb (sndC c))
noncomputable def mBlock (id : Nat) (ih : Code → IH) (c : Code) (tm : PT AV) (ds : List AD) (H : Hp) (rc : RC) : CR := blockN id (ih (subC c) tm ds H rc)
noncomputable def codeC (n fuel : Nat) (cc : CC) : Code → IH :=
  CC.rec (motive := fun _ => Code → IH) (fun _ tm ds H rc => .ok .normal tm ds H rc) (fun ss _ => mReg G cf call rnd ss) (fun _ _ iha ihb => mSeq iha ihb) (fun e _ _ iha ihb => mCond G cf e iha ihb) (fun ss e _ _ iha ihb => mCondR G cf call rnd ss e iha ihb)
    (fun id _ ih => mBlock id ih) (fun _ ih c => loopC (ih (subC c)) fuel) (fun id _ tm ds H rc => .ok (.exit id) tm ds H rc) (fun _ tm ds H rc => .ok .ret tm ds H rc) (oldR G cf call rnd n)
    (fun as => oldDR G cf call n as) (fun m ss _ => bump m (mReg G cf call rnd ss)) (fun m ss e _ _ iha ihb c => bump m (mCondR G cf call rnd ss e iha ihb c)) (fun m ss c tm ds H rc => fbE (bump m (sesK G cf call ss (fun tm ds H rc => .ok .normal tm ds H rc)) tm ds H rc) (oldR G cf call rnd n c tm ds H rc)) cc
end
/-! ### the check -/
def memB (t : Nat) (l : List Nat) : Bool := match l with
  | [] => false
  | u :: l => Nat.beq t u || memB t l
def ssaF (l : List Oper) (seen : List Nat) : Bool := match l with
  | [] => true
  | o :: l => match o.dst with
    | none => ssaF l seen
    | some t => !memB t seen && ssaF l (t :: seen)
def isPuts (ss : List Sg) : Bool := match ss with
  | [] => true
  | .put _ _ _ :: ss => isPuts ss
  | _ => false
def keptAll (V : Kp) (ops : List Oper) : Bool := ops.all (fun o => match o.dst with | some t => V.has t | none => true)
noncomputable def chkC (G : Program) (V : Kp) (cc : CC) (c : Code) : Bool := match cc, c with
  | .skip, .skip => true
  | .reg ss, .region _ ops draw => !draw && ssaF ops.toList [] && (match matSs G V ss 0 ops.toList with | some (_, []) => true | _ => false)
  | .seq a b, .seq x y => chkC G V a x && chkC G V b y
  | .cond e a b, .cond c x y => (match mat V e false none 0 [] with | some (r, _, []) => r.is c | _ => false) && (chkC G V a x && chkC G V b y)
  | .condR ss e a b, .seq (.region _ ops draw) (.cond c x y) => !draw && ssaF ops.toList [] && (match matSs G V ss 0 ops.toList with
    | some (i, l) => (match mat V e false none i l with | some (r, _, []) => r.is c | _ => false)
    | none => false) && (chkC G V a x && chkC G V b y)
  | .block id c, .block id' x => Nat.beq id id' && chkC G V c x
  | .loop c, .loop x => chkC G V c x
  | .exit id, .exit id' => Nat.beq id id'
  | .ret, .ret => true
  | .old, .region _ ops _ => keptAll V ops.toList
  | .oldD as, .region _ ops draw => draw && natsBeq as (ancs ops.toList []) && regStatic ops.toList (ancs ops.toList []) && keptAll V ops.toList
  | .regD m ss, .region _ ops draw => draw && Nat.beq m ops.toList.length && isPuts ss && regStatic ops.toList (ancs ops.toList []) && ssaF ops.toList [] && (match matSs G V ss 0 ops.toList with | some (_, []) => true | _ => false)
  | .regE m ss, .region _ ops draw => draw && Nat.beq m ops.toList.length && ordB (ancs ops.toList []) ops.toList 0 && regStatic ops.toList (ancs ops.toList []) && ssaF ops.toList [] && (match matSs G V ss 0 ops.toList with | some (_, []) => true | _ => false)
  | .condD m ss e a b, .seq (.region _ ops draw) (.cond c x y) => draw && Nat.beq m ops.toList.length && isPuts ss && regStatic ops.toList (ancs ops.toList []) && ssaF ops.toList [] && (match matSs G V ss 0 ops.toList with
    | some (i, l) => (match mat V e false none i l with | some (r, _, []) => r.is c | _ => false)
    | none => false) && (chkC G V a x && chkC G V b y)
  | _, _ => false
section
variable {G : Program} {W0 : World} {cf : Cf} {V : Kp} {call : CallF} {rnd : RndF}
theorem memB_iff {t : Nat} : ∀ {l : List Nat}, memB t l = true ↔ t ∈ l
  | [] => by simp [memB]
  | u :: l => by
    simp only [memB, Bool.or_eq_true, List.mem_cons, memB_iff (l := l)]
    constructor
    · rintro (h | h)
      · exact .inl (Nat.eq_of_beq_eq_true h)
      · exact .inr h
    · rintro (h | h)
      · exact .inl (by subst h; exact Nat.beq_refl _)
      · exact .inr h
theorem ssaF_ok : ∀ {l : List Oper} {seen : List Nat}, ssaF l seen = true → (∀ j t, dstAt l j = some t → t ∉ seen) ∧ SSA l
  | [], seen, _ => ⟨fun j t h => by simp [dstAt] at h, fun j j' t h => by simp [dstAt] at h⟩
  | o :: l, seen, h => by
    unfold ssaF at h
    have d0 : dstAt (o :: l) 0 = o.dst := by simp [dstAt]
    have ds : ∀ j, dstAt (o :: l) (j + 1) = dstAt l j := fun j => by simp [dstAt]
    split at h
    · rename_i hd
      obtain ⟨h1, h2⟩ := ssaF_ok h
      refine ⟨fun j t e => ?_, fun j j' t e e' => ?_⟩
      · cases j with
        | zero => rw [d0, hd] at e; cases e
        | succ j => rw [ds] at e; exact h1 j t e
      · cases j with
        | zero => rw [d0, hd] at e; cases e
        | succ j => cases j' with
          | zero => rw [d0, hd] at e'; cases e'
          | succ j' => rw [ds] at e e'; rw [h2 j j' t e e']
    · rename_i u hd
      simp only [Bool.and_eq_true, Bool.not_eq_true'] at h
      obtain ⟨h1, h2⟩ := ssaF_ok h.2
      have hu : u ∉ seen := fun hm => by rw [memB_iff.2 hm] at h; exact absurd h.1 (by simp)
      refine ⟨fun j t e => ?_, fun j j' t e e' => ?_⟩
      · cases j with
        | zero => rw [d0, hd] at e; cases e; exact hu
        | succ j => rw [ds] at e; exact fun hm => h1 j t e (List.mem_cons_of_mem _ hm)
      · cases j with
        | zero => cases j' with
          | zero => rfl
          | succ j' =>
            rw [d0, hd] at e; cases e
            rw [ds] at e'
            exact absurd (List.mem_cons_self ..) (h1 j' _ e')
        | succ j => cases j' with
          | zero =>
            rw [d0, hd] at e'; cases e'
            rw [ds] at e
            exact absurd (List.mem_cons_self ..) (h1 j _ e)
          | succ j' => rw [ds] at e e'; rw [h2 j j' t e e']
theorem nxK_eq {R : Type} (K : P → R) : ∀ (ops : List Oper) (p : P), nxK ops.length K p = K (nxF ops p)
  | [], p => rfl
  | o :: ops, p => by
    show P.nextK p (nxK ops.length K) = K (nxF ops (P.next p))
    rw [P.nextK_eq, nxK_eq K ops]
/-! ### an order that is open: nothing but readings -/
def RdOnly (rl : List TE) : Prop := ∀ te ∈ rl, te = .skip ∨ ∃ tm v, te = .rd tm v
theorem traceK_cons {K : TrS → PT AV → Hp → Option AV → CR} {bad : Nat → CR} {n : Nat} {ops : List Oper} {as : List Nat} (o : Oper) (rest : List Oper) (i : Nat) (names : List P) (tm : PT AV) (H : Hp) (rl : List TE) (hs : List Hp) :
    traceK G cf call n ops as K bad (o :: rest) i names tm H ⟨rl, hs, [], []⟩ = (match wantF ops o tm with
      | none => bad 60
      | some false => putT n o.dst tm (.tup []) (fun r => match r with | some tm => traceK G cf call n ops as K bad rest (Nat.succ i) names.tail tm H ⟨.skip :: rl, hs, [], []⟩ | none => bad 61)
      | some true =>
        let wrote := fun (v : AV) (H' : Hp) => match chained (gD as i) [] with
          | true => putT n o.dst tm v (fun r => match r with | some tm => traceK G cf call n ops as K bad rest (Nat.succ i) names.tail tm H' ⟨.wr v :: rl, H' :: hs, [i], []⟩ | none => bad 61)
          | false => bad 70
        match opF G cf (evR tm o) ⟨H.nx, H.tab⟩ o with
        | .rd v => putT n o.dst tm v (fun r => match r with | some tm' => traceK G cf call n ops as K bad rest (Nat.succ i) names.tail tm' H ⟨.rd tm v :: rl, hs, [], []⟩ | none => bad 61)
        | .al ob mk => match isAl o.op, names with
          | true, l :: _ => putT n o.dst tm (mk l) (fun r => match r with | some tm => traceK G cf call n ops as K bad rest (Nat.succ i) names.tail tm H ⟨.al l ob (mk l) :: rl, hs, [], [(i, l, ob)]⟩ | none => bad 61)
          | _, _ => bad 71
        | .wv v H' => wrote v H'
        | .wu H' => wrote (.tup []) H'
        | .call f args => match call f args ⟨H.nx, H.tab⟩ with
          | .ret v H' => wrote v H'
          | .pan v H' => match chained (gD as i) [], allBehind as i rest (Nat.succ i) with
            | true, true => K ⟨rl, hs, [], []⟩ tm H' (some v)
            | _, _ => bad 73
          | .err k => bad k
        | .err k => bad k
        | _ => bad 75) := rfl
theorem prun_trace {K : TrS → PT AV → Hp → Option AV → CR} {bad : Nat → CR} {n : Nat} {ops : List Oper} {as : List Nat} {H : Hp} {hs : List Hp} {l l' : List Oper} {tm tm' : PT AV} (h : PRun G cf n ops H l tm l' tm') (hl : l' = []) : ∀ (i : Nat) (names : List P) (rl : List TE), RdOnly rl →
    ∃ rl', RdOnly rl' ∧ rl'.length = rl.length + l.length ∧ traceK G cf call n ops as K bad l i names tm H ⟨rl, hs, [], []⟩ = K ⟨rl', hs, [], []⟩ tm' H none := by
  induction h with
  | refl l tm =>
    intro i names rl hr
    subst hl
    exact ⟨rl, hr, rfl, rfl⟩
  | rd hw hop hd hn _ ih =>
    rename_i o l l' tm tm' v t _
    intro i names rl hr
    have hop' : opK G cf o (evR tm o) H = .rd v := (opK_congr (fun x hx => evR_on hx)).trans hop
    obtain ⟨rl', h1, h2, h3⟩ := ih hl (Nat.succ i) names.tail (.rd tm v :: rl) (fun te ht => by
      rcases List.mem_cons.1 ht with rfl | ht
      · exact .inr ⟨_, _, rfl⟩
      · exact hr te ht)
    refine ⟨rl', h1, by simp only [List.length_cons] at h2 ⊢; omega, ?_⟩
    rw [← h3]
    rw [traceK_cons, wantF_eq, hw]
    have hop2 : opF G cf (evR tm o) ⟨H.nx, H.tab⟩ o = .rd v := (opF_eq _ _ _ _ _).trans hop'
    simp only [hop2, hd]
    rw [putT_lt hn]
  | skip hw hd hn _ ih =>
    rename_i o l l' tm tm' t _
    intro i names rl hr
    obtain ⟨rl', h1, h2, h3⟩ := ih hl (Nat.succ i) names.tail (.skip :: rl) (fun te ht => by
      rcases List.mem_cons.1 ht with rfl | ht
      · exact .inl rfl
      · exact hr te ht)
    refine ⟨rl', h1, by simp only [List.length_cons] at h2 ⊢; omega, ?_⟩
    rw [← h3]
    rw [traceK_cons, wantF_eq, hw]
    simp only [hd]
    rw [putT_lt hn]
theorem tesOk_rd {ops : List Oper} {as : List Nat} {s : Sn} : ∀ {rl : List TE}, RdOnly rl → rl.length ≤ ops.length → tesOk G cf ops as [] [s] rl = true
  | [], _, _ => rfl
  | te :: rl, hr, hl => by
    have ih := tesOk_rd (s := s) (as := as) (fun te ht => hr te (List.mem_cons_of_mem _ ht)) (by simp at hl; omega) (rl := rl) (ops := ops)
    show (match nthL ops (lenL rl) with
      | some o => (match teOk G cf as [] [s] (lenL rl) o te with
        | true => tesOk G cf ops as [] [s] rl
        | false => false)
      | none => false) = true
    have : ∃ o, nthL ops (lenL rl) = some o := by
      rw [nthL_eq, lenL_eq]
      exact ⟨_, List.getElem?_eq_getElem (by simp at hl; omega)⟩
    obtain ⟨o, ho⟩ := this
    rw [ho]
    have hte : teOk G cf as [] [s] (lenL rl) o te = true := by
      rcases hr te (List.mem_cons_self ..) with rfl | ⟨tm, v, rfl⟩ <;> rfl
    simp only [hte, ih]
theorem prun_draw {n : Nat} {ops : List Oper} {as : List Nat} {tm tm' : PT AV} {ds : List AD} {H : Hp} {rc : RC} (h : PRun G cf n ops ⟨nxF ops H.nx, H.tab⟩ ops tm [] tm') : drawK G cf call n ops as tm ds H rc = .ok .normal tm' ds ⟨nxF ops H.nx, H.tab⟩ rc := by
  unfold drawK
  rw [resvK_eq]
  obtain ⟨rl', h1, h2, h3⟩ := prun_trace (call := call) (as := as) (hs := [⟨nxF ops H.nx, H.tab⟩]) (bad := fun k => .err k) (K := fun s tm H pan => match okT (ordB as ops 0) (tesOk G cf ops as s.xs (snaps s.wl s.hs none) s.rl) with
    | false => .err 77
    | true => match pan with
      | none => layAll as s.wl s.xs H.tab (fun t => .ok .normal tm ds ⟨H.nx, t⟩ rc)
      | some v => eraseD ops tm (fun tm => .ok (.pan v) tm ds H rc)) h rfl 0 (namesF ops H.nx) [] (fun te ht => by cases ht)
  have ht : tesOk G cf ops as [] [⟨⟨nxF ops H.nx, H.tab⟩, [], none⟩] rl' = true := tesOk_rd h1 (by simp at h2; omega)
  obtain ⟨rl2, g1, g2, g3⟩ := prun_trace (call := call) (as := as) (hs := [⟨nxF ops H.nx, H.tab⟩]) (bad := fun k => .err k) (K := fun s tm1 H pan => match okT (ordB as ops 0) (tesOk G cf ops as s.xs (snaps s.wl s.hs none) s.rl) with
    | false => .err 77
    | true => match pan with
      | none => layAll as s.wl s.xs H.tab (fun t => .ok .normal tm1 ds ⟨H.nx, t⟩ rc)
      | some v => eraseD ops tm (fun tm => .ok (.pan v) tm ds H rc)) h rfl 0 (namesF ops H.nx) [] (fun te ht => by cases ht)
  have gt : tesOk G cf ops as [] [⟨⟨nxF ops H.nx, H.tab⟩, [], none⟩] rl2 = true := tesOk_rd g1 (by simp at g2; omega)
  refine g3.trans ?_
  show (match okT (ordB as ops 0) (tesOk G cf ops as [] [⟨⟨nxF ops H.nx, H.tab⟩, [], none⟩] rl2) with
    | false => CR.err 77
    | true => layAll as [] [] H.tab (fun t => .ok .normal tm' ds ⟨nxF ops H.nx, t⟩ rc)) = _
  rw [gt, okT_right]
  rfl
theorem puts_ok {ops : List Oper} (hs : SSA ops) {F : IH} {ds : List AD} {H : Hp} {rc : RC} : ∀ (ss : List Sg) {i i' : Nat} {l l' : List Oper} {tm tmO : PT AV}, isPuts ss = true → matSs G V ss i l = some (i', l') → ops.drop i = l → Sub V tm tmO → Keys V tm →
    ops.drop i' = l' ∧ ((∃ k, sgsK G cf call rnd ss F tm ds H rc = .err k) ∨ ∃ tm' tmO', sgsK G cf call rnd ss F tm ds H rc = F tm' ds H rc ∧ PRun G cf V.n ops H l tmO l' tmO' ∧ Sub V tm' tmO' ∧ Keys V tm') := by
  intro ss
  induction ss with
  | nil =>
    intro i i' l l' tm tmO _ h hd hsub hk
    cases h
    exact ⟨hd, .inr ⟨tm, tmO, rfl, .refl _ _, hsub, hk⟩⟩
  | cons s ss ih =>
    intro i i' l l' tm tmO hp h hd hsub hk
    cases s with
    | eff d k a => cases hp
    | put t p e =>
      unfold matSs at h
      split at h
      · rename_i i1 l1 h1
        obtain ⟨d1, o1⟩ := put_ok (G := G) (cf := cf) (call := call) (rnd := rnd) (ds := ds) (H := H) (rc := rc) (F := sgsK G cf call rnd ss F) hs h1 hd hsub hk
        change ops.drop i' = l' ∧ ((∃ k, sgK G cf call rnd (.put t p e) (sgsK G cf call rnd ss F) tm ds H rc = .err k) ∨ ∃ tm' tmO', sgK G cf call rnd (.put t p e) (sgsK G cf call rnd ss F) tm ds H rc = F tm' ds H rc ∧ _)
        rcases o1 with ⟨k, e1⟩ | ⟨tm1, tmO1, e1, p1, s1, k1⟩
        · have := (ih (tm := .e) (tmO := .e) hp h d1 (fun _ _ _ e => by rw [PT.get_e] at e; cases e) (fun _ _ e => by rw [PT.get_e] at e; cases e)).1
          exact ⟨this, .inl ⟨k, e1⟩⟩
        · obtain ⟨d2, o2⟩ := ih hp h d1 s1 k1
          refine ⟨d2, ?_⟩
          rcases o2 with ⟨k, e2⟩ | ⟨tm2, tmO2, e2, p2, s2, k2⟩
          · exact .inl ⟨k, e1.trans e2⟩
          · exact .inr ⟨tm2, tmO2, e1.trans e2, p1.trans p2, s2, k2⟩
      · cases h
theorem Sub.refl (tm : PT AV) : Sub V tm tm := fun _ _ _ h => h
theorem St.sub {n : Nat} {b : Frame} {tm tmO : PT AV} {ds : List AD} {H : Hp} {rc : RC} {E : Env} {w : World} {arr : Array Value} {dv : List Deferred} {cs : List Frame} (h : St G W0 n b tmO ds H rc E w arr dv cs) (hs : Sub V tm tmO) (hk : Keys V tm) : St G W0 n b tm ds H rc E w arr dv cs :=
  ⟨h.hr, h.sz, fun i v e => h.tr i v (hs i v (by have := hk _ _ e; rwa [P.toNat_of] at this) e), h.ds, h.rc⟩
theorem putF_keys {n : Nat} {d : Option Nat} {tm tm' : PT AV} {v : AV} (h : putF n d tm v = some tm') (hk : Keys V tm) (hd : ∀ t, d = some t → V.has t = true) : Keys V tm' := by
  unfold putF at h
  cases d with
  | none => cases h; exact hk
  | some t =>
    simp only at h
    split at h
    · cases h; exact hk.put (by rw [P.toNat_of]; exact hd t rfl) v
    · cases h
theorem putT_keys {n : Nat} {d : Option Nat} {tm : PT AV} {v : AV} {F : PT AV → CR} {ex : Ex} {tm' : PT AV} {ds' : List AD} {H' : Hp} {rc' : RC} (hk : Keys V tm) (hd : ∀ t, d = some t → V.has t = true) (hF : ∀ tm1, Keys V tm1 → F tm1 = .ok ex tm' ds' H' rc' → Keys V tm')
    (h : putT n d tm v (fun r => match r with | some tm => F tm | none => .err 61) = .ok ex tm' ds' H' rc') : Keys V tm' := by
  rw [putT_eq] at h
  cases hp : putF n d tm v with
  | none => rw [hp] at h; cases h
  | some tm1 => rw [hp] at h; exact hF tm1 (putF_keys hp hk hd) h
theorem regK_keys {n : Nat} {ops : List Oper} : ∀ (rest : List Oper) {tm : PT AV} {ds : List AD} {H : Hp} {rc : RC} {ex : Ex} {tm' : PT AV} {ds' : List AD} {H' : Hp} {rc' : RC}, (∀ o ∈ rest, ∀ t, o.dst = some t → V.has t = true) → Keys V tm → regK G cf call rnd n ops rest tm ds H rc = .ok ex tm' ds' H' rc' → Keys V tm' := by
  intro rest
  induction rest with
  | nil => intro tm ds H rc ex tm' ds' H' rc' _ hk h; cases h; exact hk
  | cons o rest ih =>
    intro tm ds H rc ex tm' ds' H' rc' hd hk h
    have hd' : ∀ o ∈ rest, ∀ t, o.dst = some t → V.has t = true := fun o ho => hd o (List.mem_cons_of_mem _ ho)
    have ho := hd o (List.mem_cons_self ..)
    have step : ∀ {ds1 H1 rc1} {v : AV}, putT n o.dst tm v (fun r => match r with | some tm => regK G cf call rnd n ops rest tm ds1 H1 rc1 | none => .err 61) = .ok ex tm' ds' H' rc' → Keys V tm' :=
      fun h => putT_keys hk ho (fun tm1 k1 e => ih hd' k1 e) h
    rw [regK_cons] at h
    split at h
    · cases h
    · exact step h
    · split at h
      · exact step h
      · rw [P.nextK_eq, PT.putK_eq] at h; exact step h
      · exact step h
      · exact step h
      · split at h
        · exact step h
        · cases h; exact hk
        · cases h
      · split at h
        · cases h
        · exact step h
      · split at h
        · cases h
        · exact step h
        · exact step h
      · cases h; exact hk
      · exact step h
      · split at h
        · exact step h
        · cases h; exact hk
        · cases h
      · cases h
theorem drawK_keys {n : Nat} {ops : List Oper} {as : List Nat} {tm : PT AV} {ds : List AD} {H : Hp} {rc : RC} {ex : Ex} {tm' : PT AV} {ds' : List AD} {H' : Hp} {rc' : RC} (hd : ∀ o ∈ ops, ∀ t, o.dst = some t → V.has t = true) (hk : Keys V tm)
    (h : drawK G cf call n ops as tm ds H rc = .ok ex tm' ds' H' rc') : Keys V tm' := by
  revert h
  unfold drawK
  rw [resvK_eq]
  refine traceK_ok (Φ := fun r => r = .ok ex tm' ds' H' rc' → Keys V tm') (fun k h => by cases h) ?_ ops ⟨⟨[], [⟨nxF ops H.nx, H.tab⟩], [], []⟩, tm, ⟨nxF ops H.nx, H.tab⟩⟩ .nil rfl
  intro s tm1 H1 pan hE
  have key : ∀ {q : Tq}, Tr G cf call n ops as (namesF ops H.nx) tm ⟨nxF ops H.nx, H.tab⟩ q → Keys V q.tm := by
    intro q hq p v e
    have e' : PT.get (P.of p.toNat) q.tm = some v := by rw [P.of_toNat]; exact e
    rcases hq.facts.src p.toNat v e' with ⟨j, o, te, _, h2, h3, _, _⟩ | ⟨_, h2⟩
    · exact hd o (List.mem_of_getElem? h2) _ h3
    · rw [P.of_toNat] at h2; exact hk p v h2
  split
  · intro h; cases h
  · cases hE with
    | none hq hl =>
      simp only
      rw [layAll_eq]
      intro h; cases h
      exact key hq
    | some hq ho hw hc hop hcl hb =>
      simp only
      rw [eraseD_eq]
      intro h; cases h
      intro p v e
      have e' : PT.get (P.of p.toNat) _ = some v := (P.of_toNat p).symm ▸ e
      exact hk p v (by have := (eraF_get e').2; rwa [P.of_toNat] at this)
theorem drawK_pan {n : Nat} {ops : List Oper} {as : List Nat} {tm : PT AV} {ds : List AD} {H : Hp} {rc : RC} {v : AV} {tm' : PT AV} {ds' : List AD} {H' : Hp} {rc' : RC} (hk : Keys V tm)
    (h : drawK G cf call n ops as tm ds H rc = .ok (.pan v) tm' ds' H' rc') : Keys V tm' := by
  revert h
  unfold drawK
  rw [resvK_eq]
  refine traceK_ok (Φ := fun r => r = .ok (.pan v) tm' ds' H' rc' → Keys V tm') (fun k h => by cases h) ?_ ops ⟨⟨[], [⟨nxF ops H.nx, H.tab⟩], [], []⟩, tm, ⟨nxF ops H.nx, H.tab⟩⟩ .nil rfl
  intro s tm1 H1 pan hE
  split
  · intro h; cases h
  · cases hE with
    | none hq hl =>
      simp only
      rw [layAll_eq]
      intro h; cases h
    | some hq ho hw hc hop hcl hb =>
      simp only
      rw [eraseD_eq]
      intro h; cases h
      intro p v e
      have e' : PT.get (P.of p.toNat) _ = some v := (P.of_toNat p).symm ▸ e
      exact hk p v (by have := (eraF_get e').2; rwa [P.of_toNat] at this)
theorem fbE_cases {k : Nat} {s : CR} : (∃ e, fbE (.err k) s = .err e) ∨ ∃ v tm ds H rc, s = .ok (.pan v) tm ds H rc ∧ fbE (.err k) s = .ok (.pan v) tm ds H rc := by
  unfold fbE
  simp only
  split
  · split
    · exact .inr ⟨_, _, _, _, _, rfl, rfl⟩
    · exact .inl ⟨_, rfl⟩
  · exact .inl ⟨_, rfl⟩
theorem all_dst {ops : List Oper} (h : keptAll V ops = true) : ∀ o ∈ ops, ∀ t, o.dst = some t → V.has t = true := by
  intro o ho t e
  have := List.all_eq_true.1 h o ho
  rw [e] at this
  exact this
theorem oldR_keys {n : Nat} {c : Code} {tm : PT AV} {ds : List AD} {H : Hp} {rc : RC} {ex : Ex} {tm' : PT AV} {ds' : List AD} {H' : Hp} {rc' : RC} (hc : chkC G V .old c = true) (hk : Keys V tm) (h : oldR G cf call rnd n c tm ds H rc = .ok ex tm' ds' H' rc') : Keys V tm' := by
  unfold oldR at h
  split at h
  · rename_i id ops draw
    have hd := all_dst (show keptAll V ops.toList = true from hc)
    unfold regionK at h
    split at h
    · exact regK_keys _ hd hk h
    · split at h
      · exact drawK_keys hd hk h
      · cases h
  · cases h
end
end Go.Ai

/- Compiled code, frames, calls: sound. -/
namespace Go.Ai
open Go Go.RowKit
set_option linter.unusedVariables false
section
variable {G : Program} {W0 : World} {cf : Cf} {V : Kp} {call : CallF} {rnd : RndF}
theorem sgsK_keys {ops : List Oper} (hs : SSA ops) {ss : List Sg} {F : IH} {i' : Nat} {l' : List Oper} {tm : PT AV} {ds : List AD} {H : Hp} {rc : RC} {ex : Ex} {tm' : PT AV} {ds' : List AD} {H' : Hp} {rc' : RC} (h : matSs G V ss 0 ops = some (i', l')) (hk : Keys V tm)
    (hF : ∀ tm1 ds1 H1 rc1, Keys V tm1 → F tm1 ds1 H1 rc1 = .ok ex tm' ds' H' rc' → Keys V tm') (he : sgsK G cf call rnd ss F tm ds H rc = .ok ex tm' ds' H' rc') : Keys V tm' := by
  obtain ⟨_, o⟩ := sgs_ok (G := G) (cf := cf) (call := call) (rnd := rnd) (F := F) (ds := ds) (rc := rc) (H := H) hs ss h rfl (Sub.refl tm) hk
  rw [he] at o
  generalize hX : (CR.ok ex tm' ds' H' rc') = X at o
  generalize hY : regK G cf call rnd V.n ops ops tm ds H rc = Y at o
  cases o with
  | err k => cases hX
  | pan v h1 h2 => cases hX; exact h2
  | go h1 h2 => exact hF _ _ _ _ h2 hX.symm
theorem condV_cases {a b : CR} {v : AV} {ex : Ex} {tm' : PT AV} {ds' : List AD} {H' : Hp} {rc' : RC} (h : condV a b v = .ok ex tm' ds' H' rc') : (v = .bool true ∧ a = .ok ex tm' ds' H' rc') ∨ (v = .bool false ∧ b = .ok ex tm' ds' H' rc') := by
  unfold condV at h
  split at h
  · rename_i r
    cases r with
    | true => exact .inl ⟨rfl, h⟩
    | false => exact .inr ⟨rfl, h⟩
  · cases h
theorem mCond_cases {e : CE} {iha ihb : Code → IH} {c : Code} {tm : PT AV} {ds : List AD} {H : Hp} {rc : RC} {ex : Ex} {tm' : PT AV} {ds' : List AD} {H' : Hp} {rc' : RC} (h : mCond G cf e iha ihb c tm ds H rc = .ok ex tm' ds' H' rc') :
    iha (thnC c) tm ds H rc = .ok ex tm' ds' H' rc' ∨ ihb (elsC c) tm ds H rc = .ok ex tm' ds' H' rc' := by
  unfold mCond at h
  rw [cevK_eq] at h
  cases hv : cev G cf H.tab tm e with
  | none => rw [hv] at h; cases h
  | some v =>
    rw [hv] at h
    rcases condV_cases (show condV _ _ v = _ from h) with ⟨_, h⟩ | ⟨_, h⟩
    · exact .inl h
    · exact .inr h
theorem thenN_cases {F : IH} {r : CR} {ex : Ex} {tm' : PT AV} {ds' : List AD} {H' : Hp} {rc' : RC} (h : thenN F r = .ok ex tm' ds' H' rc') : (∃ tm ds H rc, r = .ok .normal tm ds H rc ∧ F tm ds H rc = .ok ex tm' ds' H' rc') ∨ (ex ≠ .normal ∧ r = .ok ex tm' ds' H' rc') := by
  unfold thenN at h
  split at h
  · exact .inl ⟨_, _, _, _, rfl, h⟩
  · rename_i hn
    refine .inr ⟨fun e => ?_, h⟩
    subst e
    exact hn _ _ _ _ h
theorem chk_reg {ss : List Sg} {c : Code} (h : chkC G V (.reg ss) c = true) : ∃ id ops, c = .region id ops false ∧ SSA ops.toList ∧ ∃ i, matSs G V ss 0 ops.toList = some (i, []) := by
  cases c with
  | region id ops draw =>
    have h' : (!draw && ssaF ops.toList [] && (match matSs G V ss 0 ops.toList with | some (_, []) => true | _ => false)) = true := h
    simp only [Bool.and_eq_true, Bool.not_eq_true'] at h'
    obtain ⟨⟨h1, h2⟩, h3⟩ := h'
    subst h1
    refine ⟨id, ops, rfl, (ssaF_ok h2).2, ?_⟩
    split at h3
    · rename_i i hm; exact ⟨i, hm⟩
    · cases h3
  | _ => exact absurd h (by simp [chkC])
theorem chk_seq {a b : CC} {c : Code} (h : chkC G V (.seq a b) c = true) : ∃ x y, c = .seq x y ∧ chkC G V a x = true ∧ chkC G V b y = true := by
  cases c with
  | seq x y =>
    have h' : (chkC G V a x && chkC G V b y) = true := h
    simp only [Bool.and_eq_true] at h'
    exact ⟨x, y, rfl, h'.1, h'.2⟩
  | _ => exact absurd h (by simp [chkC])
theorem chk_cond {e : CE} {a b : CC} {c : Code} (h : chkC G V (.cond e a b) c = true) : ∃ o x y r i, c = .cond o x y ∧ mat V e false none 0 [] = some (r, i, []) ∧ r.is o = true ∧ chkC G V a x = true ∧ chkC G V b y = true := by
  cases c with
  | cond o x y =>
    have h' : ((match mat V e false none 0 [] with | some (r, _, []) => r.is o | _ => false) && (chkC G V a x && chkC G V b y)) = true := h
    simp only [Bool.and_eq_true] at h'
    have h'' := h'.1
    split at h''
    · rename_i r i hm
      exact ⟨o, x, y, r, i, rfl, hm, h'', h'.2.1, h'.2.2⟩
    · cases h''
  | _ => exact absurd h (by simp [chkC])
theorem chk_condR {ss : List Sg} {e : CE} {a b : CC} {c : Code} (h : chkC G V (.condR ss e a b) c = true) :
    ∃ id ops o x y i l r i', c = .seq (.region id ops false) (.cond o x y) ∧ SSA ops.toList ∧ matSs G V ss 0 ops.toList = some (i, l) ∧ mat V e false none i l = some (r, i', []) ∧ r.is o = true ∧ chkC G V a x = true ∧ chkC G V b y = true := by
  cases c with
  | seq p q =>
    cases p with
    | region id ops draw =>
      cases q with
      | cond o x y =>
        have h' : (!draw && ssaF ops.toList [] && (match matSs G V ss 0 ops.toList with
          | some (i, l) => (match mat V e false none i l with | some (r, _, []) => r.is o | _ => false)
          | none => false) && (chkC G V a x && chkC G V b y)) = true := h
        simp only [Bool.and_eq_true, Bool.not_eq_true'] at h'
        obtain ⟨⟨⟨h1, h2⟩, h3⟩, h4, h5⟩ := h'
        subst h1
        split at h3
        · rename_i i l hm
          split at h3
          · rename_i r i' h6
            exact ⟨id, ops, o, x, y, i, l, r, i', rfl, (ssaF_ok h2).2, hm, h6, h3, h4, h5⟩
          · cases h3
        · cases h3
      | _ => exact absurd h (by simp [chkC])
    | _ => exact absurd h (by simp [chkC])
  | _ => exact absurd h (by simp [chkC])
theorem chk_block {id : Nat} {cc : CC} {c : Code} (h : chkC G V (.block id cc) c = true) : ∃ x, c = .block id x ∧ chkC G V cc x = true := by
  cases c with
  | block id' x =>
    have h' : (Nat.beq id id' && chkC G V cc x) = true := h
    simp only [Bool.and_eq_true] at h'
    rw [Nat.eq_of_beq_eq_true h'.1]
    exact ⟨x, rfl, h'.2⟩
  | _ => exact absurd h (by simp [chkC])
theorem chk_loop {cc : CC} {c : Code} (h : chkC G V (.loop cc) c = true) : ∃ x, c = .loop x ∧ chkC G V cc x = true := by
  cases c with
  | loop x => exact ⟨x, rfl, h⟩
  | _ => exact absurd h (by simp [chkC])
theorem chk_exit {id : Nat} {c : Code} (h : chkC G V (.exit id) c = true) : c = .exit id := by
  cases c with
  | exit id' =>
    have h' : Nat.beq id id' = true := h
    rw [Nat.eq_of_beq_eq_true h']
  | _ => exact absurd h (by simp [chkC])
theorem chk_ret {c : Code} (h : chkC G V .ret c = true) : c = .ret := by
  cases c with
  | ret => rfl
  | _ => exact absurd h (by simp [chkC])
theorem chk_skip {c : Code} (h : chkC G V .skip c = true) : c = .skip := by
  cases c with
  | skip => rfl
  | _ => exact absurd h (by simp [chkC])
theorem chk_old {c : Code} (h : chkC G V .old c = true) : ∃ id ops draw, c = .region id ops draw := by
  cases c with
  | region id ops draw => exact ⟨_, _, _, rfl⟩
  | _ => exact absurd h (by simp [chkC])
theorem matched_ {ss : List Sg} {ops : List Oper} (h : (match matSs G V ss 0 ops with | some (_, []) => true | _ => false) = true) : ∃ i, matSs G V ss 0 ops = some (i, []) := by
  split at h
  · rename_i i hm; exact ⟨i, hm⟩
  · cases h
theorem chk_oldD {as : List Nat} {c : Code} (h : chkC G V (.oldD as) c = true) : ∃ id ops, c = .region id ops true ∧ as = ancs ops.toList [] ∧ regStatic ops.toList (ancs ops.toList []) = true ∧ keptAll V ops.toList = true := by
  cases c with
  | region id ops draw =>
    have h' : (draw && natsBeq as (ancs ops.toList []) && regStatic ops.toList (ancs ops.toList []) && keptAll V ops.toList) = true := h
    simp only [Bool.and_eq_true] at h'
    obtain ⟨⟨⟨h1, h2⟩, h3⟩, h4⟩ := h'
    subst h1
    exact ⟨id, ops, rfl, natsBeq_eq h2, h3, h4⟩
  | _ => exact absurd h (by simp [chkC])
theorem chk_regD {m : Nat} {ss : List Sg} {c : Code} (h : chkC G V (.regD m ss) c = true) : ∃ id ops, c = .region id ops true ∧ m = ops.toList.length ∧ isPuts ss = true ∧ regStatic ops.toList (ancs ops.toList []) = true ∧ SSA ops.toList ∧ ∃ i, matSs G V ss 0 ops.toList = some (i, []) := by
  cases c with
  | region id ops draw =>
    have h' : (draw && Nat.beq m ops.toList.length && isPuts ss && regStatic ops.toList (ancs ops.toList []) && ssaF ops.toList [] && (match matSs G V ss 0 ops.toList with | some (_, []) => true | _ => false)) = true := h
    simp only [Bool.and_eq_true] at h'
    obtain ⟨⟨⟨⟨⟨h1, h2⟩, h3⟩, h4⟩, h5⟩, h6⟩ := h'
    subst h1
    exact ⟨id, ops, rfl, Nat.eq_of_beq_eq_true h2, h3, h4, (ssaF_ok h5).2, matched_ h6⟩
  | _ => exact absurd h (by simp [chkC])
theorem chk_regE {m : Nat} {ss : List Sg} {c : Code} (h : chkC G V (.regE m ss) c = true) : ∃ id ops, c = .region id ops true ∧ m = ops.toList.length ∧ ordB (ancs ops.toList []) ops.toList 0 = true ∧ regStatic ops.toList (ancs ops.toList []) = true ∧ SSA ops.toList ∧ ∃ i, matSs G V ss 0 ops.toList = some (i, []) := by
  cases c with
  | region id ops draw =>
    have h' : (draw && Nat.beq m ops.toList.length && ordB (ancs ops.toList []) ops.toList 0 && regStatic ops.toList (ancs ops.toList []) && ssaF ops.toList [] && (match matSs G V ss 0 ops.toList with | some (_, []) => true | _ => false)) = true := h
    simp only [Bool.and_eq_true] at h'
    obtain ⟨⟨⟨⟨⟨h1, h2⟩, h3⟩, h4⟩, h5⟩, h6⟩ := h'
    subst h1
    exact ⟨id, ops, rfl, Nat.eq_of_beq_eq_true h2, h3, h4, (ssaF_ok h5).2, matched_ h6⟩
  | _ => exact absurd h (by simp [chkC])
theorem chk_condD {m : Nat} {ss : List Sg} {e : CE} {a b : CC} {c : Code} (h : chkC G V (.condD m ss e a b) c = true) :
    ∃ id ops o x y i l r i', c = .seq (.region id ops true) (.cond o x y) ∧ m = ops.toList.length ∧ isPuts ss = true ∧ regStatic ops.toList (ancs ops.toList []) = true ∧ SSA ops.toList ∧ matSs G V ss 0 ops.toList = some (i, l) ∧ mat V e false none i l = some (r, i', []) ∧ r.is o = true ∧ chkC G V a x = true ∧ chkC G V b y = true := by
  cases c with
  | seq p q =>
    cases p with
    | region id ops draw =>
      cases q with
      | cond o x y =>
        have h' : (draw && Nat.beq m ops.toList.length && isPuts ss && regStatic ops.toList (ancs ops.toList []) && ssaF ops.toList [] && (match matSs G V ss 0 ops.toList with
          | some (i, l) => (match mat V e false none i l with | some (r, _, []) => r.is o | _ => false)
          | none => false) && (chkC G V a x && chkC G V b y)) = true := h
        simp only [Bool.and_eq_true] at h'
        obtain ⟨⟨⟨⟨⟨⟨h1, h2⟩, h3⟩, h4⟩, h5⟩, h6⟩, h7, h8⟩ := h'
        subst h1
        split at h6
        · rename_i i l hm
          split at h6
          · rename_i r i' h9
            exact ⟨id, ops, o, x, y, i, l, r, i', rfl, Nat.eq_of_beq_eq_true h2, h3, h4, (ssaF_ok h5).2, hm, h9, h6, h7, h8⟩
          · cases h6
        · cases h6
      | _ => exact absurd h (by simp [chkC])
    | _ => exact absurd h (by simp [chkC])
  | _ => exact absurd h (by simp [chkC])
theorem codeC_keys {n fuel : Nat} : ∀ (cc : CC) (c : Code), chkC G V cc c = true → ∀ {tm : PT AV} {ds : List AD} {H : Hp} {rc : RC} {ex : Ex} {tm' : PT AV} {ds' : List AD} {H' : Hp} {rc' : RC}, Keys V tm → codeC G cf call rnd n fuel cc c tm ds H rc = .ok ex tm' ds' H' rc' → Keys V tm' := by
  intro cc
  induction cc with
  | skip => intro c hc tm ds H rc ex tm' ds' H' rc' hk h; cases h; exact hk
  | exit id => intro c hc tm ds H rc ex tm' ds' H' rc' hk h; cases h; exact hk
  | ret => intro c hc tm ds H rc ex tm' ds' H' rc' hk h; cases h; exact hk
  | old => intro c hc tm ds H rc ex tm' ds' H' rc' hk h; exact oldR_keys hc hk h
  | oldD as =>
    intro c hc tm ds H rc ex tm' ds' H' rc' hk h
    obtain ⟨id, ops, rfl, _, _, hd⟩ := chk_oldD hc
    exact drawK_keys (all_dst hd) hk h
  | regD m ss =>
    intro c hc tm ds H rc ex tm' ds' H' rc' hk h
    obtain ⟨id, ops, rfl, rfl, _, _, hs, i, hm⟩ := chk_regD hc
    change nxK ops.toList.length (fun nx => mReg G cf call rnd ss tm ds ⟨nx, H.tab⟩ rc) H.nx = _ at h
    rw [nxK_eq] at h
    exact sgsK_keys hs hm hk (fun _ _ _ _ k e => by cases e; exact k) h
  | regE m ss =>
    intro c hc tm ds H rc ex tm' ds' H' rc' hk h
    obtain ⟨id, ops, rfl, rfl, _, _, hs, i, hm⟩ := chk_regE hc
    change fbE (nxK ops.toList.length (fun nx => sesK G cf call ss (fun tm ds H rc => .ok .normal tm ds H rc) tm ds ⟨nx, H.tab⟩ rc) H.nx) (regionK G cf call rnd n ops.toList true tm ds H rc) = _ at h
    rw [nxK_eq] at h
    rcases ses_ok (G := G) (cf := cf) (call := call) (F := fun tm ds H rc => .ok .normal tm ds H rc) (ds := ds) (rc := rc) (H := ⟨nxF ops.toList H.nx, H.tab⟩) hs ss hm rfl (Sub.refl tm) hk with ⟨k, e⟩ | ⟨tm1, H1, tmO, e, _, _, k1⟩
    · rw [e] at h
      rcases fbE_cases (k := k) (s := regionK G cf call rnd n ops.toList true tm ds H rc) with ⟨z, hz⟩ | ⟨v, tm2, ds2, H2, rc2, e1, e2⟩
      · rw [hz] at h; cases h
      · rw [e2] at h; cases h
        simp only [regionK] at e1
        split at e1
        · exact drawK_pan hk e1
        · cases e1
    · rw [e] at h; cases h; exact k1
  | condD m ss e a b iha ihb =>
    intro c hc tm ds H rc ex tm' ds' H' rc' hk h
    obtain ⟨id, ops, o, x, y, i, l, r, i', rfl, rfl, _, _, hs, hm, _, _, h1, h2⟩ := chk_condD hc
    change nxK ops.toList.length (fun nx => sgsK G cf call rnd ss (mCond G cf e (codeC G cf call rnd n fuel a) (codeC G cf call rnd n fuel b) (.cond o x y)) tm ds ⟨nx, H.tab⟩ rc) H.nx = _ at h
    rw [nxK_eq] at h
    refine sgsK_keys hs hm hk (fun tm1 ds1 H1 rc1 k e => ?_) h
    rcases mCond_cases e with h | h
    · exact iha x h1 k h
    · exact ihb y h2 k h
  | reg ss =>
    intro c hc tm ds H rc ex tm' ds' H' rc' hk h
    obtain ⟨id, ops, rfl, hs, i, hm⟩ := chk_reg hc
    exact sgsK_keys hs hm hk (fun _ _ _ _ k e => by cases e; exact k) h
  | seq a b iha ihb =>
    intro c hc tm ds H rc ex tm' ds' H' rc' hk h
    obtain ⟨x, y, rfl, h1, h2⟩ := chk_seq hc
    rcases thenN_cases (show thenN (codeC G cf call rnd n fuel b y) (codeC G cf call rnd n fuel a x tm ds H rc) = _ from h) with ⟨_, _, _, _, e1, e2⟩ | ⟨_, e1⟩
    · exact ihb y h2 (iha x h1 hk e1) e2
    · exact iha x h1 hk e1
  | cond e a b iha ihb =>
    intro c hc tm ds H rc ex tm' ds' H' rc' hk h
    obtain ⟨o, x, y, r, i, rfl, _, _, h1, h2⟩ := chk_cond hc
    rcases mCond_cases (show mCond G cf e (codeC G cf call rnd n fuel a) (codeC G cf call rnd n fuel b) (.cond o x y) tm ds H rc = _ from h) with h | h
    · exact iha x h1 hk h
    · exact ihb y h2 hk h
  | condR ss e a b iha ihb =>
    intro c hc tm ds H rc ex tm' ds' H' rc' hk h
    obtain ⟨id, ops, o, x, y, i, l, r, i', rfl, hs, hm, _, _, h1, h2⟩ := chk_condR hc
    refine sgsK_keys hs hm hk (fun tm1 ds1 H1 rc1 k e => ?_) (show sgsK G cf call rnd ss (mCond G cf e (codeC G cf call rnd n fuel a) (codeC G cf call rnd n fuel b) (.cond o x y)) tm ds H rc = _ from h)
    rcases mCond_cases e with h | h
    · exact iha x h1 k h
    · exact ihb y h2 k h
  | block id c ih =>
    intro c hc tm ds H rc ex tm' ds' H' rc' hk h
    obtain ⟨x, rfl, h1⟩ := chk_block hc
    change blockN id (codeC G cf call rnd n fuel _ x tm ds H rc) = _ at h
    unfold blockN at h
    split at h
    · rename_i j tm1 ds1 H1 rc1 e
      split at h
      · cases h; exact ih x h1 hk e
      · cases h; exact ih x h1 hk e
    · exact ih x h1 hk h
  | loop cc ih =>
    intro c hc tm ds H rc ex tm' ds' H' rc' hk h
    obtain ⟨x, rfl, h1⟩ := chk_loop hc
    change loopC (codeC G cf call rnd n fuel cc x) fuel tm ds H rc = _ at h
    have main : ∀ k {tm : PT AV} {ds : List AD} {H : Hp} {rc : RC}, Keys V tm → loopC (codeC G cf call rnd n fuel cc x) k tm ds H rc = .ok ex tm' ds' H' rc' → Keys V tm' := by
      intro k
      induction k with
      | zero => intro tm ds H rc hk h; cases h
      | succ k ihk =>
        intro tm ds H rc hk h
        rcases thenN_cases (show thenN (loopC (codeC G cf call rnd n fuel cc x) k) (codeC G cf call rnd n fuel cc x tm ds H rc) = _ from h) with ⟨_, _, _, _, e1, e2⟩ | ⟨_, e1⟩
        · exact ihk (ih x h1 hk e1) e2
        · exact ih x h1 hk e1
    exact main fuel hk h
/-- as CodeOk.seq, with what is known of the first part's outcome -/
theorem CodeOk.seqE {n : Nat} {b : Frame} {H : Hp} {E : Env} {w : World} {cs : List Frame} {m : Machine} {x : Item} {k : List Item} {r : CR} {F : IH} (hx : ∀ id, exitTo id (x :: k) = exitTo id k)
    (hcf : cf.ok E.σ) (h : CodeOk G W0 n b H E w cs m (x :: k) r)
    (next : ∀ tm ds H' rc E' w' arr dv cs', r = .ok .normal tm ds H' rc → cf.ok E'.σ → St G W0 n b tm ds H' rc E' w' arr dv cs' → CodeOk G W0 n b H' E' w' cs' (lone (Fr b arr (x :: k) dv) cs' w') k (F tm ds H' rc)) :
    CodeOk G W0 n b H E w cs m k (thenN F r) := by
  cases r with
  | err => trivial
  | ok ex tm' ds' H' rc' =>
    obtain ⟨E', w', arr', dv', cs', o, e⟩ := h
    cases ex with
    | normal => exact CodeOk.then o e (next _ _ _ _ _ _ _ _ _ rfl (by rw [o.mv.le.1]; exact hcf) o.st)
    | exit id => exact ⟨E', w', arr', dv', cs', o, e.pass (by simp) (fun _ _ => hx _)⟩
    | ret => exact ⟨E', w', arr', dv', cs', o, e.pass (by simp) (fun _ _ => hx _)⟩
    | pan v => exact ⟨E', w', arr', dv', cs', o, e.pass (by simp) (fun _ _ => hx _)⟩
theorem sub_ok {n : Nat} {b : Frame} {H : Hp} {E : Env} {w : World} {cs : List Frame} {m : Machine} {k : List Item} {ex : Ex} {tm tmO : PT AV} {ds : List AD} {H' : Hp} {rc : RC} (h : CodeOk G W0 n b H E w cs m k (.ok ex tmO ds H' rc)) (hs : Sub V tm tmO) (hk : Keys V tm) : CodeOk G W0 n b H E w cs m k (.ok ex tm ds H' rc) := by
  obtain ⟨E', w', arr', dv', cs', o, e⟩ := h
  exact ⟨E', w', arr', dv', cs', ⟨o.mv, o.st.sub hs hk, o.md⟩, e⟩
theorem bool_eval {E : Env} {x : Value} {t : Bool} (h : VR E (.bool t) x) : x = .bool t := by cases h; rfl
theorem region_ok [GlOk cf.gl W0] (hcall : CallOk G W0 cf call) (hrnd : RndOk G W0 cf rnd) (hdraw : DrawOk G W0 cf call) {b : Frame} {id : Nat} {ops : Array Oper} {draw : Bool} {n : Nat} {tm : PT AV} {ds : List AD} {H : Hp} {rc : RC} {E : Env} {w : World} {arr : Array Value} {dv : List Deferred} {cs : List Frame} {k : List Item}
    (hcf : cf.ok E.σ) (st : St G W0 n b tm ds H rc E w arr dv cs) : CodeOk G W0 n b H E w cs (lone (Fr b arr (.code (.region id ops draw) :: k) dv) cs w) k (regionK G cf call rnd n ops.toList draw tm ds H rc) := by
  cases draw with
  | false =>
    have := regK_ok hcall hrnd (ops := ops) ops.toList 0 (by simp) tm ds H rc E w arr dv cs k hcf st
    refine CodeOk.steps (.one ?_) this
    have hs := st_region (P := G) (b := b) (arr := arr) (ds := dv) (k := k) (cs := cs) (w := w) (ops := ops) (id := id)
    rw [List.range_eq_range'] at hs
    simpa using hs
  | true =>
    simp only [regionK]
    split
    · rename_i hs
      exact hdraw n b id ops tm ds H rc E w arr dv cs k hcf st hs
    · trivial
theorem codeC_ok [GlOk cf.gl W0] (hcall : CallOk G W0 cf call) (hrnd : RndOk G W0 cf rnd) (hdraw : DrawOk G W0 cf call) {b : Frame} {fuel : Nat} : ∀ (cc : CC) (c : Code), chkC G V cc c = true → ∀ (tm : PT AV) (ds : List AD) (H : Hp) (rc : RC) (E : Env) (w : World) (arr : Array Value) (dv : List Deferred) (cs : List Frame) (k : List Item),
    cf.ok E.σ → St G W0 V.n b tm ds H rc E w arr dv cs → Keys V tm →
    CodeOk G W0 V.n b H E w cs (lone (Fr b arr (.code c :: k) dv) cs w) k (codeC G cf call rnd V.n fuel cc c tm ds H rc) := by
  -- a condition, its value reckoned
  have condOk : ∀ {e : CE} {a b' : CC} {o : Operand} {x y : Code} {tm tmO : PT AV} {ds : List AD} {H : Hp} {rc : RC} {E : Env} {w : World} {arr : Array Value} {dv : List Deferred} {cs : List Frame} {k : List Item},
      (∀ v, cev G cf H.tab tm e = some v → ∃ tmO', St G W0 V.n b tmO' ds H rc E w arr dv cs ∧ evO tmO' o = some v) →
      (CodeOk G W0 V.n b H E w cs (lone (Fr b arr (.code x :: k) dv) cs w) k (codeC G cf call rnd V.n fuel a x tm ds H rc)) →
      (CodeOk G W0 V.n b H E w cs (lone (Fr b arr (.code y :: k) dv) cs w) k (codeC G cf call rnd V.n fuel b' y tm ds H rc)) →
      CodeOk G W0 V.n b H E w cs (lone (Fr b arr (.code (.cond o x y) :: k) dv) cs w) k (mCond G cf e (codeC G cf call rnd V.n fuel a) (codeC G cf call rnd V.n fuel b') (.cond o x y) tm ds H rc) := by
    intro e a b' o x y tm tmO ds H rc E w arr dv cs k hv ha hb
    unfold mCond
    rw [cevK_eq]
    cases hc : cev G cf H.tab tm e with
    | none => trivial
    | some v =>
      obtain ⟨tmO', st, ho⟩ := hv v hc
      have hev := evO_ok (a := ⟨arr, dv⟩) st.tr o v ho
      show CodeOk G W0 V.n b H E w cs _ k (condV (codeC G cf call rnd V.n fuel a x tm ds H rc) (codeC G cf call rnd V.n fuel b' y tm ds H rc) v)
      unfold condV
      split
      · rename_i r
        cases r with
        | true => exact CodeOk.steps (.one (st_cond (t := true) (bool_eval hev))) ha
        | false => exact CodeOk.steps (.one (st_cond (t := false) (bool_eval hev))) hb
      · trivial
  intro cc
  induction cc with
  | skip =>
    intro c hc tm ds H rc E w arr dv cs k hcf st hk
    rw [chk_skip hc]
    exact ⟨E, w, arr, dv, cs, ⟨Mv.refl st.hr, st, .refl _ _⟩, .one st_skip⟩
  | exit id =>
    intro c hc tm ds H rc E w arr dv cs k hcf st hk
    rw [chk_exit hc]
    exact ⟨E, w, arr, dv, cs, ⟨Mv.refl st.hr, st, .refl _ _⟩, [], rfl, .refl _ _⟩
  | ret =>
    intro c hc tm ds H rc E w arr dv cs k hcf st hk
    rw [chk_ret hc]
    exact ⟨E, w, arr, dv, cs, ⟨Mv.refl st.hr, st, .refl _ _⟩, k, .refl _ _⟩
  | old =>
    intro c hc tm ds H rc E w arr dv cs k hcf st hk
    obtain ⟨id, ops, draw, rfl⟩ := chk_old hc
    exact region_ok hcall hrnd hdraw hcf st
  | oldD as =>
    intro c hc tm ds H rc E w arr dv cs k hcf st hk
    obtain ⟨id, ops, rfl, rfl, hst, _⟩ := chk_oldD hc
    exact hdraw V.n b id ops tm ds H rc E w arr dv cs k hcf st hst
  | regD m ss =>
    intro c hc tm ds H rc E w arr dv cs k hcf st hk
    obtain ⟨id, ops, rfl, rfl, hp, hst, hs, i, hm⟩ := chk_regD hc
    change CodeOk G W0 V.n b H E w cs _ k (nxK ops.toList.length (fun nx => sgsK G cf call rnd ss (fun tm ds H rc => .ok .normal tm ds H rc) tm ds ⟨nx, H.tab⟩ rc) H.nx)
    rw [nxK_eq]
    obtain ⟨_, o⟩ := puts_ok (G := G) (cf := cf) (call := call) (rnd := rnd) (F := fun tm ds H rc => .ok .normal tm ds H rc) (ds := ds) (rc := rc) (H := ⟨nxF ops.toList H.nx, H.tab⟩) hs ss hp hm rfl (Sub.refl tm) hk
    rcases o with ⟨e, he⟩ | ⟨tm', tmO', he, pr, h1, h2⟩
    · rw [he]; trivial
    · rw [he]
      have h := hdraw V.n b id ops tm ds H rc E w arr dv cs k hcf st hst
      rw [prun_draw pr] at h
      exact sub_ok h h1 h2
  | regE m ss =>
    intro c hc tm ds H rc E w arr dv cs k hcf st hk
    obtain ⟨id, ops, rfl, rfl, hord, hst, hs, i, hm⟩ := chk_regE hc
    change CodeOk G W0 V.n b H E w cs _ k (fbE (nxK ops.toList.length (fun nx => sesK G cf call ss (fun tm ds H rc => .ok .normal tm ds H rc) tm ds ⟨nx, H.tab⟩ rc) H.nx) (regionK G cf call rnd V.n ops.toList true tm ds H rc))
    rw [nxK_eq]
    rcases ses_ok (G := G) (cf := cf) (call := call) (F := fun tm ds H rc => .ok .normal tm ds H rc) (ds := ds) (rc := rc) (H := ⟨nxF ops.toList H.nx, H.tab⟩) hs ss hm rfl (Sub.refl tm) hk with ⟨e, he⟩ | ⟨tm', H', tmO', he, tr, h1, h2⟩
    · rw [he]
      rcases fbE_cases (k := e) (s := regionK G cf call rnd V.n ops.toList true tm ds H rc) with ⟨z, hz⟩ | ⟨v, tm2, ds2, H2, rc2, e1, e2⟩
      · rw [hz]; trivial
      · rw [e2, ← e1]
        exact region_ok hcall hrnd hdraw hcf st
    · rw [he]
      change CodeOk G W0 V.n b H E w cs _ k (CR.ok .normal tm' ds H' rc)
      have h := hdraw V.n b id ops tm ds H rc E w arr dv cs k hcf st hst
      rw [draw_ord hord tr] at h
      exact sub_ok h h1 h2
  | condD m ss e a b' iha ihb =>
    intro c hc tm ds H rc E w arr dv cs k hcf st hk
    obtain ⟨id, ops, oo, x, y, i, l, r, i', rfl, rfl, hp, hst, hs, hm, hme, hr, h1, h2⟩ := chk_condD hc
    refine CodeOk.steps (.one st_seq) ?_
    change CodeOk G W0 V.n b H E w cs _ k (nxK ops.toList.length (fun nx => sgsK G cf call rnd ss (mCond G cf e (codeC G cf call rnd V.n fuel a) (codeC G cf call rnd V.n fuel b') (.cond oo x y)) tm ds ⟨nx, H.tab⟩ rc) H.nx)
    rw [nxK_eq]
    obtain ⟨hd, o⟩ := puts_ok (G := G) (cf := cf) (call := call) (rnd := rnd) (F := mCond G cf e (codeC G cf call rnd V.n fuel a) (codeC G cf call rnd V.n fuel b') (.cond oo x y)) (ds := ds) (rc := rc) (H := ⟨nxF ops.toList H.nx, H.tab⟩) hs ss hp hm rfl (Sub.refl tm) hk
    rcases o with ⟨z, he⟩ | ⟨tm', tmO', he, pr, g1, g2⟩
    · rw [he]; trivial
    · rw [he]
      cases hv : cev G cf H.tab tm' e with
      | none =>
        have : mCond G cf e (codeC G cf call rnd V.n fuel a) (codeC G cf call rnd V.n fuel b') (.cond oo x y) tm' ds ⟨nxF ops.toList H.nx, H.tab⟩ rc = .err 204 := by
          unfold mCond; rw [cevK_eq, hv]; rfl
        rw [this]; trivial
      | some v =>
        obtain ⟨tm2, e2, fr2, hr2⟩ := mat_ok (G := G) (cf := cf) (H := ⟨nxF ops.toList H.nx, H.tab⟩) hs e hme hd g1 trivial hv
        have h := hdraw V.n b id ops tm ds H rc E w arr dv cs (.code (.cond oo x y) :: k) hcf st hst
        rw [prun_draw (pr.trans e2)] at h
        obtain ⟨E', w', arr', dv', cs', o, en⟩ := h
        have hcf' : cf.ok E'.σ := by rw [o.mv.le.1]; exact hcf
        have st' : St G W0 V.n b tm' ds ⟨nxF ops.toList H.nx, H.tab⟩ rc E' w' arr' dv' cs' := o.st.sub (g1.keepA (mat_facts e hme hd).all fr2) g2
        refine CodeOk.then o en ?_
        exact condOk (tmO := tm2) (fun u hu => ⟨tm2, o.st, by rw [show cev G cf H.tab tm' e = some v from hv] at hu; cases hu; exact hr2.is hr⟩) (iha x h1 tm' ds ⟨nxF ops.toList H.nx, H.tab⟩ rc E' w' arr' dv' cs' k hcf' st' g2) (ihb y h2 tm' ds ⟨nxF ops.toList H.nx, H.tab⟩ rc E' w' arr' dv' cs' k hcf' st' g2)
  | reg ss =>
    intro c hc tm ds H rc E w arr dv cs k hcf st hk
    obtain ⟨id, ops, rfl, hs, i, hm⟩ := chk_reg hc
    obtain ⟨_, o⟩ := sgs_ok (G := G) (cf := cf) (call := call) (rnd := rnd) (F := fun tm ds H rc => .ok .normal tm ds H rc) (ds := ds) (rc := rc) (H := H) hs ss hm rfl (Sub.refl tm) hk
    have h := region_ok hcall hrnd hdraw (id := id) (ops := ops) (draw := false) (k := k) hcf st
    change CodeOk G W0 V.n b H E w cs _ k (sgsK G cf call rnd ss (fun tm ds H rc => .ok .normal tm ds H rc) tm ds H rc)
    change CodeOk G W0 V.n b H E w cs _ k (regK G cf call rnd V.n ops.toList ops.toList tm ds H rc) at h
    generalize hX : sgsK G cf call rnd ss (fun tm ds H rc => .ok .normal tm ds H rc) tm ds H rc = X at o
    generalize hY : regK G cf call rnd V.n ops.toList ops.toList tm ds H rc = Y at o h
    cases o with
    | err k => trivial
    | pan v h1 h2 => exact sub_ok h h1 h2
    | go h1 h2 => exact sub_ok h h1 h2
  | seq a b' iha ihb =>
    intro c hc tm ds H rc E w arr dv cs k hcf st hk
    obtain ⟨x, y, rfl, h1, h2⟩ := chk_seq hc
    exact CodeOk.steps (.one st_seq) (CodeOk.seqE (cf := cf) (fun _ => rfl) hcf (iha x h1 tm ds H rc E w arr dv cs (.code y :: k) hcf st hk)
      (fun tm ds H' rc E' w' arr dv cs' he hcf' st' => ihb y h2 tm ds H' rc E' w' arr dv cs' k hcf' st' (codeC_keys a x h1 hk he)))
  | cond e a b' iha ihb =>
    intro c hc tm ds H rc E w arr dv cs k hcf st hk
    obtain ⟨o, x, y, r, i, rfl, hm, hr, h1, h2⟩ := chk_cond hc
    refine condOk (tmO := tm) (fun v hv => ?_) (iha x h1 tm ds H rc E w arr dv cs k hcf st hk) (ihb y h2 tm ds H rc E w arr dv cs k hcf st hk)
    obtain ⟨tmO', _, fr, hro⟩ := mat_ok (G := G) (cf := cf) (H := H) (ops := []) (fun j j' t h => by simp [dstAt] at h) e hm rfl (Sub.refl tm) trivial hv
    have hsame : ∀ t, PT.get (P.of t) tmO' = PT.get (P.of t) tm := fun t => fr t (fun j _ _ h => by simp [dstAt] at h)
    exact ⟨tmO', ⟨st.hr, st.sz, fun i v e => st.tr i v ((hsame i).symm.trans e), st.ds, st.rc⟩, hro.is hr⟩
  | condR ss e a b' iha ihb =>
    intro c hc tm ds H rc E w arr dv cs k hcf st hk
    obtain ⟨id, ops, oo, x, y, i, l, r, i', rfl, hs, hm, hme, hr, h1, h2⟩ := chk_condR hc
    refine CodeOk.steps (.one st_seq) ?_
    obtain ⟨hd, o⟩ := sgs_ok (G := G) (cf := cf) (call := call) (rnd := rnd) (F := mCond G cf e (codeC G cf call rnd V.n fuel a) (codeC G cf call rnd V.n fuel b') (.cond oo x y)) (ds := ds) (rc := rc) (H := H) hs ss hm rfl (Sub.refl tm) hk
    have h := region_ok hcall hrnd hdraw (id := id) (ops := ops) (draw := false) (k := .code (.cond oo x y) :: k) hcf st
    change CodeOk G W0 V.n b H E w cs _ k (sgsK G cf call rnd ss (mCond G cf e (codeC G cf call rnd V.n fuel a) (codeC G cf call rnd V.n fuel b') (.cond oo x y)) tm ds H rc)
    change CodeOk G W0 V.n b H E w cs _ _ (regK G cf call rnd V.n ops.toList ops.toList tm ds H rc) at h
    generalize hX : sgsK G cf call rnd ss (mCond G cf e (codeC G cf call rnd V.n fuel a) (codeC G cf call rnd V.n fuel b') (.cond oo x y)) tm ds H rc = X at o
    generalize hY : regK G cf call rnd V.n ops.toList ops.toList tm ds H rc = Y at o h
    cases o with
    | err k => trivial
    | pan v g1 g2 =>
      obtain ⟨E', w', arr', dv', cs', o, e⟩ := sub_ok h g1 g2
      exact ⟨E', w', arr', dv', cs', o, e.pass (by simp) (fun _ h => by cases h)⟩
    | go g1 g2 =>
      rename_i tm' tmO' H'
      cases hv : cev G cf H'.tab tm' e with
      | none =>
        have : mCond G cf e (codeC G cf call rnd V.n fuel a) (codeC G cf call rnd V.n fuel b') (.cond oo x y) tm' ds H' rc = .err 204 := by
          unfold mCond; rw [cevK_eq, hv]; rfl
        rw [this]; trivial
      | some v =>
        obtain ⟨tm2, e2, fr2, hr2⟩ := mat_ok (G := G) (cf := cf) (H := H') hs e hme hd g1 trivial hv
        rw [e2.regK] at h
        obtain ⟨E', w', arr', dv', cs', o, en⟩ := h
        have hcf' : cf.ok E'.σ := by rw [o.mv.le.1]; exact hcf
        have st' : St G W0 V.n b tm' ds H' rc E' w' arr' dv' cs' := o.st.sub (g1.keepA (mat_facts e hme hd).all fr2) g2
        refine CodeOk.then o en ?_
        exact condOk (tmO := tm2) (fun u hu => ⟨tm2, o.st, by rw [hv] at hu; cases hu; exact hr2.is hr⟩) (iha x h1 tm' ds H' rc E' w' arr' dv' cs' k hcf' st' g2) (ihb y h2 tm' ds H' rc E' w' arr' dv' cs' k hcf' st' g2)
  | block id cc ih =>
    intro c hc tm ds H rc E w arr dv cs k hcf st hk
    obtain ⟨x, rfl, h1⟩ := chk_block hc
    refine CodeOk.steps (.one st_block) ?_
    have h := ih x h1 tm ds H rc E w arr dv cs (.inBlock id :: k) hcf st hk
    change CodeOk G W0 V.n b H E w cs _ k (blockN id (codeC G cf call rnd V.n fuel cc x tm ds H rc))
    generalize codeC G cf call rnd V.n fuel cc x tm ds H rc = r at h
    cases r with
    | err => trivial
    | ok ex tm' ds' H' rc' =>
      obtain ⟨E', w', arr', dv', cs', o, e⟩ := h
      cases ex with
      | normal => exact ⟨E', w', arr', dv', cs', o, Steps.trans e (.one st_inBlock)⟩
      | ret => exact ⟨E', w', arr', dv', cs', o, e.pass (by simp) (fun _ h => by cases h)⟩
      | pan v => exact ⟨E', w', arr', dv', cs', o, e.pass (by simp) (fun _ h => by cases h)⟩
      | exit j =>
        simp only [blockN]
        cases hj : Nat.beq j id with
        | true =>
          have hj := Nat.eq_of_beq_eq_true hj
          subst hj
          obtain ⟨l, e1, s⟩ := e
          refine ⟨E', w', arr', dv', cs', o, Steps.trans s (.one (st_exit ?_))⟩
          rw [e1]; simp [exitTo]
        | false =>
          have hj := Nat.ne_of_beq_eq_false hj
          refine ⟨E', w', arr', dv', cs', o, e.pass (by simp) (fun i hi => ?_)⟩
          cases hi
          have : (id == j) = false := by simp; exact fun h => hj h.symm
          simp [exitTo, this]
  | loop cc ih =>
    intro c hc tm ds H rc E w arr dv cs k hcf st hk
    obtain ⟨x, rfl, h1⟩ := chk_loop hc
    have main : ∀ (m : Nat) (tm : PT AV) (ds : List AD) (H : Hp) (rc : RC) (E : Env) (w : World) (arr : Array Value) (dv : List Deferred) (cs : List Frame) (k : List Item),
        cf.ok E.σ → St G W0 V.n b tm ds H rc E w arr dv cs → Keys V tm →
        CodeOk G W0 V.n b H E w cs (lone (Fr b arr (.code x :: .inLoop x :: k) dv) cs w) k (loopC (codeC G cf call rnd V.n fuel cc x) m tm ds H rc) := by
      intro m
      induction m with
      | zero => intros; trivial
      | succ m ihm =>
        intro tm ds H rc E w arr dv cs k hcf st hk
        exact CodeOk.seqE (cf := cf) (fun _ => rfl) hcf (ih x h1 tm ds H rc E w arr dv cs (.inLoop x :: k) hcf st hk)
          (fun tm ds H' rc E' w' arr dv cs' he hcf' st' => CodeOk.steps (.one st_inLoop) (ihm tm ds H' rc E' w' arr dv cs' k hcf' st' (codeC_keys cc x h1 hk he)))
    exact CodeOk.steps (.one st_loop) (main fuel tm ds H rc E w arr dv cs k hcf st hk)
end
/-! ### frames -/
structure CFn where
  V : Kp
  code : CC
noncomputable def okF (G : Program) (f : Nat) (x : CFn) : Bool := match G.funcs[f]? with
  | some fn => match fn.body with
    | some c => Nat.beq x.V.n fn.ntmps && chkC G x.V x.code c
    | none => false
  | none => false
def TabOk (G : Program) (T : PT CFn) : Prop := ∀ f x, PT.get (P.of f) T = some x → okF G f x = true
section
variable (G : Program) (cf : Cf) (call : CallF) (rnd : RndF) (fuel : Nat)
noncomputable def afterC (f : FuncId) (fn : Func) : CR → KR
  | .ok .normal tm ds H _ => leaveK G cf call rnd fuel fn tm ds .ret H
  | .ok .ret tm ds H _ => leaveK G cf call rnd fuel fn tm ds .ret H
  | .ok (.pan v) tm ds H _ => leaveK G cf call rnd fuel fn tm ds (.pan v) H
  | .ok (.exit _) _ _ _ _ => .err 94
  | .err k => .err (Bool.rec (k + 1000 * (f + 1)) k (Nat.ble 1000 k))
noncomputable def frameB (x : CFn) (f : FuncId) (args : List AV) (H : Hp) (fn : Func) (c : Code) : KR :=
  Bool.rec (.err 95) (afterC G cf call rnd fuel f fn (codeC G cf call rnd x.V.n fuel x.code c (argsT args 0 .e) [] H .no)) (Nat.ble (lenL args) x.V.m && Nat.ble (lenL args) x.V.n)
noncomputable def frameC1 (x : CFn) (f : FuncId) (args : List AV) (H : Hp) : KR := match G.funcs[f]? with
  | some fn => match fn.body with
    | some c => frameB G cf call rnd fuel x f args H fn c
    | none => .err 96
  | none => .err 97
noncomputable def frameC (T : PT CFn) : CallF := fun f args H => Option.rec (frameK G cf call rnd fuel f args H) (fun x => frameC1 G cf call rnd fuel x f args H) (PT.get (P.of f) T)
end
theorem argsT_keys {V : Kp} : ∀ (args : List AV) (i : Nat) (t : PT AV), i + args.length ≤ V.m → Keys V t → Keys V (argsT args i t)
  | [], i, t, _, hk => hk
  | a :: args, i, t, h, hk => argsT_keys args (i + 1) (PT.put (P.of i) t (some a)) (by simp at h; omega) (hk.put (by
      rw [P.toNat_of]
      simp only [List.length_cons] at h
      have : Nat.ble (Nat.succ i) V.m = true := Nat.ble_eq_true_of_le (by omega)
      simp [Kp.has, this]) a)
section
variable {G : Program} {W0 : World} {cf : Cf} {call : CallF} {rnd : RndF}
theorem frameC_ok [GlOk cf.gl W0] {T : PT CFn} (hT : TabOk G T) (hcall : CallOk G W0 cf call) (hrnd : RndOk G W0 cf rnd) (hdraw : DrawOk G W0 cf call) (fuel : Nat) : CallOk G W0 cf (frameC G cf call rnd fuel T) := by
  intro f args H E w xs hcf hr hx
  unfold frameC
  cases hg : PT.get (P.of f) T with
  | none => exact frameK_ok hcall hrnd hdraw fuel f args H E w xs hcf hr hx
  | some x =>
    have hok := hT f x hg
    change CallRes G W0 E H w f xs (frameC1 G cf call rnd fuel x f args H)
    refine LeaveRes.calls fun cs => ?_
    unfold frameC1
    unfold okF at hok
    split
    · rename_i fn hf
      rw [hf] at hok
      simp only at hok
      split
      · rename_i body hb
        rw [hb] at hok
        simp only [Bool.and_eq_true] at hok
        have hn := Nat.eq_of_beq_eq_true hok.1
        unfold frameB
        cases hl : (Nat.ble (lenL args) x.V.m && Nat.ble (lenL args) x.V.n) with
        | false => trivial
        | true =>
        simp only [Bool.and_eq_true] at hl
        have hlm := Nat.le_of_ble_eq_true hl.1
        have hln := Nat.le_of_ble_eq_true hl.2
        have st := st_args (n := fn.ntmps) (b := { (default : Frame) with fn := f, kind := .normal }) (rc := .no) (cs := cs) hr hx (by rw [← hn]; exact hln) (.no rfl rfl cs)
        rw [← hn] at st
        have hkeys : Keys x.V (argsT args 0 .e) := argsT_keys args 0 .e (by rw [lenL_eq] at hlm; omega) (fun _ _ e => by rw [PT.get_e] at e; cases e)
        have hk := codeC_ok hcall hrnd hdraw (fuel := fuel) x.code body hok.2 _ [] H .no E w _ [] cs [] hcf st hkeys
        rw [hn, ← enter_eq hf hb] at hk
        have same : ∀ {cs'}, Mod { (default : Frame) with fn := f, kind := .normal } cs cs' → cs' = cs := by
          intro cs' hm
          rcases hm with rfl | ⟨e, _⟩
          · rfl
          · cases e
        show LeaveRes G W0 E H w f _ cs (afterC G cf call rnd fuel f fn (codeC G cf call rnd x.V.n fuel x.code body (argsT args 0 .e) [] H .no))
        rw [hn]
        unfold afterC
        split
        · rename_i tm ds H2 rc2 hcode
          rw [hcode] at hk
          obtain ⟨E', w', arr', dv', cs', o, e⟩ := hk
          have := same o.md
          subst this
          exact LeaveRes.then o.mv (Steps.trans e (.one (st_end rfl))) (leaveK_ok hcall hrnd hdraw ds .ret tm H2 E' w' _ dv' cs' (by rw [o.mv.le.1]; exact hcf) o.st.hr o.st.tr o.st.ds .ret rfl hf rfl)
        · rename_i tm ds H2 rc2 hcode
          rw [hcode] at hk
          obtain ⟨E', w', arr', dv', cs', o, j, e⟩ := hk
          have := same o.md
          subst this
          exact LeaveRes.then o.mv (Steps.trans e (.one (st_ret rfl))) (leaveK_ok hcall hrnd hdraw ds .ret tm H2 E' w' _ dv' cs' (by rw [o.mv.le.1]; exact hcf) o.st.hr o.st.tr o.st.ds .ret rfl hf rfl)
        · rename_i v tm ds H2 rc2 hcode
          rw [hcode] at hk
          obtain ⟨E', w', arr', dv', cs', o, y, j, hv, e⟩ := hk
          have := same o.md
          subst this
          exact LeaveRes.then o.mv e (leaveK_ok hcall hrnd hdraw ds (.pan v) tm H2 E' w' _ dv' cs' (by rw [o.mv.le.1]; exact hcf) o.st.hr o.st.tr o.st.ds (.pan hv) rfl hf rfl)
        · trivial
        · trivial
      · trivial
    · trivial
/-! ### calls of a depth, over the table; what it is to answer yes -/
noncomputable def bothC (G : Program) (cf : Cf) (T : PT CFn) (over : CallF → CallF) (fuel : Nat) (d : Nat) : CallF × RndF := Nat.rec (fun _ _ _ => .err 98, fun _ _ _ => .err 99) (fun _ ih => (over (frameC G cf ih.1 ih.2 fuel T), roundK G cf ih.1 ih.2 fuel)) d
theorem bothC_ok [GlOk cf.gl W0] {T : PT CFn} (hT : TabOk G T) (hdraw : ∀ call, CallOk G W0 cf call → DrawOk G W0 cf call) {over : CallF → CallF} (hover : ∀ call, CallOk G W0 cf call → CallOk G W0 cf (over call)) (fuel : Nat) : ∀ d, CallOk G W0 cf (bothC G cf T over fuel d).1 ∧ RndOk G W0 cf (bothC G cf T over fuel d).2
  | 0 => ⟨fun _ _ _ _ _ _ _ _ _ => trivial, fun _ _ _ _ _ _ _ _ _ _ _ _ => trivial⟩
  | d + 1 => have ih := bothC_ok hT hdraw hover fuel d
    ⟨hover _ (frameC_ok hT ih.1 ih.2 (hdraw _ ih.1) fuel), roundK_ok ih.1 ih.2 (hdraw _ ih.1) fuel⟩
noncomputable def runC (G : Program) (cf : Cf) (T : PT CFn) (over : CallF → CallF) (fuel d f : Nat) (args : List AV) : KR := (bothC G cf T over fuel d).1 f args ⟨P.h, PT.e⟩
theorem soundC (hm : G.follows .mixedOrders = true) {T : PT CFn} (hT : TabOk G T) {over : CallF → CallF} {cf : Cf} {fuel d : Nat} {f : FuncId} {avs : List AV} {xs : List Value} {w : World} {σ : Nat → Int} [GlOk cf.gl w] (hover : ∀ call, CallOk G w cf call → CallOk G w cf (over call)) (hcf : cf.ok σ) (hx : VRs ⟨σ, fun _ => none⟩ avs xs)
    (h : yes (runC G cf T over fuel d f avs) = true) (hX : XOk w σ := by exact XOk.none rfl) : Calls G f xs.toArray w fun e w' => e = .returned (.bool true) ∧ Below w.heap.size w w' := by
  have hc := (bothC_ok (W0 := w) hT (fun call h => drawK_ok hm h) hover fuel d).1 f avs ⟨P.h, PT.e⟩ ⟨σ, fun _ => none⟩ w xs hcf (HR.start w σ hX) hx
  unfold yes at h
  unfold runC at h
  split at h
  · rename_i b H' hr
    rw [hr] at hc
    refine Calls.mono hc ?_
    rintro e w' ⟨E', x, rfl, mv, hv⟩
    cases hv
    exact ⟨by rw [h], mv.hr.below.toBelow⟩
  · cases h
/-- what a run gives -/
noncomputable def isRet (v : AV) (r : KR) : Bool := match r with
  | .ret u _ => AV.same u v
  | _ => false
theorem soundV (hm : G.follows .mixedOrders = true) {T : PT CFn} (hT : TabOk G T) {over : CallF → CallF} {cf : Cf} {fuel d : Nat} {f : FuncId} {avs : List AV} {xs : List Value} {w : World} {σ : Nat → Int} {v : AV} [GlOk cf.gl w] (hover : ∀ call, CallOk G w cf call → CallOk G w cf (over call)) (hcf : cf.ok σ) (hx : VRs ⟨σ, fun _ => none⟩ avs xs)
    (h : isRet v (runC G cf T over fuel d f avs) = true) (hX : XOk w σ := by exact XOk.none rfl) : Calls G f xs.toArray w fun e w' => ∃ E x, e = .returned x ∧ E.σ = σ ∧ VR E v x ∧ Below w.heap.size w w' := by
  have hc := (bothC_ok (W0 := w) hT (fun call h => drawK_ok hm h) hover fuel d).1 f avs ⟨P.h, PT.e⟩ ⟨σ, fun _ => none⟩ w xs hcf (HR.start w σ hX) hx
  unfold isRet at h
  unfold runC at h
  split at h
  · rename_i u H' hr
    rw [hr] at hc
    have := same_eq h
    subst this
    refine Calls.mono hc ?_
    rintro e w' ⟨E', x, rfl, mv, hv⟩
    exact ⟨E', x, rfl, mv.le.1, hv, mv.hr.below.toBelow⟩
  · cases h
/-- what is known of a function without memory: taken as a fact -/
def FactOk (G : Program) (cf : Cf) (g : Nat) (rule : List AV → Option AV) : Prop := ∀ (args : List AV) (v : AV), rule args = some v → ∀ (E : Env) (xs : List Value), cf.ok E.σ → VRs E args xs → ∀ w : World, Calls G g xs.toArray w fun e w' => ∃ x, e = .returned x ∧ VR E v x ∧ Below w.heap.size w w'
noncomputable def overF (g : Nat) (rule : List AV → Option AV) (call : CallF) : CallF := fun f args H => Bool.rec (call f args H) (Option.rec (call f args H) (fun v => .ret v H) (rule args)) (Nat.beq f g)
theorem overF_ok {cf : Cf} {g : Nat} {rule : List AV → Option AV} (ha : FactOk G cf g rule) {call : CallF} (hc : CallOk G W0 cf call) : CallOk G W0 cf (overF g rule call) := by
  intro f args H E w xs hcf hr hx
  unfold overF
  cases hb : Nat.beq f g with
  | false => exact hc f args H E w xs hcf hr hx
  | true =>
    have hb := Nat.eq_of_beq_eq_true hb
    subst hb
    cases hru : rule args with
    | none => exact hc f args H E w xs hcf hr hx
    | some v =>
      exact Calls.mono (ha args v hru E xs hcf hx w) (fun e w' h => by
        obtain ⟨x, h1, h2, h3⟩ := h
        exact ⟨E, x, h1, Mv.below hr h3, h2⟩)
/-- a table out of a list -/
noncomputable def tabOf (l : List (Nat × CFn)) : PT CFn := List.rec .e (fun x _ ih => PT.put (P.of x.1) ih (some x.2)) l
theorem tabOf_ok : ∀ {l : List (Nat × CFn)}, (∀ x ∈ l, okF G x.1 x.2 = true) → TabOk G (tabOf l)
  | [], _ => fun f x e => by rw [show tabOf [] = PT.e from rfl, PT.get_e] at e; cases e
  | y :: l, h => fun f x e => by
    have e' : PT.get (P.of f) (PT.put (P.of y.1) (tabOf l) (some y.2)) = some x := e
    by_cases hy : y.1 = f
    · subst hy
      rw [PT.get_put_same] at e'
      cases e'
      exact h y (List.mem_cons_self ..)
    · rw [PT.get_put_other (fun e => hy (P.of_inj e))] at e'
      exact tabOf_ok (fun x hx => h x (List.mem_cons_of_mem _ hx)) f x e'
end
end Go.Ai

/- A call whose outcome is shown apart (overM), and a call that is reckoned class by class, its outcomes brought together (overJ). -/
namespace Go.Ai
open Go Go.RowKit
set_option linter.unusedVariables false
/-! ### a value below another one: all that it may be, the other may be -/
noncomputable def siLe (cf : Cf) (x y : SI) : Bool := match SI.beq x y with
  | true => true
  | false => match cmpO cf .eql x y with
    | some true => true
    | _ => false
theorem siLe_ok {cf : Cf} {σ : Nat → Int} (hcf : cf.ok σ) {x y : SI} (h : siLe cf x y = true) : x.ev σ = y.ev σ := by
  unfold siLe at h
  split at h
  · rename_i hb; rw [SI.beq_eq hb]
  · split at h
    · rename_i hc
      have := cmpO_ok hcf hc
      simpa [cmpVal] using this
    · cases h
noncomputable def AV.leN (cf : Cf) (n : Nat) : AV → AV → Bool :=
  Nat.rec (fun _ _ => false) (fun _ ih v u => match u with
    | .top => true
    | .int k y => match v with
      | .int k' x => match kbeq k' k with
        | true => siLe cf x y
        | false => false
      | _ => false
    | .tup b => match v with
      | .tup a => listBeq ih a b
      | _ => false
    | .agg b => match v with
      | .agg a => listBeq ih a b
      | _ => false
    | u => AV.same v u) n
noncomputable def AV.le (cf : Cf) (v u : AV) : Bool := AV.leN cf 6 v u
theorem listBeq_vrs {E : Env} {f : AV → AV → Bool} (hf : ∀ {a b : AV} {x : Value}, f a b = true → VR E a x → VR E b x) : ∀ {as bs : List AV} {xs : List Value}, listBeq f as bs = true → VRs E as xs → VRs E bs xs
  | [], [], _, _, h => h
  | [], _ :: _, _, h, _ => by cases h
  | _ :: _, [], _, h, _ => by cases h
  | a :: as, b :: bs, xs, h, hx => by
    have h' : (Bool.rec false (listBeq f as bs) (f a b) : Bool) = true := h
    cases hab : f a b with
    | false => rw [hab] at h'; cases h'
    | true =>
      rw [hab] at h'
      cases hx with
      | cons h1 h2 => exact .cons (hf hab h1) (listBeq_vrs hf h' h2)
theorem leN_succ (cf : Cf) (n : Nat) (v u : AV) : AV.leN cf (n + 1) v u = (match u with
    | .top => true
    | .int k y => match v with
      | .int k' x => match kbeq k' k with
        | true => siLe cf x y
        | false => false
      | _ => false
    | .tup b => match v with
      | .tup a => listBeq (AV.leN cf n) a b
      | _ => false
    | .agg b => match v with
      | .agg a => listBeq (AV.leN cf n) a b
      | _ => false
    | u => AV.same v u) := rfl
theorem leN_ok {cf : Cf} {E : Env} (hcf : cf.ok E.σ) : ∀ (n : Nat) {v u : AV} {x : Value}, AV.leN cf n v u = true → VR E v x → VR E u x := by
  intro n
  induction n with
  | zero => intro v u x h _; cases h
  | succ n ih =>
    intro v u x h hv
    rw [leN_succ] at h
    split at h
    · exact .top x
    · split at h
      · split at h
        · rename_i hk
          have hk := (kbeq_iff _ _).1 hk
          subst hk
          cases hv
          rw [siLe_ok hcf h]
          exact .int _ _
        · cases h
      · cases h
    · split at h
      · cases hv with
        | tup hs => exact .tup (listBeq_vrs (fun h hx => ih h hx) h hs)
      · cases h
    · split at h
      · cases hv with
        | agg hs => exact .agg (listBeq_vrs (fun h hx => ih h hx) h hs)
      · cases h
    · rw [← same_eq h]; exact hv
theorem le_ok {cf : Cf} {E : Env} (hcf : cf.ok E.σ) {v u : AV} {x : Value} (h : AV.le cf v u = true) (hv : VR E v x) : VR E u x := leN_ok hcf 6 h hv
/-! ### blocks -/
noncomputable def AObj.le (cf : Cf) (o u : AObj) : Bool := match o, u with
  | .cells cs ty b, .cells cs' ty' b' => match Nat.beq ty ty', bbeq b b' with
    | true, true => listBeq (AV.le cf) cs cs'
    | _, _ => false
  | .map es c, .map es' c' => match Nat.beq c c' with
    | true => listBeq (fun x y => match AV.le cf x.1 y.1, AV.le cf x.2.1 y.2.1, Nat.beq x.2.2 y.2.2 with | true, true, true => true | _, _, _ => false) es es'
    | false => false
  | .defd, .defd => true
  | .gone, .gone => true
  | .chan a, .chan b => bbeq a b
  | .garr a n tl ty, .garr a' n' tl' ty' => match Nat.beq a a', Nat.beq ty ty', listBeq eqI tl tl' with
    | true, true, true => siLe cf n n'
    | _, _, _ => false
  | .strIter s p, .strIter s' p' => match Nat.beq p p' with
    | true => listBeq SI.beq s s'
    | false => false
  | .mapIter (some m) a l b, .mapIter (some m') a' l' b' => match P.beq m m', Nat.beq a a', listBeq Nat.beq l l' with
    | true, true, true => Nat.beq b b'
    | _, _, _ => false
  | .mapIter none a l b, .mapIter none a' l' b' => match Nat.beq a a', listBeq Nat.beq l l' with
    | true, true => Nat.beq b b'
    | _, _ => false
  | _, _ => false
theorem listBeq_mrs {cf : Cf} {E : Env} (hcf : cf.ok E.σ) : ∀ {es es' : List (AV × AV × Nat)} {fs : List MapEntry}, listBeq (fun x y => match AV.le cf x.1 y.1, AV.le cf x.2.1 y.2.1, Nat.beq x.2.2 y.2.2 with | true, true, true => true | _, _, _ => false) es es' = true → MRs E es fs → MRs E es' fs
  | [], [], _, _, h => h
  | [], _ :: _, _, h, _ => by cases h
  | _ :: _, [], _, h, _ => by cases h
  | a :: as, b :: bs, xs, h, hx => by
    have h' : (Bool.rec false (listBeq (fun x y => match AV.le cf x.1 y.1, AV.le cf x.2.1 y.2.1, Nat.beq x.2.2 y.2.2 with | true, true, true => true | _, _, _ => false) as bs) (match AV.le cf a.1 b.1, AV.le cf a.2.1 b.2.1, Nat.beq a.2.2 b.2.2 with | true, true, true => true | _, _, _ => false) : Bool) = true := h
    cases hab : (match AV.le cf a.1 b.1, AV.le cf a.2.1 b.2.1, Nat.beq a.2.2 b.2.2 with | true, true, true => true | _, _, _ => false : Bool) with
    | false => rw [hab] at h'; cases h'
    | true =>
      rw [hab] at h'
      split at hab
      · rename_i h1 h2 h3
        cases hx with
        | cons k1 k2 k3 k4 => exact .cons (le_ok hcf h1 k1) (le_ok hcf h2 k2) (by rw [k3]; exact Nat.eq_of_beq_eq_true h3) (listBeq_mrs hcf h' k4)
      · cases hab
def ObLe (σ : Nat → Int) (o u : AObj) : Prop := ∀ (G : Program) (E : Env) (c : Nat) (ob : Obj), E.σ = σ → OR G E c o ob → OR G E c u ob
theorem ole_ok {cf : Cf} {σ : Nat → Int} (hcf : cf.ok σ) {o u : AObj} (h : AObj.le cf o u = true) : ObLe σ o u := by
  intro G E c ob hσ ho
  subst hσ
  unfold AObj.le at h
  split at h
  · split at h
    · rename_i h1 h2
      have h1 := Nat.eq_of_beq_eq_true h1
      have h2 := bbeq_eq h2
      subst h1 h2
      cases ho with
      | cells a b d e f => exact .cells (listBeq_vrs (fun h hx => le_ok hcf h hx) h a) b d e f
    · cases h
  · split at h
    · rename_i h1
      have h1 := Nat.eq_of_beq_eq_true h1
      subst h1
      cases ho with
      | map a => exact .map (listBeq_mrs hcf h a)
    · cases h
  · exact ho
  · exact ho
  · rw [← bbeq_eq h]; exact ho
  · split at h
    · rename_i h1 h2 h3
      rw [← Nat.eq_of_beq_eq_true h1, ← Nat.eq_of_beq_eq_true h2, ← listBeq_eq (fun _ _ h => by rw [eqI_eq] at h; exact of_decide_eq_true h) h3]
      cases ho with
      | garr a b => exact .garr (by rw [← siLe_ok hcf h]; exact a) (by rw [← siLe_ok hcf h]; exact b)
    · cases h
  · split at h
    · rename_i h1
      rw [← Nat.eq_of_beq_eq_true h1, ← listBeq_eq (fun _ _ h => SI.beq_eq h) h]; exact ho
    · cases h
  · split at h
    · rename_i h1 h2 h3
      rw [← pbeq_eq h1, ← Nat.eq_of_beq_eq_true h2, ← listBeq_eq (fun _ _ h => Nat.eq_of_beq_eq_true h) h3, ← Nat.eq_of_beq_eq_true h]; exact ho
    · cases h
  · split at h
    · rename_i h2 h3
      rw [← Nat.eq_of_beq_eq_true h2, ← listBeq_eq (fun _ _ h => Nat.eq_of_beq_eq_true h) h3, ← Nat.eq_of_beq_eq_true h]; exact ho
    · cases h
  · cases h
section
variable {G : Program} {W0 : World} {E : Env} {nx : Nat} {w : World} {cf : Cf}
/-- blocks that say less -/
theorem HR.weak {H H' : P → Option AObj} (h : HR G W0 E H nx w) (hs : ∀ l o, H' l = some o → ∃ o', H l = some o' ∧ ObLe E.σ o' o) : HR G W0 E H' nx w :=
  ⟨h.below, h.dom, fun l o e => by
    obtain ⟨o', h1, h2⟩ := hs l o e
    obtain ⟨b, c, ob, e1, e2, e3, e4⟩ := h.obj l o' h1
    exact ⟨b, c, ob, e1, e2, e3, h2 _ _ _ _ rfl e4⟩, fun l l' o o' b c c' e1 e2 e3 e4 => by
    obtain ⟨o1, h1, _⟩ := hs l o e1
    obtain ⟨o2, h2, _⟩ := hs l' o' e2
    exact h.inj _ _ _ _ _ _ _ h1 h2 e3 e4⟩
theorem Mv.weak {H H' H'' : P → Option AObj} {nx' nx'' : Nat} {w' : World} {E' : Env} (h : Mv G W0 E H nx w E' H' nx' w') (hs : ∀ l o, H'' l = some o → ∃ o', H' l = some o' ∧ ObLe E.σ o' o) (hle : nx' ≤ nx'') : Mv G W0 E H nx w E' H'' nx'' w' :=
  have h2 := h.hr.weak (fun l o e => by rw [h.le.1]; exact hs l o e)
  ⟨h.le, ⟨h2.below, fun l x e => Nat.lt_of_lt_of_le (h2.dom l x e) hle, h2.obj, h2.inj⟩, Nat.le_trans h.up hle, h.sz, h.fr, fun l o b c e1 e2 => by
    obtain ⟨o', h1, _⟩ := hs l o e1
    exact h.own l o' b c h1 e2, h.nw⟩
/-! ### a call reckoned class by class, the outcomes brought together -/
noncomputable def zipJ (f : AV → AV → AV) (as : List AV) : List AV → List AV :=
  List.rec (fun _ => []) (fun a _ ih bs => List.casesOn bs [] (fun b t => f a b :: ih t)) as
noncomputable def joinN (n : Nat) : AV → AV → AV :=
  Nat.rec (fun _ _ => .top) (fun _ ih a b => match AV.same a b with
    | true => a
    | false => match a, b with
      | .tup as, .tup bs => match Nat.beq (lenL as) (lenL bs) with
        | true => .tup (zipJ ih as bs)
        | false => .top
      | .agg as, .agg bs => match Nat.beq (lenL as) (lenL bs) with
        | true => .agg (zipJ ih as bs)
        | false => .top
      | _, _ => .top) n
theorem zipJ_l {f : AV → AV → AV} (hf : ∀ {a b : AV} {x : Value}, VR E a x → VR E (f a b) x) : ∀ {as bs : List AV} {xs : List Value}, as.length = bs.length → VRs E as xs → VRs E (zipJ f as bs) xs
  | [], [], _, _, h => h
  | [], _ :: _, _, h, _ => by simp at h
  | _ :: _, [], _, h, _ => by simp at h
  | a :: as, b :: bs, xs, h, hx => by
    cases hx with
    | cons h1 h2 => exact .cons (hf h1) (zipJ_l hf (by simpa using h) h2)
theorem zipJ_r {f : AV → AV → AV} (hf : ∀ {a b : AV} {x : Value}, VR E b x → VR E (f a b) x) : ∀ {as bs : List AV} {xs : List Value}, as.length = bs.length → VRs E bs xs → VRs E (zipJ f as bs) xs
  | [], [], _, _, h => h
  | [], _ :: _, _, h, _ => by simp at h
  | _ :: _, [], _, h, _ => by simp at h
  | a :: as, b :: bs, xs, h, hx => by
    cases hx with
    | cons h1 h2 => exact .cons (hf h1) (zipJ_r hf (by simpa using h) h2)
theorem joinN_succ (n : Nat) (a b : AV) : joinN (n + 1) a b = (match AV.same a b with
    | true => a
    | false => match a, b with
      | .tup as, .tup bs => match Nat.beq (lenL as) (lenL bs) with
        | true => .tup (zipJ (joinN n) as bs)
        | false => .top
      | .agg as, .agg bs => match Nat.beq (lenL as) (lenL bs) with
        | true => .agg (zipJ (joinN n) as bs)
        | false => .top
      | _, _ => .top) := rfl
theorem joinN_ok : ∀ (n : Nat), (∀ {a b : AV} {x : Value}, VR E a x → VR E (joinN n a b) x) ∧ (∀ {a b : AV} {x : Value}, VR E b x → VR E (joinN n a b) x) := by
  intro n
  induction n with
  | zero => exact ⟨fun _ => .top _, fun _ => .top _⟩
  | succ n ih =>
    constructor
    · intro a b x h
      rw [joinN_succ]
      split
      · exact h
      · split
        · split
          · rename_i hl
            have hl := Nat.eq_of_beq_eq_true hl
            rw [lenL_eq, lenL_eq] at hl
            cases h with
            | tup hs => exact .tup (zipJ_l ih.1 hl hs)
          · exact .top _
        · split
          · rename_i hl
            have hl := Nat.eq_of_beq_eq_true hl
            rw [lenL_eq, lenL_eq] at hl
            cases h with
            | agg hs => exact .agg (zipJ_l ih.1 hl hs)
          · exact .top _
        · exact .top _
    · intro a b x h
      rw [joinN_succ]
      split
      · rename_i hs
        rw [same_eq hs]; exact h
      · split
        · split
          · rename_i hl
            have hl := Nat.eq_of_beq_eq_true hl
            rw [lenL_eq, lenL_eq] at hl
            cases h with
            | tup hs => exact .tup (zipJ_r ih.2 hl hs)
          · exact .top _
        · split
          · rename_i hl
            have hl := Nat.eq_of_beq_eq_true hl
            rw [lenL_eq, lenL_eq] at hl
            cases h with
            | agg hs => exact .agg (zipJ_r ih.2 hl hs)
          · exact .top _
        · exact .top _
/-- each block of a table lies in another one, saying no less -/
noncomputable def subT (cf : Cf) (t : PT AObj) : PT AObj → Bool :=
  PT.rec (fun _ => true) (fun _ v _ ihl ihr t' => PT.casesOn t' (Option.rec (match ihl .e with | true => ihr .e | false => false) (fun _ => false) v)
    (fun l' v' r' => match (Option.rec true (fun o => Option.rec false (fun o' => AObj.le cf o' o) v') v : Bool) with
      | true => (match ihl l' with | true => ihr r' | false => false)
      | false => false)) t
theorem subT_ok {cf : Cf} {σ : Nat → Int} (hcf : cf.ok σ) : ∀ {t t' : PT AObj}, subT cf t t' = true → ∀ {q : P} {o : AObj}, PT.get q t = some o → ∃ o', PT.get q t' = some o' ∧ ObLe σ o' o := by
  intro t
  induction t with
  | e => intro t' _ q o h; rw [PT.get_e] at h; cases h
  | n l v r ihl ihr =>
    intro t' h q o hq
    cases t' with
    | e =>
      have h' : (Option.rec (match subT cf l .e with | true => subT cf r .e | false => false) (fun _ => false) v : Bool) = true := h
      cases v with
      | some o => cases h'
      | none =>
        have h2 : (match subT cf l .e with | true => subT cf r .e | false => false) = true := h'
        split at h2
        · rename_i hl
          cases q with
          | h => cases hq
          | o q => obtain ⟨o', h1, _⟩ := ihl hl (q := q) (o := o) hq; rw [PT.get_e] at h1; cases h1
          | i q => obtain ⟨o', h1, _⟩ := ihr h2 (q := q) (o := o) hq; rw [PT.get_e] at h1; cases h1
        · cases h2
    | n l' v' r' =>
      have h' : (match (Option.rec true (fun o => Option.rec false (fun o' => AObj.le cf o' o) v') v : Bool) with
      | true => (match subT cf l l' with | true => subT cf r r' | false => false)
      | false => false) = true := h
      split at h'
      · rename_i hv
        split at h'
        · rename_i hl
          cases q with
          | h =>
            have hq' : v = some o := hq
            subst hq'
            cases v' with
            | none => cases hv
            | some o' => exact ⟨o', rfl, ole_ok hcf hv⟩
          | o q => exact ihl hl (q := q) (o := o) hq
          | i q => exact ihr h' (q := q) (o := o) hq
        · cases h'
      · cases h'
/-- loops are left aside: what a call does not see it does not turn -/
def noLoop (v : Option AObj) : Option AObj := match v with
  | some (.loop ..) => none
  | v => v
noncomputable def filtF (t : PT AObj) : PT AObj := PT.rec .e (fun _ v _ l r => .n l (noLoop v) r) t
noncomputable def filtK {R : Type} (t : PT AObj) : (PT AObj → R) → R := PT.rec (fun k => k .e) (fun _ v _ ihl ihr k => ihl (fun l => ihr (fun r => Option.rec (k (.n l none r)) (fun o => k (.n l (some o) r)) (noLoop v)))) t
theorem filtK_eq {R : Type} : ∀ (t : PT AObj) (k : PT AObj → R), filtK t k = k (filtF t)
  | .e, k => rfl
  | .n l v r, k => by
    show filtK l (fun l => filtK r (fun r => Option.rec (k (.n l none r)) (fun o => k (.n l (some o) r)) (noLoop v))) = k (.n (filtF l) (noLoop v) (filtF r))
    rw [filtK_eq l, filtK_eq r]
    cases noLoop v <;> rfl
theorem filtF_get : ∀ {t : PT AObj} {q : P} {o : AObj}, PT.get q (filtF t) = some o → PT.get q t = some o
  | .e, q, o, h => by rw [show filtF .e = PT.e from rfl, PT.get_e] at h; cases h
  | .n l v r, q, o, h => by
    have h' : PT.get q (.n (filtF l) (noLoop v) (filtF r)) = some o := h
    cases q with
    | h =>
      have h2 : noLoop v = some o := h'
      show v = some o
      unfold noLoop at h2
      split at h2
      · cases h2
      · exact h2
    | o q => exact filtF_get (t := l) (q := q) h'
    | i q => exact filtF_get (t := r) (q := q) h'
theorem Mv.unloop {H : Hp} {E' : Env} {w' : World} {nx' : Nat} {H1 : P → Option AObj} (hr : HR G W0 E H.f nx w) (mv : Mv G W0 E (fun l => PT.get l (filtF H.tab)) nx w E' H1 nx' w') (hs : ∀ l o, PT.get l (filtF H.tab) = some o → ∃ o', H1 l = some o' ∧ ObLe E.σ o' o) : Mv G W0 E H.f nx w E' H.f nx' w' := by
  classical
  have mv2 := mv.weak hs (Nat.le_refl _)
  have mvU := Mv.frame hr (fun l o h => filtF_get h) mv2 (fun l => PT.get l (filtF H.tab) = none) (fun l h => h)
  refine mvU.drop (fun l o hl => ?_)
  by_cases hX : PT.get l (filtF H.tab) = none
  · rw [if_pos hX]; exact hl
  · rw [if_neg hX]
    cases h0 : PT.get l (filtF H.tab) with
    | none => exact absurd h0 hX
    | some o' =>
      have := filtF_get h0
      rw [show H.f l = PT.get l H.tab from rfl, this] at hl
      exact hl
noncomputable def P.ble (p q : P) : Bool := Nat.ble p.toNat q.toNat
noncomputable def maxP (p q : P) : P := Bool.rec p q (P.ble p q)
theorem maxP_l (p q : P) : p.toNat ≤ (maxP p q).toNat := by
  unfold maxP
  cases h : P.ble p q with
  | false => exact Nat.le_refl _
  | true => exact Nat.le_of_ble_eq_true h
theorem maxP_r (p q : P) : q.toNat ≤ (maxP p q).toNat := by
  unfold maxP
  cases h : P.ble p q with
  | true => exact Nat.le_refl _
  | false =>
    have : ¬ p.toNat ≤ q.toNat := fun hle => by
      have := Nat.ble_eq_true_of_le hle
      rw [show P.ble p q = Nat.ble p.toNat q.toNat from rfl, this] at h; cases h
    show q.toNat ≤ p.toNat
    omega
noncomputable def joinA (a : Option (AV × P)) (v : AV) (p : P) : AV × P := match a with
  | none => (v, p)
  | some (u, q) => (joinN 6 u v, maxP q p)
noncomputable def joinK (cf : Cf) (T : PT AObj) (H : Hp) (rs : List KR) : Option (AV × P) → KR :=
  List.rec (fun a => match a with | some (u, p) => .ret u ⟨p, H.tab⟩ | none => .err 301) (fun r _ ih a => match r with
    | .ret v H' => match subT cf T H'.tab with
      | true => ih (some (joinA a v H'.nx))
      | false => .err 302
    | .pan _ _ => .err 303
    | .err k => .err k) rs
theorem joinK_cons (cf : Cf) (T : PT AObj) (H : Hp) (r : KR) (rs : List KR) (a : Option (AV × P)) : joinK cf T H (r :: rs) a = (match r with
    | .ret v H' => match subT cf T H'.tab with
      | true => joinK cf T H rs (some (joinA a v H'.nx))
      | false => .err 302
    | .pan _ _ => .err 303
    | .err k => .err k) := rfl
theorem joinK_acc {cf : Cf} {T : PT AObj} {H : Hp} {v : AV} {p : P} : ∀ (rs : List KR) (a : Option (AV × P)) {u : AV} {H' : Hp}, joinK cf T H rs a = .ret u H' → H'.tab = H.tab ∧ ∀ u0 q0, a = some (u0, q0) → (∀ {E : Env} {x : Value}, VR E u0 x → VR E u x) ∧ q0.toNat ≤ H'.nx.toNat
  | [], a, u, H', h => by
    cases a with
    | none => cases h
    | some a =>
      cases h
      exact ⟨rfl, fun u0 q0 e => by cases e; exact ⟨fun h => h, Nat.le_refl _⟩⟩
  | r :: rs, a, u, H', h => by
    have h' := h
    rw [joinK_cons] at h'
    clear h
    split at h'
    · split at h'
      · obtain ⟨h1, h2⟩ := joinK_acc (cf := cf) (T := T) (H := H) (v := v) (p := p) rs _ h'
        refine ⟨h1, fun u0 q0 e => ?_⟩
        subst e
        obtain ⟨k1, k2⟩ := h2 _ _ rfl
        exact ⟨fun h => k1 ((joinN_ok 6).1 h), Nat.le_trans (maxP_l _ _) k2⟩
      · cases h'
    · cases h'
    · cases h'
theorem joinK_mem {cf : Cf} {T : PT AObj} {H : Hp} : ∀ {rs : List KR} {a : Option (AV × P)} {u : AV} {H' : Hp} {r : KR}, joinK cf T H rs a = .ret u H' → r ∈ rs → ∃ v H1, r = .ret v H1 ∧ subT cf T H1.tab = true ∧ (∀ {E : Env} {x : Value}, VR E v x → VR E u x) ∧ H1.nx.toNat ≤ H'.nx.toNat
  | [], a, u, H', r, h, hm => by cases hm
  | r0 :: rs, a, u, H', r, h, hm => by
    have h' := h
    rw [joinK_cons] at h'
    clear h
    split at h'
    · rename_i v1 H1
      split at h'
      · rename_i hs
        rcases List.mem_cons.1 hm with rfl | hm
        · obtain ⟨_, h2⟩ := joinK_acc (v := u) (p := H'.nx) rs _ h'
          obtain ⟨k1, k2⟩ := h2 _ _ rfl
          refine ⟨v1, H1, rfl, hs, fun h => k1 ?_, Nat.le_trans ?_ k2⟩
          · cases a with
            | none => exact h
            | some a => exact (joinN_ok 6).2 h
          · cases a with
            | none => exact Nat.le_refl _
            | some a => exact maxP_r _ _
        · exact joinK_mem h' hm
      · cases h'
    · cases h'
    · cases h'
theorem joinK_tab {cf : Cf} {T : PT AObj} {H : Hp} {rs : List KR} {a : Option (AV × P)} {u : AV} {H' : Hp} (h : joinK cf T H rs a = .ret u H') : H'.tab = H.tab := (joinK_acc (v := u) (p := H'.nx) rs a h).1
theorem joinK_pan {cf : Cf} {T : PT AObj} {H : Hp} : ∀ {rs : List KR} {a : Option (AV × P)} {v : AV} {H' : Hp}, joinK cf T H rs a ≠ .pan v H'
  | [], a, v, H', h => by
    cases a with
    | none => cases h
    | some a => cases h
  | r :: rs, a, v, H', h => by
    have h' := h
    rw [joinK_cons] at h'
    clear h
    split at h'
    · split at h'
      · exact joinK_pan h'
      · cases h'
    · cases h'
    · cases h'
/-- pieces of a range -/
noncomputable def pieces (hi : Int) (cuts : List Int) : Int → List (Int × Int) := List.rec (fun lo => [(lo, hi)]) (fun c _ ih lo => (lo, c - 1) :: ih c) cuts
theorem pieces_ok {hi n : Int} (h2 : n ≤ hi) : ∀ (cuts : List Int) {lo : Int}, lo ≤ n → ∃ a b, (a, b) ∈ pieces hi cuts lo ∧ a ≤ n ∧ n ≤ b
  | [], lo, h => ⟨lo, hi, List.mem_cons_self .., h, h2⟩
  | c :: cs, lo, h => by
    by_cases hc : n < c
    · exact ⟨lo, c - 1, List.mem_cons_self .., h, by omega⟩
    · obtain ⟨a, b, h1, h3⟩ := pieces_ok h2 cs (lo := c) (by omega)
      exact ⟨a, b, List.mem_cons_of_mem _ h1, h3⟩
noncomputable def addIv (cf : Cf) (e : SI) (lo hi : Int) : Cf := ⟨cf.rw, cf.cmp, (e, lo, hi) :: cf.iv, cf.oth, cf.gl⟩
theorem addIv_ok {σ : Nat → Int} (h : cf.ok σ) {e : SI} {lo hi : Int} (h1 : lo ≤ e.ev σ) (h2 : e.ev σ ≤ hi) : (addIv cf e lo hi).ok σ :=
  ⟨h.1, h.2.1, fun a l u hm => by
    rcases List.mem_cons.1 hm with e1 | hm
    · cases e1; exact ⟨h1, h2⟩
    · exact h.2.2.1 a l u hm, h.2.2.2⟩
/-- the first unknown number within, of those that are to be cut -/
noncomputable def findE (p : SI → Bool) (n : Nat) : List AV → Option SI :=
  Nat.rec (fun _ => none) (fun _ rec l => List.rec none (fun a _ ih => match a with
    | .int _ e => (match e with
      | .lit _ => ih
      | e => Bool.rec ih (some e) (p e))
    | .agg cs => Option.rec ih some (rec cs)
    | _ => ih) l) n
noncomputable def inner (cuts : List Int) (lo hi : Int) : List Int := List.rec [] (fun c _ ih => match ltI lo c, ltI hi c with
  | true, false => c :: ih
  | _, _ => ih) cuts
noncomputable def cutsE (cf : Cf) (cuts : List Int) (e : SI) : Bool := match bnd cf.iv e with
  | some (lo, hi) => (match inner cuts lo hi with | [] => false | _ => true)
  | none => false
noncomputable def overJ (cf : Cf) (g : Nat) (cuts : List Int) (calls : SI → Int → Int → CallF) (call : CallF) : CallF := fun f args H => Bool.rec (call f args H) (match findE (cutsE cf cuts) 3 args with
  | some e => match bnd cf.iv e with
    | some (lo, hi) => filtK H.tab (fun T => joinK cf T H (mapL (fun x => calls e x.1 x.2 f args ⟨H.nx, T⟩) (pieces hi (inner cuts lo hi) lo)) none)
    | none => call f args H
  | none => call f args H) (Nat.beq f g)
theorem overJ_ok {g : Nat} {cuts : List Int} {calls : SI → Int → Int → CallF} (hcs : ∀ e lo hi, CallOk G W0 (addIv cf e lo hi) (calls e lo hi)) {call : CallF} (hc : CallOk G W0 cf call) : CallOk G W0 cf (overJ cf g cuts calls call) := by
  intro f args H E w xs hcf hr hx
  unfold overJ
  cases hb : Nat.beq f g with
  | false => exact hc f args H E w xs hcf hr hx
  | true =>
    simp only
    split
    · rename_i e _
      split
      · rename_i lo hi hbd
        obtain ⟨h1, h2⟩ := bnd_ok hcf.2.2.1 e hbd
        obtain ⟨a, b, hm, k1, k2⟩ := pieces_ok h2 (inner cuts lo hi) h1
        rw [filtK_eq]
        have hr0 : HR G W0 E (Hp.mk H.nx (filtF H.tab)).f H.nx.toNat w := hr.drop (fun l o h => filtF_get h)
        have hcall := hcs e a b f args ⟨H.nx, filtF H.tab⟩ E w xs (addIv_ok hcf k1 k2) hr0 hx
        have hmem : calls e a b f args ⟨H.nx, filtF H.tab⟩ ∈ mapL (fun x => calls e x.1 x.2 f args ⟨H.nx, filtF H.tab⟩) (pieces hi (inner cuts lo hi) lo) := by
          rw [mapL_eq]
          exact List.mem_map.2 ⟨(a, b), hm, rfl⟩
        cases hj : joinK cf (filtF H.tab) H (mapL (fun x => calls e x.1 x.2 f args ⟨H.nx, filtF H.tab⟩) (pieces hi (inner cuts lo hi) lo)) none with
        | err k => trivial
        | pan v H' => exact (joinK_pan hj).elim
        | ret u H' =>
          obtain ⟨v, H1, hr1, hs, hv, hn⟩ := joinK_mem hj hmem
          have ht := joinK_tab hj
          rw [hr1] at hcall
          refine Calls.mono hcall ?_
          rintro e w' ⟨E', x, rfl, mv, hvx⟩
          have mv1 : Mv G W0 E H.f H.nx.toNat w E' H.f H1.nx.toNat w' := Mv.unloop hr mv (fun l o h => subT_ok hcf hs h)
          refine ⟨E', x, rfl, mv1.weak (fun l o hl => ?_) hn, hv hvx⟩
          have hl' : PT.get l H'.tab = some o := hl
          rw [ht] at hl'
          exact ⟨o, hl', fun _ _ _ _ _ h => h⟩
      · exact hc f args H E w xs hcf hr hx
    · exact hc f args H E w xs hcf hr hx
/-- the same where what is cut is told -/
noncomputable def splitL (leaf : Cf → KR) (es : List (SI × List Int)) : Cf → List KR :=
  List.rec (fun cf => [leaf cf]) (fun x _ ih cf => match bnd cf.iv x.1 with
    | some (lo, hi) => List.rec [] (fun y _ rest => ih (addIv cf x.1 y.1 y.2) ++ rest) (pieces hi (inner x.2 lo hi) lo)
    | none => ih cf) es
theorem splitL_ok {leaf : Cf → KR} {σ : Nat → Int} : ∀ (es : List (SI × List Int)) (cf : Cf), cf.ok σ → ∃ cf', cf'.ok σ ∧ cf'.rw = cf.rw ∧ cf'.gl = cf.gl ∧ leaf cf' ∈ splitL leaf es cf
  | [], cf, h => ⟨cf, h, rfl, rfl, List.mem_cons_self ..⟩
  | x :: es, cf, h => by
    have e : splitL leaf (x :: es) cf = (match bnd cf.iv x.1 with
      | some (lo, hi) => List.rec [] (fun y _ rest => splitL leaf es (addIv cf x.1 y.1 y.2) ++ rest) (pieces hi (inner x.2 lo hi) lo)
      | none => splitL leaf es cf) := rfl
    rw [e]
    split
    · rename_i lo hi hbd
      obtain ⟨h1, h2⟩ := bnd_ok h.2.2.1 x.1 hbd
      obtain ⟨a, b, hm, k1, k2⟩ := pieces_ok h2 (inner x.2 lo hi) h1
      obtain ⟨cf', g1, g2, g3, g4⟩ := splitL_ok (leaf := leaf) es (addIv cf x.1 a b) (addIv_ok h k1 k2)
      refine ⟨cf', g1, g2, g3, ?_⟩
      have go : ∀ ps : List (Int × Int), (a, b) ∈ ps → leaf cf' ∈ (List.rec [] (fun y _ rest => splitL leaf es (addIv cf x.1 y.1 y.2) ++ rest) ps : List KR) := by
        intro ps
        induction ps with
        | nil => intro hm; cases hm
        | cons y ps ih =>
          intro hm
          show leaf cf' ∈ splitL leaf es (addIv cf x.1 y.1 y.2) ++ _
          rcases List.mem_cons.1 hm with rfl | hm
          · exact List.mem_append_left _ g4
          · exact List.mem_append_right _ (ih hm)
      exact go _ hm
    · exact splitL_ok es cf h
noncomputable def overS (cf : Cf) (g : Nat) (es : List (SI × List Int)) (calls : Cf → CallF) (call : CallF) : CallF := fun f args H => Bool.rec (call f args H) (filtK H.tab (fun T => joinK cf T H (splitL (fun cf => calls cf f args ⟨H.nx, T⟩) es cf) none)) (Nat.beq f g)
theorem overS_ok {g : Nat} {es : List (SI × List Int)} {calls : Cf → CallF} (hcs : ∀ cf', cf'.rw = cf.rw → cf'.gl = cf.gl → CallOk G W0 cf' (calls cf')) {call : CallF} (hc : CallOk G W0 cf call) : CallOk G W0 cf (overS cf g es calls call) := by
  intro f args H E w xs hcf hr hx
  unfold overS
  cases hb : Nat.beq f g with
  | false => exact hc f args H E w xs hcf hr hx
  | true =>
    simp only
    rw [filtK_eq]
    have hr0 : HR G W0 E (Hp.mk H.nx (filtF H.tab)).f H.nx.toNat w := hr.drop (fun l o h => filtF_get h)
    obtain ⟨cf', g1, g2, g3, hmem⟩ := splitL_ok (leaf := fun cf => calls cf f args ⟨H.nx, filtF H.tab⟩) es cf hcf
    have hcall := hcs cf' g2 g3 f args ⟨H.nx, filtF H.tab⟩ E w xs g1 hr0 hx
    cases hj : joinK cf (filtF H.tab) H (splitL (fun cf => calls cf f args ⟨H.nx, filtF H.tab⟩) es cf) none with
    | err k => trivial
    | pan v H' => exact (joinK_pan hj).elim
    | ret u H' =>
      obtain ⟨v, H1, hr1, hs, hv, hn⟩ := joinK_mem hj hmem
      have ht := joinK_tab hj
      rw [hr1] at hcall
      refine Calls.mono hcall ?_
      rintro e w' ⟨E', x, rfl, mv, hvx⟩
      have mv1 : Mv G W0 E H.f H.nx.toNat w E' H.f H1.nx.toNat w' := Mv.unloop hr mv (fun l o h => subT_ok hcf hs h)
      refine ⟨E', x, rfl, mv1.weak (fun l o hl => ?_) hn, hv hvx⟩
      have hl' : PT.get l H'.tab = some o := hl
      rw [ht] at hl'
      exact ⟨o, hl', fun _ _ _ _ _ h => h⟩
/-! ### a call as it is written down: what it gets, the blocks that are there, the next name; the next name behind it, what it gives; the blocks stay -/
structure Fm where
  g : Nat
  args : List AV
  T0 : PT AObj
  nx0 : P
  nx1 : P
  v : AV
/-- what the call must come to -/
noncomputable def outOk (cf : Cf) (m : Fm) (r : KR) : Bool := match r with
  | .ret v H' => match AV.le cf v m.v, P.ble H'.nx m.nx1, subT cf m.T0 H'.tab with
    | true, true, true => true
    | _, _, _ => false
  | _ => false
def FmOk (G : Program) (W0 : World) (m : Fm) : Prop := ∀ E w xs, HR G W0 E (Hp.mk m.nx0 m.T0).f m.nx0.toNat w → VRs E m.args xs → CallRes G W0 E ⟨m.nx0, m.T0⟩ w m.g xs (.ret m.v ⟨m.nx1, m.T0⟩)
theorem fm_case {m : Fm} {call : CallF} {E : Env} (hcf : cf.ok E.σ) {w : World} {xs : List Value} (hc : CallRes G W0 E ⟨m.nx0, m.T0⟩ w m.g xs (call m.g m.args ⟨m.nx0, m.T0⟩)) (h : outOk cf m (call m.g m.args ⟨m.nx0, m.T0⟩) = true) : CallRes G W0 E ⟨m.nx0, m.T0⟩ w m.g xs (.ret m.v ⟨m.nx1, m.T0⟩) := by
  revert hc
  unfold outOk at h
  split at h
  · rename_i v H' hr
    rw [hr]
    intro hc
    split at h
    · rename_i h1 h2 h3
      refine Calls.mono hc ?_
      rintro e w' ⟨E', x, rfl, mv, hv⟩
      refine ⟨E', x, rfl, mv.weak (fun l o hl => subT_ok hcf h3 hl) (Nat.le_of_ble_eq_true h2), le_ok (by rw [mv.le.1]; exact hcf) h1 hv⟩
    · cases h
  · cases h
/-- each block of a table lies in another one, saying just as much -/
noncomputable def eqT (cf : Cf) (t : PT AObj) : PT AObj → Bool :=
  PT.rec (fun _ => true) (fun _ v _ ihl ihr t' => PT.casesOn t' (Option.rec (match ihl .e with | true => ihr .e | false => false) (fun _ => false) v)
    (fun l' v' r' => match (Option.rec true (fun o => Option.rec false (fun o' => match AObj.le cf o' o with | true => AObj.le cf o o' | false => false) v') v : Bool) with
      | true => (match ihl l' with | true => ihr r' | false => false)
      | false => false)) t
theorem eqT_ok {cf : Cf} {σ : Nat → Int} (hcf : cf.ok σ) : ∀ {t t' : PT AObj}, eqT cf t t' = true → ∀ {q : P} {o : AObj}, PT.get q t = some o → ∃ o', PT.get q t' = some o' ∧ ObLe σ o' o ∧ ObLe σ o o' := by
  intro t
  induction t with
  | e => intro t' _ q o h; rw [PT.get_e] at h; cases h
  | n l v r ihl ihr =>
    intro t' h q o hq
    cases t' with
    | e =>
      have h' : (Option.rec (match eqT cf l .e with | true => eqT cf r .e | false => false) (fun _ => false) v : Bool) = true := h
      cases v with
      | some o => cases h'
      | none =>
        have h2 : (match eqT cf l .e with | true => eqT cf r .e | false => false) = true := h'
        split at h2
        · rename_i hl
          cases q with
          | h => cases hq
          | o q => obtain ⟨o', h1, _⟩ := ihl hl (q := q) (o := o) hq; rw [PT.get_e] at h1; cases h1
          | i q => obtain ⟨o', h1, _⟩ := ihr h2 (q := q) (o := o) hq; rw [PT.get_e] at h1; cases h1
        · cases h2
    | n l' v' r' =>
      have h' : (match (Option.rec true (fun o => Option.rec false (fun o' => match AObj.le cf o' o with | true => AObj.le cf o o' | false => false) v') v : Bool) with
      | true => (match eqT cf l l' with | true => eqT cf r r' | false => false)
      | false => false) = true := h
      split at h'
      · rename_i hv
        split at h'
        · rename_i hl
          cases q with
          | h =>
            have hq' : v = some o := hq
            subst hq'
            cases v' with
            | none => cases hv
            | some o' =>
              have hv' : (match AObj.le cf o' o with | true => AObj.le cf o o' | false => false) = true := hv
              split at hv'
              · rename_i h1; exact ⟨o', rfl, ole_ok hcf h1, ole_ok hcf hv'⟩
              · cases hv'
          | o q => exact ihl hl (q := q) (o := o) hq
          | i q => exact ihr h' (q := q) (o := o) hq
        · cases h'
      · cases h'
noncomputable def overM (cf : Cf) (m : Fm) (call : CallF) : CallF := fun f args H => Bool.rec (call f args H) (match listBeq (AV.le cf) args m.args, P.beq H.nx m.nx0, eqT cf m.T0 H.tab with
  | true, true, true => .ret m.v ⟨m.nx1, H.tab⟩
  | _, _, _ => call f args H) (Nat.beq f m.g)
/-- the same, of some numbers alone -/
def FmOkC (G : Program) (W0 : World) (Pr : (Nat → Int) → Prop) (m : Fm) : Prop := ∀ E w xs, Pr E.σ → HR G W0 E (Hp.mk m.nx0 m.T0).f m.nx0.toNat w → VRs E m.args xs → CallRes G W0 E ⟨m.nx0, m.T0⟩ w m.g xs (.ret m.v ⟨m.nx1, m.T0⟩)
theorem overM_okC {Pr : (Nat → Int) → Prop} {m : Fm} (hm : FmOkC G W0 Pr m) (hp : ∀ σ, cf.ok σ → Pr σ) {call : CallF} (hc : CallOk G W0 cf call) : CallOk G W0 cf (overM cf m call) := by
  intro f args H E w xs hcf hr hx
  unfold overM
  cases hb : Nat.beq f m.g with
  | false => exact hc f args H E w xs hcf hr hx
  | true =>
    simp only
    split
    · rename_i h1 h2 h3
      have hf := Nat.eq_of_beq_eq_true hb
      subst hf
      have hx' := listBeq_vrs (fun h hx => le_ok hcf h hx) h1 hx
      have hn := (P.beq_iff _ _).1 h2
      have sub : ∀ l o, PT.get l m.T0 = some o → ∃ o', H.f l = some o' ∧ ObLe E.σ o' o ∧ ObLe E.σ o o' := fun l o hl => eqT_ok hcf h3 hl
      -- the heap with the row's blocks said as the row says them
      let U : P → Option AObj := fun l => match PT.get l m.T0 with | some o => some o | none => H.f l
      have hU0 : ∀ l o, PT.get l m.T0 = some o → U l = some o := fun l o h => by simp only [U, h]
      have hU1 : ∀ l, PT.get l m.T0 = none → U l = H.f l := fun l h => by simp only [U, h]
      have hU : HR G W0 E U H.nx.toNat w := hr.weak (fun l o hl => by
        cases h0 : PT.get l m.T0 with
        | some o' =>
          rw [hU0 _ _ h0] at hl; cases hl
          obtain ⟨o', h1, h2, _⟩ := sub l _ h0
          exact ⟨o', h1, h2⟩
        | none => rw [hU1 _ h0] at hl; exact ⟨o, hl, fun _ _ _ _ _ h => h⟩)
      rw [hn] at hU
      have hT : HR G W0 E (Hp.mk m.nx0 m.T0).f m.nx0.toNat w := hU.drop hU0
      refine Calls.mono (hm E w xs (hp _ hcf) hT hx') ?_
      rintro e w' ⟨E', x, rfl, mv, hv⟩
      classical
      have mvU := Mv.frame hU hU0 mv (fun l => PT.get l m.T0 = none) (fun l h => h)
      have mv2 : Mv G W0 E U m.nx0.toNat w E' H.f m.nx1.toNat w' := mvU.weak (fun l o hl => by
        cases h0 : PT.get l m.T0 with
        | some o' =>
          obtain ⟨o2, k1, _, k3⟩ := sub l o' h0
          rw [k1] at hl; cases hl
          exact ⟨o', by rw [if_neg (fun h => by cases h)]; exact h0, k3⟩
        | none => exact ⟨o, by rw [if_pos rfl]; exact (hU1 l h0).trans hl, fun _ _ _ _ _ h => h⟩) (Nat.le_refl _)
      refine ⟨E', x, rfl, ⟨mv2.le, mv2.hr, by rw [hn]; exact mv2.up, mv2.sz, ?_, ?_, ?_⟩, hv⟩
      · intro b hb' hno
        refine mv2.fr b hb' (fun l o c hl e => ?_)
        cases h0 : PT.get l m.T0 with
        | some o' => obtain ⟨o2, k1, _⟩ := sub l o' h0; exact hno l o2 c k1 e
        | none => rw [hU1 _ h0] at hl; exact hno l o c hl e
      · intro l o b c hl e
        rcases mv2.own l o b c hl e with hge | ⟨l0, o0, c0, k0, e0⟩
        · exact .inl hge
        · cases h0 : PT.get l0 m.T0 with
          | some o' => obtain ⟨o2, k1, _⟩ := sub l0 o' h0; exact .inr ⟨l0, o2, c0, k1, e0⟩
          | none => rw [hU1 _ h0] at k0; exact .inr ⟨l0, o0, c0, k0, e0⟩
      · intro l x e
        rw [hn]; exact mv2.nw l x e
    · exact hc f args H E w xs hcf hr hx
theorem overM_ok {m : Fm} (hm : FmOk G W0 m) {call : CallF} (hc : CallOk G W0 cf call) : CallOk G W0 cf (overM cf m call) :=
  overM_okC (Pr := fun _ => True) (fun E w xs _ => hm E w xs) (fun _ _ => trivial) hc
/-! ### a call that makes blocks, as it is written down -/
structure Nw where
  g : Nat
  args : List AV
  T0 : PT AObj
  nx0 : P
  N : List (P × AObj)
  nx1 : P
  v : AV
/-- where one number alone may stand, it is written -/
noncomputable def simEK {R : Type} (cf : Cf) (e : SI) (K : SI → R) : R := match e with
  | .lit n => K (.lit n)
  | e => singK cf e K
noncomputable def simE (cf : Cf) (e : SI) : SI := simEK cf e id
theorem simEK_eq {R : Type} (cf : Cf) (e : SI) (K : SI → R) : simEK cf e K = K (simE cf e) := by
  cases e with
  | lit n => rfl
  | _ => exact singK_nat _ _ _
theorem simE_ok {cf : Cf} {σ : Nat → Int} (hcf : cf.ok σ) (e : SI) : (simE cf e).ev σ = e.ev σ := by
  have main : ∀ e, (singK cf e (id : SI → SI)).ev σ = e.ev σ := fun e => by
    obtain ⟨c, h1, h2⟩ := singK_ok hcf e (id : SI → SI)
    rw [h1]; exact h2
  cases e with
  | lit n => rfl
  | _ => exact main _
noncomputable def simV (cf : Cf) (v : AV) : AV := match v with
  | .int k e => .int k (simE cf e)
  | v => v
theorem simV_ok {cf : Cf} {E : Env} (hcf : cf.ok E.σ) {v : AV} {x : Value} (h : VR E v x) : VR E (simV cf v) x := by
  unfold simV
  split
  · cases h
    rw [← simE_ok hcf]
    exact .int _ _
  · exact h
noncomputable def simLK {R : Type} (cf : Cf) (cs : List AV) : (List AV → R) → R := List.rec (fun K => K []) (fun v _ ih K => match v with
  | .int k e => simEK cf e (fun e => ih (fun t => K (.int k e :: t)))
  | v => ih (fun t => K (v :: t))) cs
theorem simLK_eq {R : Type} (cf : Cf) : ∀ (cs : List AV) (K : List AV → R), simLK cf cs K = K (mapL (simV cf) cs)
  | [], K => rfl
  | v :: cs, K => by
    have ih := simLK_eq (R := R) cf cs
    have e : simLK cf (v :: cs) K = (match v with
      | .int k e => simEK cf e (fun e => simLK cf cs (fun t => K (.int k e :: t)))
      | v => simLK cf cs (fun t => K (v :: t))) := rfl
    have e2 : K (mapL (simV cf) (v :: cs)) = K (simV cf v :: mapL (simV cf) cs) := rfl
    rw [e, e2]
    cases v with
    | int k q => exact (simEK_eq cf q _).trans (ih _)
    | _ => exact ih _
noncomputable def simO (cf : Cf) (o : AObj) : AObj := match o with
  | .cells cs ty opn => .cells (mapL (simV cf) cs) ty opn
  | o => o
theorem sim_vrs {cf : Cf} {E : Env} (hcf : cf.ok E.σ) : ∀ {cs : List AV} {vs : List Value}, VRs E cs vs → VRs E (mapL (simV cf) cs) vs
  | _, _, .nil => .nil
  | _, _, .cons h hs => .cons (simV_ok hcf h) (sim_vrs hcf hs)
theorem simO_ok {cf : Cf} {σ : Nat → Int} (hcf : cf.ok σ) (o : AObj) : ObLe σ o (simO cf o) := by
  intro G E c ob hσ h
  subst hσ
  unfold simO
  split
  · cases h with
    | cells a b d e f => exact .cells (sim_vrs hcf a) b d e f
  · exact h
noncomputable def simOK {R : Type} (cf : Cf) (o : AObj) (K : AObj → R) : R := match o with
  | .cells cs ty opn => simLK cf cs (fun cs => K (.cells cs ty opn))
  | o => K o
theorem simOK_eq {R : Type} (cf : Cf) (o : AObj) (K : AObj → R) : simOK cf o K = K (simO cf o) := by
  cases o with
  | cells cs ty opn => exact simLK_eq cf _ _
  | _ => rfl
noncomputable def layN (N : List (P × AObj)) (t : PT AObj) : PT AObj := List.rec t (fun x _ ih => PT.put x.1 ih (some x.2)) N
noncomputable def layNK {R : Type} (cf : Cf) (N : List (P × AObj)) (t : PT AObj) : (PT AObj → R) → R := List.rec (fun K => K t) (fun x _ ih K => simOK cf x.2 (fun o => ih (fun t => PT.putK x.1 t (some o) K))) N
noncomputable def simN (cf : Cf) (N : List (P × AObj)) : List (P × AObj) := mapL (fun x => (x.1, simO cf x.2)) N
theorem layNK_eq {R : Type} (cf : Cf) (t : PT AObj) : ∀ (N : List (P × AObj)) (K : PT AObj → R), layNK cf N t K = K (layN (simN cf N) t)
  | [], K => rfl
  | x :: N, K => by
    show simOK cf x.2 (fun o => layNK cf N t (fun t => PT.putK x.1 t (some o) K)) = _
    rw [simOK_eq, layNK_eq cf t N, PT.putK_eq]; rfl
theorem layN_get (cf : Cf) (q : P) : ∀ (N : List (P × AObj)), (∃ o, (q, o) ∈ N ∧ (∀ t, PT.get q (layN N t) = some o) ∧ ∀ t, PT.get q (layN (simN cf N) t) = some (simO cf o)) ∨ ((∀ o, (q, o) ∉ N) ∧ (∀ t, PT.get q (layN N t) = PT.get q t) ∧ ∀ t, PT.get q (layN (simN cf N) t) = PT.get q t)
  | [] => .inr ⟨(fun _ h => by cases h), (fun _ => rfl), (fun _ => rfl)⟩
  | x :: N => by
    have hg : ∀ t, PT.get q (layN (x :: N) t) = PT.get q (PT.put x.1 (layN N t) (some x.2)) := fun _ => rfl
    have hs : ∀ t, PT.get q (layN (simN cf (x :: N)) t) = PT.get q (PT.put x.1 (layN (simN cf N) t) (some (simO cf x.2))) := fun _ => rfl
    by_cases e : x.1 = q
    · subst e
      exact .inl ⟨x.2, List.mem_cons_self, (fun t => by rw [hg, PT.get_put_same]), (fun t => by rw [hs, PT.get_put_same])⟩
    · rcases layN_get cf q N with ⟨o, h1, h2, h3⟩ | ⟨h1, h2, h3⟩
      · exact .inl ⟨o, List.mem_cons_of_mem _ h1, (fun t => by rw [hg, PT.get_put_other e]; exact h2 t), (fun t => by rw [hs, PT.get_put_other e]; exact h3 t)⟩
      · refine .inr ⟨fun o h => ?_, (fun t => by rw [hg, PT.get_put_other e]; exact h2 t), (fun t => by rw [hs, PT.get_put_other e]; exact h3 t)⟩
        rcases List.mem_cons.1 h with h | h
        · exact e (congrArg Prod.fst h).symm
        · exact h1 o h
/-- what the call must come to -/
noncomputable def outOkN (cf : Cf) (m : Nw) (r : KR) : Bool := match r with
  | .ret v H' => match AV.le cf v m.v, P.ble H'.nx m.nx1, subT cf m.T0 H'.tab, allL (fun x => Bool.rec false (Option.rec false (fun o => AObj.le cf o x.2) (PT.get x.1 H'.tab)) (P.ble m.nx0 x.1)) m.N with
    | true, true, true, true => true
    | _, _, _, _ => false
  | _ => false
def NwOk (G : Program) (W0 : World) (Pr : (Nat → Int) → Prop) (m : Nw) : Prop := (∀ x ∈ m.N, m.nx0.toNat ≤ x.1.toNat) ∧ ∀ E w xs, Pr E.σ → HR G W0 E (Hp.mk m.nx0 m.T0).f m.nx0.toNat w → VRs E m.args xs → CallRes G W0 E ⟨m.nx0, m.T0⟩ w m.g xs (.ret m.v ⟨m.nx1, layN m.N m.T0⟩)
theorem nw_names {m : Nw} {r : KR} (h : outOkN cf m r = true) : ∀ x ∈ m.N, m.nx0.toNat ≤ x.1.toNat := by
  unfold outOkN at h
  split at h
  · split at h
    · rename_i h4
      intro x hx
      have := allL_mem' h4 x hx
      cases hb : P.ble m.nx0 x.1 with
      | false => rw [hb] at this; cases this
      | true => exact Nat.le_of_ble_eq_true hb
    · cases h
  · cases h
theorem nw_case {m : Nw} {call : CallF} {E : Env} (hcf : cf.ok E.σ) {w : World} {xs : List Value} (hc : CallRes G W0 E ⟨m.nx0, m.T0⟩ w m.g xs (call m.g m.args ⟨m.nx0, m.T0⟩)) (h : outOkN cf m (call m.g m.args ⟨m.nx0, m.T0⟩) = true) : CallRes G W0 E ⟨m.nx0, m.T0⟩ w m.g xs (.ret m.v ⟨m.nx1, layN m.N m.T0⟩) := by
  revert hc
  unfold outOkN at h
  split at h
  · rename_i v H' hr
    rw [hr]
    intro hc
    split at h
    · rename_i h1 h2 h3 h4
      refine Calls.mono hc ?_
      rintro e w' ⟨E', x, rfl, mv, hv⟩
      refine ⟨E', x, rfl, mv.weak (fun l o hl => ?_) (Nat.le_of_ble_eq_true h2), le_ok (by rw [mv.le.1]; exact hcf) h1 hv⟩
      have hl' : PT.get l (layN m.N m.T0) = some o := hl
      rcases layN_get cf l m.N with ⟨o', k1, k2, _⟩ | ⟨_, k2, _⟩
      · rw [k2] at hl'; cases hl'
        have := allL_mem' h4 _ k1
        cases hb : P.ble m.nx0 l with
        | false => simp only [hb] at this; cases this
        | true =>
          simp only [hb] at this
          cases hg : PT.get l H'.tab with
          | none => simp only [hg] at this; cases this
          | some o2 => simp only [hg] at this; exact ⟨o2, hg, ole_ok hcf this⟩
      · rw [k2] at hl'
        exact subT_ok hcf h3 hl'
    · cases h
  · cases h
noncomputable def overN (cf : Cf) (m : Nw) (call : CallF) : CallF := fun f args H => Bool.rec (call f args H) (match listBeq (AV.le cf) args m.args, P.beq H.nx m.nx0, eqT cf m.T0 H.tab with
  | true, true, true => layNK cf m.N H.tab (fun t => .ret m.v ⟨m.nx1, t⟩)
  | _, _, _ => call f args H) (Nat.beq f m.g)
theorem overN_ok {Pr : (Nat → Int) → Prop} {m : Nw} (hm : NwOk G W0 Pr m) (hp : ∀ σ, cf.ok σ → Pr σ) {call : CallF} (hc : CallOk G W0 cf call) : CallOk G W0 cf (overN cf m call) := by
  intro f args H E w xs hcf hr hx
  unfold overN
  cases hb : Nat.beq f m.g with
  | false => exact hc f args H E w xs hcf hr hx
  | true =>
    simp only
    split
    · rename_i h1 h2 h3
      have hf := Nat.eq_of_beq_eq_true hb
      subst hf
      have hx' := listBeq_vrs (fun h hx => le_ok hcf h hx) h1 hx
      have hn := (P.beq_iff _ _).1 h2
      rw [layNK_eq]
      have sub : ∀ l o, PT.get l m.T0 = some o → ∃ o', H.f l = some o' ∧ ObLe E.σ o' o ∧ ObLe E.σ o o' := fun l o hl => eqT_ok hcf h3 hl
      let U : P → Option AObj := fun l => match PT.get l m.T0 with | some o => some o | none => H.f l
      have hU0 : ∀ l o, PT.get l m.T0 = some o → U l = some o := fun l o h => by simp only [U, h]
      have hU1 : ∀ l, PT.get l m.T0 = none → U l = H.f l := fun l h => by simp only [U, h]
      have hU : HR G W0 E U H.nx.toNat w := hr.weak (fun l o hl => by
        cases h0 : PT.get l m.T0 with
        | some o' =>
          rw [hU0 _ _ h0] at hl; cases hl
          obtain ⟨o', h1, h2, _⟩ := sub l _ h0
          exact ⟨o', h1, h2⟩
        | none => rw [hU1 _ h0] at hl; exact ⟨o, hl, fun _ _ _ _ _ h => h⟩)
      rw [hn] at hU
      have hT : HR G W0 E (Hp.mk m.nx0 m.T0).f m.nx0.toNat w := hU.drop hU0
      refine Calls.mono (hm.2 E w xs (hp _ hcf) hT hx') ?_
      rintro e w' ⟨E', x, rfl, mv, hv⟩
      classical
      have mvU := Mv.frame hU hU0 mv (fun l => PT.get l m.T0 = none ∧ ∀ o, (l, o) ∉ m.N) (fun l h => h.1)
      have mv2 : Mv G W0 E U m.nx0.toNat w E' (Hp.mk m.nx1 (layN (simN cf m.N) H.tab)).f m.nx1.toNat w' := mvU.weak (fun l o hl => by
        have hl' : PT.get l (layN (simN cf m.N) H.tab) = some o := hl
        rcases layN_get cf l m.N with ⟨o1, k1, k2, k3⟩ | ⟨k1, k2, k3⟩
        · rw [k3] at hl'; cases hl'
          exact ⟨o1, by rw [if_neg (fun h => h.2 _ k1)]; exact k2 _, simO_ok hcf o1⟩
        · rw [k3] at hl'
          cases h0 : PT.get l m.T0 with
          | some o' =>
            obtain ⟨o2, j1, _, j3⟩ := sub l o' h0
            have hh : H.f l = some o := hl'
            rw [j1] at hh; cases hh
            exact ⟨o', by rw [if_neg (fun h => by cases h.1)]; exact (k2 _).trans h0, j3⟩
          | none => exact ⟨o, by rw [if_pos ⟨rfl, k1⟩]; exact (hU1 l h0).trans hl', fun _ _ _ _ _ h => h⟩) (Nat.le_refl _)
      refine ⟨E', x, rfl, ⟨mv2.le, mv2.hr, by rw [hn]; exact mv2.up, mv2.sz, ?_, ?_, ?_⟩, hv⟩
      · intro b hb' hno
        refine mv2.fr b hb' (fun l o c hl e => ?_)
        cases h0 : PT.get l m.T0 with
        | some o' => obtain ⟨o2, k1, _⟩ := sub l o' h0; exact hno l o2 c k1 e
        | none => rw [hU1 _ h0] at hl; exact hno l o c hl e
      · intro l o b c hl e
        rcases mv2.own l o b c hl e with hge | ⟨l0, o0, c0, k0, e0⟩
        · exact .inl hge
        · cases h0 : PT.get l0 m.T0 with
          | some o' => obtain ⟨o2, k1, _⟩ := sub l0 o' h0; exact .inr ⟨l0, o2, c0, k1, e0⟩
          | none => rw [hU1 _ h0] at k0; exact .inr ⟨l0, o0, c0, k0, e0⟩
      · intro l x e
        rw [hn]; exact mv2.nw l x e
    · exact hc f args H E w xs hcf hr hx
/-! the blocks that values lead to -/
noncomputable def namesV (n : Nat) : AV → List P := Nat.rec (fun _ => []) (fun _ ih v => match v with
  | .ptr l _ => [l]
  | .sl l _ _ _ => [l]
  | .sls l _ _ => [l]
  | .gsl (some l) _ _ _ => [l]
  | .gptr (some l) _ _ => [l]
  | .map l => [l]
  | .chan l => [l]
  | .iter l => [l]
  | .iface _ v => ih v
  | .agg cs => List.rec [] (fun a _ r => ih a ++ r) cs
  | .tup cs => List.rec [] (fun a _ r => ih a ++ r) cs
  | .fn _ a b => List.rec (List.rec [] (fun a _ r => ih a ++ r) b) (fun a _ r => ih a ++ r) a
  | _ => []) n
noncomputable def namesO (o : AObj) : List P := match o with
  | .cells cs _ _ => List.rec [] (fun a _ r => namesV 6 a ++ r) cs
  | .map es _ => List.rec [] (fun a _ r => namesV 6 a.1 ++ (namesV 6 a.2.1 ++ r)) es
  | _ => []
noncomputable def reach (tab : PT AObj) (fuel : Nat) : List P → PT AObj → (PT AObj → PT AObj) → PT AObj :=
  Nat.rec (fun _ acc k => k acc) (fun _ ih work acc k => List.casesOn work (k acc) (fun l rest => Option.rec (Option.rec (ih rest acc k) (fun o => PT.putK l acc (some o) (fun acc => ih (namesO o ++ rest) acc k)) (PT.get l tab)) (fun _ => ih rest acc k) (PT.get l acc))) fuel
noncomputable def reachV (r : KR → Hp) (q : KR) (args : List AV) : PT AObj := reach (r q).tab 5000 (List.rec [] (fun a _ r => namesV 6 a ++ r) args) .e (fun t => t)
/-! where a run stands when it comes to a function -/
noncomputable def stopAt (g : Nat) (call : CallF) : CallF := fun f args H => Bool.rec (call f args H) (.pan (.tup args) H) (Nat.beq f g)
noncomputable def stopFrom (g : Nat) (n : P) (call : CallF) : CallF := fun f args H => Bool.rec (call f args H) (Bool.rec (call f args H) (.pan (.tup args) H) (P.ble n H.nx)) (Nat.beq f g)
noncomputable def argsOf (r : KR) : List AV := match r with
  | .pan (.tup l) _ => l
  | _ => []
noncomputable def hpOf (r : KR) : Hp := match r with
  | .pan _ H => H
  | _ => ⟨.h, .e⟩
end
end Go.Ai
