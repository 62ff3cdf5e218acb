/- Compiled regions: what a tree stands for is done. -/
import Derived.Test.YtfedjkcigdgcoaaGreatDoorAiZ
namespace Go.Ai
open Go Go.RowKit
set_option linter.unusedVariables false
theorem P.of_toNat (p : P) : P.of p.toNat = p := P.toNat_inj (P.toNat_of _)
def dstAt (ops : List Oper) (j : Nat) : Option Nat := (ops[j]?).bind (·.dst)
def SSA (ops : List Oper) : Prop := ∀ j j' t, dstAt ops j = some t → dstAt ops j' = some t → j = j'
section
variable {G : Program} {cf : Cf} {V : Kp} {ops : List Oper}
theorem drop_cons {i : Nat} {o : Oper} {l : List Oper} (h : ops.drop i = o :: l) : ops[i]? = some o ∧ ops.drop (i + 1) = l := by
  have h1 : ops[i]? = some o := by
    have := List.getElem?_drop (xs := ops) (i := i) (j := 0)
    rw [h] at this
    simpa using this.symm
  exact ⟨h1, by rw [← List.drop_drop, h]; rfl⟩
theorem one_some {top : Bool} {g : Gd} {ok : Op → Bool} {i i' : Nat} {l l' : List Oper} {r : Root} (h : one V top g ok i l = some (r, i', l')) :
    ∃ o t, l = o :: l' ∧ o.dst = some t ∧ o.guard = g ∧ ok o.op = true ∧ Nat.ble (Nat.succ t) V.n = true ∧ V.has t = top ∧ r = .tmp t ∧ i' = i + 1 := by
  unfold one at h
  split at h
  · rename_i o rest
    split at h
    · rename_i t hd
      split at h
      · rename_i hc
        cases h
        simp only [Bool.and_eq_true] at hc
        exact ⟨o, t, rfl, hd, gbeq_eq hc.1.1.1, hc.1.1.2, hc.1.2, (bbeq_eq hc.2).symm, rfl, rfl⟩
      · cases h
    · cases h
  · cases h
structure MF (V : Kp) (ops : List Oper) (top : Bool) (i i' : Nat) (l' : List Oper) (r : Root) : Prop where
  dr : ops.drop i' = l'
  le : i ≤ i'
  ds : ∀ j, i ≤ j → j < i' → ∃ t, dstAt ops j = some t ∧ (j + 1 < i' → V.has t = false)
  rt : (i' = i ∧ top = false ∧ ((∃ v, r = .lit v) ∨ ∃ t, r = .tmp t ∧ V.has t = true)) ∨ (i < i' ∧ ∃ t, r = .tmp t ∧ dstAt ops (i' - 1) = some t ∧ V.has t = top)
theorem MF.nk {i i' : Nat} {l' : List Oper} {r : Root} (h : MF V ops false i i' l' r) {j t : Nat} (h1 : i ≤ j) (h2 : j < i') (h3 : dstAt ops j = some t) : V.has t = false := by
  obtain ⟨u, hu, hk⟩ := h.ds j h1 h2
  rw [h3] at hu; cases hu
  by_cases hj : j + 1 < i'
  · exact hk hj
  · rcases h.rt with ⟨e, _⟩ | ⟨_, u, _, h4, h5⟩
    · omega
    · have : i' - 1 = j := by omega
      rw [this, h3] at h4; cases h4; exact h5
/-- one more -/
theorem MF.one {top : Bool} {g : Gd} {ok : Op → Bool} {i i1 i' : Nat} {l1 l' : List Oper} {r : Root} (hle : i ≤ i1) (hdr : ops.drop i1 = l1) (hds : ∀ j, i ≤ j → j < i1 → ∃ t, dstAt ops j = some t ∧ V.has t = false)
    (h : one V top g ok i1 l1 = some (r, i', l')) : MF V ops top i i' l' r := by
  obtain ⟨o, t, rfl, hd, hg, hok, hn, hV, rfl, rfl⟩ := one_some h
  obtain ⟨ho, hdr'⟩ := drop_cons hdr
  have hda : dstAt ops i1 = some t := by simp [dstAt, ho, hd]
  refine ⟨hdr', by omega, fun j h1 h2 => ?_, .inr ⟨by omega, t, rfl, by simpa using hda, hV⟩⟩
  by_cases hj : j < i1
  · obtain ⟨u, hu, hk⟩ := hds j h1 hj
    exact ⟨u, hu, fun _ => hk⟩
  · have : j = i1 := by omega
    subst this
    exact ⟨t, hda, fun h => by omega⟩
theorem MF.all {i i' : Nat} {l' : List Oper} {r : Root} (h : MF V ops false i i' l' r) : ∀ j, i ≤ j → j < i' → ∃ t, dstAt ops j = some t ∧ V.has t = false := by
  intro j h1 h2
  obtain ⟨t, ht, _⟩ := h.ds j h1 h2
  exact ⟨t, ht, h.nk h1 h2 ht⟩
theorem all_trans {Q : Nat → Prop} {i i1 i2 : Nat} (h : ∀ j, i ≤ j → j < i1 → Q j) (k : ∀ j, i1 ≤ j → j < i2 → Q j) : ∀ j, i ≤ j → j < i2 → Q j := by
  intro j h1 h2
  by_cases hj : j < i1
  · exact h j h1 hj
  · exact k j (by omega) h2
theorem mat_facts : ∀ (e : CE) {top : Bool} {g : Gd} {i i' : Nat} {l l' : List Oper} {r : Root}, mat V e top g i l = some (r, i', l') → ops.drop i = l → MF V ops top i i' l' r := by
  intro e
  induction e with
  | tmp p =>
    intro top g i i' l l' r h hd
    unfold mat at h
    split at h
    · rename_i h1
      cases h
      exact ⟨hd, Nat.le_refl _, fun j _ _ => by omega, .inl ⟨rfl, rfl, .inr ⟨_, rfl, h1⟩⟩⟩
    · cases h
  | lit v =>
    intro top g i i' l l' r h hd
    unfold mat at h
    split at h
    · cases h
      exact ⟨hd, Nat.le_refl _, fun j _ _ => by omega, .inl ⟨rfl, rfl, .inl ⟨_, rfl⟩⟩⟩
    · cases h
  | n1 k e ih =>
    intro top g i i' l l' r h hd
    unfold mat at h
    split at h
    · rename_i r1 i1 l1 h1
      have f1 := ih h1 hd
      exact MF.one f1.le f1.dr f1.all h
    · cases h
  | n2 k a b iha ihb =>
    intro top g i i' l l' r h hd
    unfold mat at h
    split at h
    · rename_i r1 i1 l1 h1
      have f1 := iha h1 hd
      split at h
      · rename_i r2 i2 l2 h2
        have f2 := ihb h2 f1.dr
        exact MF.one (Nat.le_trans f1.le f2.le) f2.dr (all_trans f1.all f2.all) h
      · cases h
    · cases h
  | sl t x a b ihx iha ihb =>
    intro top g i i' l l' r h hd
    unfold mat at h
    split at h
    · rename_i r1 i1 l1 h1
      have f1 := ihx h1 hd
      split at h
      · rename_i r2 i2 l2 h2
        have f2 := iha h2 f1.dr
        split at h
        · rename_i r3 i3 l3 h3
          have f3 := ihb h3 f2.dr
          exact MF.one (Nat.le_trans f1.le (Nat.le_trans f2.le f3.le)) f3.dr (all_trans f1.all (all_trans f2.all f3.all)) h
        · cases h
      · cases h
    · cases h
  | pick want c a lv ihc iha =>
    intro top g i i' l l' r h hd
    unfold mat at h
    split at h
    · rename_i r1 i1 l1 h1
      have f1 := ihc h1 hd
      split at h
      · split at h
        · rename_i r2 i2 l2 h2
          have f2 := iha h2 f1.dr
          exact MF.one (Nat.le_trans f1.le f2.le) f2.dr (all_trans f1.all f2.all) h
        · cases h
      · cases h
    · cases h

/-! ### guards -/
def GdT (ops : List Oper) (g : Gd) (i : Nat) (tm : PT AV) : Prop := match g with
  | none => True
  | some (j, w) => j < i ∧ ∃ t, dstAt ops j = some t ∧ PT.get (P.of t) tm = some (.bool w)
def GdF (ops : List Oper) (j : Nat) (w : Bool) (i : Nat) (tm : PT AV) : Prop := j < i ∧ ∃ t, dstAt ops j = some t ∧ (PT.get (P.of t) tm = some (.bool (!w)) ∨ ∃ l, PT.get (P.of t) tm = some (.tup l))
theorem dstAt_some {j t : Nat} (h : dstAt ops j = some t) : ∃ o, nthL ops j = some o ∧ o.dst = some t := by
  unfold dstAt at h
  cases e : ops[j]? with
  | none => rw [e] at h; cases h
  | some o => rw [e] at h; exact ⟨o, by rw [nthL_eq]; exact e, h⟩
theorem GdT.want {o : Oper} {i : Nat} {tm : PT AV} (h : GdT ops o.guard i tm) : wantO ops o tm = some true := by
  unfold wantO
  cases hg : o.guard with
  | none => rfl
  | some p =>
    obtain ⟨j, w⟩ := p
    rw [hg] at h
    obtain ⟨_, t, h1, h2⟩ := h
    obtain ⟨oj, h3, h4⟩ := dstAt_some h1
    simp only [h3, h4, h2]
    cases w <;> rfl
theorem GdF.want {o : Oper} {i j : Nat} {w : Bool} {tm : PT AV} (hg : o.guard = some (j, w)) (h : GdF ops j w i tm) : wantO ops o tm = some false := by
  unfold wantO
  obtain ⟨_, t, h1, h2⟩ := h
  obtain ⟨oj, h3, h4⟩ := dstAt_some h1
  rw [hg]
  rcases h2 with h2 | ⟨l, h2⟩
  · simp only [h3, h4, h2]
    cases w <;> rfl
  · simp only [h3, h4, h2]
/-! ### what is not written stays -/
def Frm (ops : List Oper) (i i' : Nat) (tm tm' : PT AV) : Prop := ∀ t, (∀ j, i ≤ j → j < i' → dstAt ops j ≠ some t) → PT.get (P.of t) tm' = PT.get (P.of t) tm
theorem Frm.refl (i : Nat) (tm : PT AV) : Frm ops i i tm tm := fun _ _ => rfl
theorem Frm.trans {i i1 i2 : Nat} {tm tm1 tm2 : PT AV} (h : Frm ops i i1 tm tm1) (k : Frm ops i1 i2 tm1 tm2) (h1 : i ≤ i1) (h2 : i1 ≤ i2) : Frm ops i i2 tm tm2 :=
  fun t ht => (k t (fun j a b => ht j (by omega) b)).trans (h t (fun j a b => ht j a (by omega)))
theorem GdT.keep (hs : SSA ops) {g : Gd} {i i' : Nat} {tm tm' : PT AV} (h : GdT ops g i tm) (hf : Frm ops i i' tm tm') (hle : i ≤ i') : GdT ops g i' tm' := by
  cases g with
  | none => trivial
  | some p =>
    obtain ⟨j, w⟩ := p
    obtain ⟨h0, t, h1, h2⟩ := h
    exact ⟨by omega, t, h1, (hf t (fun k a b e => by have := hs j k t h1 e; omega)).trans h2⟩
theorem GdF.keep (hs : SSA ops) {j : Nat} {w : Bool} {i i' : Nat} {tm tm' : PT AV} (h : GdF ops j w i tm) (hf : Frm ops i i' tm tm') (hle : i ≤ i') : GdF ops j w i' tm' := by
  obtain ⟨h0, t, h1, h2⟩ := h
  refine ⟨by omega, t, h1, ?_⟩
  rw [hf t (fun k a b e => by have := hs j k t h1 e; omega)]
  exact h2
def RootV (tm : PT AV) (r : Root) (v : AV) : Prop := match r with
  | .tmp t => PT.get (P.of t) tm = some v
  | .lit u => u = v
theorem RootV.is {tm : PT AV} {r : Root} {v : AV} (h : RootV tm r v) {x : Operand} (hx : r.is x = true) : evO tm x = some v := by
  unfold Root.is at hx
  split at hx
  · have := Nat.eq_of_beq_eq_true hx
    subst this
    exact h
  · cases hx
  · rename_i u
    split at hx
    · rename_i u' hu
      have e : u = v := h
      have := same_eq hx
      subst this e
      cases x with
      | tmp t =>
        have hu' : PT.get (P.of t) (PT.e : PT AV) = some u' := hu
        rw [PT.get_e] at hu'; cases hu'
      | _ => exact hu
    · cases hx
theorem RootV.keep (hs : SSA ops) {i i1 i2 : Nat} {l1 l2 : List Oper} {r q : Root} {tm tm' : PT AV} {v : AV} (h : RootV tm r v) (f1 : MF V ops false i i1 l1 r) (f2 : MF V ops false i1 i2 l2 q) (hf : Frm ops i1 i2 tm tm') : RootV tm' r v := by
  cases r with
  | lit u => exact h
  | tmp t =>
    refine (hf t (fun j a b e => ?_)).trans h
    rcases f1.rt with ⟨_, _, ⟨_, h1⟩ | ⟨u, h1, h2⟩⟩ | ⟨_, u, h1, h2, _⟩
    · cases h1
    · cases h1
      rw [f2.nk a b e] at h2; cases h2
    · cases h1
      have := hs _ _ _ h2 e
      have := f1.le
      omega
/-- of the temporaries that are kept: what is known in the one is known in the other -/
def Sub (V : Kp) (tm tmO : PT AV) : Prop := ∀ t v, V.has t = true → PT.get (P.of t) tm = some v → PT.get (P.of t) tmO = some v
theorem Sub.keep {i i' : Nat} {l' : List Oper} {r : Root} {tm tmO tmO' : PT AV} (h : Sub V tm tmO) (f : MF V ops false i i' l' r) (hf : Frm ops i i' tmO tmO') : Sub V tm tmO' := by
  intro t v ht hg
  refine (hf t (fun j a b e => ?_)).trans (h t v ht hg)
  rw [f.nk a b e] at ht; cases ht

/-! ### steps -/
theorem putT_lt {R : Type} {n t : Nat} (h : Nat.ble (Nat.succ t) n = true) (tm : PT AV) (v : AV) (K : Option (PT AV) → R) : putT n (some t) tm v K = K (some (PT.put (P.of t) tm (some v))) := by
  rw [putT_eq]; simp only [putF, h]
/-- operations that only read, in their row -/
inductive PRun (G : Program) (cf : Cf) (n : Nat) (ops : List Oper) (H : Hp) : List Oper → PT AV → List Oper → PT AV → Prop
  | refl (l : List Oper) (tm : PT AV) : PRun G cf n ops H l tm l tm
  | rd {o : Oper} {l l' : List Oper} {tm tm' : PT AV} {v : AV} {t : Nat} (hw : wantO ops o tm = some true) (hop : opK G cf o (evO tm) H = .rd v) (hd : o.dst = some t) (hn : Nat.ble (Nat.succ t) n = true)
      (h : PRun G cf n ops H l (PT.put (P.of t) tm (some v)) l' tm') : PRun G cf n ops H (o :: l) tm l' tm'
  | skip {o : Oper} {l l' : List Oper} {tm tm' : PT AV} {t : Nat} (hw : wantO ops o tm = some false) (hd : o.dst = some t) (hn : Nat.ble (Nat.succ t) n = true)
      (h : PRun G cf n ops H l (PT.put (P.of t) tm (some (.tup []))) l' tm') : PRun G cf n ops H (o :: l) tm l' tm'
theorem PRun.trans {n : Nat} {H : Hp} {l l1 l2 : List Oper} {tm tm1 tm2 : PT AV} (h : PRun G cf n ops H l tm l1 tm1) (k : PRun G cf n ops H l1 tm1 l2 tm2) : PRun G cf n ops H l tm l2 tm2 := by
  induction h with
  | refl l tm => exact k
  | rd hw hop hd hn _ ih => exact .rd hw hop hd hn (ih k)
  | skip hw hd hn _ ih => exact .skip hw hd hn (ih k)
theorem PRun.regK {call : CallF} {rnd : RndF} {n : Nat} {ds : List AD} {H : Hp} {rc : RC} {l l' : List Oper} {tm tm' : PT AV} (h : PRun G cf n ops H l tm l' tm') : Ai.regK G cf call rnd n ops l tm ds H rc = Ai.regK G cf call rnd n ops l' tm' ds H rc := by
  induction h with
  | refl l tm => rfl
  | rd hw hop hd hn _ ih =>
    rw [regK_cons, hw, hop, hd]
    exact (putT_lt hn _ _ _).trans ih
  | skip hw hd hn _ ih =>
    rw [regK_cons, hw, hd]
    exact (putT_lt hn _ _ _).trans ih
variable {H : Hp}
theorem put_frm {i t : Nat} {tm : PT AV} {v : AV} (h : dstAt ops i = some t) : Frm ops i (i + 1) tm (PT.put (P.of t) tm (some v)) := by
  intro u hu
  refine PT.get_put_other (fun e => ?_) _ _
  have := P.of_inj e
  subst this
  exact hu i (Nat.le_refl _) (by omega) h
theorem one_ok {top : Bool} {g : Gd} {ok : Op → Bool} {i i' : Nat} {l l' : List Oper} {r : Root} {tm : PT AV} {v : AV} (h : one V top g ok i l = some (r, i', l')) (hd : ops.drop i = l) (hg : GdT ops g i tm)
    (hop : ∀ o : Oper, ok o.op = true → opK G cf o (evO tm) H = .rd v) :
    ∃ tm', PRun G cf V.n ops H l tm l' tm' ∧ Frm ops i i' tm tm' ∧ RootV tm' r v := by
  obtain ⟨o, t, rfl, hdst, rfl, hok, hn, hV, rfl, rfl⟩ := one_some h
  obtain ⟨ho, _⟩ := drop_cons hd
  have hda : dstAt ops i = some t := by simp [dstAt, ho, hdst]
  refine ⟨PT.put (P.of t) tm (some v), ?_, put_frm hda, PT.get_put_same _ _ _⟩
  exact .rd hg.want (hop o hok) hdst hn (.refl _ _)
theorem one_skip {top : Bool} {j : Nat} {w : Bool} {ok : Op → Bool} {i i' : Nat} {l l' : List Oper} {r : Root} {tm : PT AV} (h : one V top (some (j, w)) ok i l = some (r, i', l')) (hd : ops.drop i = l) (hg : GdF ops j w i tm) :
    ∃ tm', PRun G cf V.n ops H l tm l' tm' ∧ Frm ops i i' tm tm' ∧ ∃ t, dstAt ops (i' - 1) = some t ∧ ∃ l, PT.get (P.of t) tm' = some (.tup l) := by
  obtain ⟨o, t, rfl, hdst, hgd, hok, hn, hV, rfl, rfl⟩ := one_some h
  obtain ⟨ho, _⟩ := drop_cons hd
  have hda : dstAt ops i = some t := by simp [dstAt, ho, hdst]
  refine ⟨PT.put (P.of t) tm (some (.tup [])), ?_, put_frm hda, t, by simpa using hda, [], PT.get_put_same _ _ _⟩
  exact .skip (hg.want hgd) hdst hn (.refl _ _)
theorem chk1_ok {k : K1} {r : Root} {o : Oper} {ev : Operand → Option AV} {a v : AV} (h : chk1 k r o.op = true) (hr : ∀ x, r.is x = true → ev x = some a) (he : ev1 G cf H.tab k a = some v) : opK G cf o ev H = .rd v := by
  unfold chk1 at h
  unfold opK
  split at h
  · rename_i x ho
    cases he
    simp only [ho, hr x h]; rfl
  · rename_i x ho
    cases he
    simp only [ho, hr x h]; rfl
  · rename_i t c ho
    split at h
    · rename_i u x h1 h2 h3
      simp only [Bool.and_eq_true] at h
      have := Nat.eq_of_beq_eq_true h.1
      subst this
      have he' : lenO G H.tab t a = some v := (okK_some _).symm.trans he
      have hm : mapO ev c.args.toList = some [a] := by
        rw [h3]
        show (Option.casesOn (ev x) none (fun b => Option.casesOn (some []) none (fun bs => some (b :: bs))) : Option (List AV)) = some [a]
        rw [hr x h.2]
      simp only [ho, callK, hm, h1, h2, he']; rfl
    · cases h
  · rename_i t u x ho
    simp only [Bool.and_eq_true] at h
    have := Nat.eq_of_beq_eq_true h.1
    subst this
    have he' : loadG cf G H.tab t a = some v := (okK_some _).symm.trans he
    simp only [ho, hr x h.2, he']; rfl
  · rename_i s f s' x f' ho
    simp only [Bool.and_eq_true] at h
    have h1 := Nat.eq_of_beq_eq_true h.1.1
    have h2 := Nat.eq_of_beq_eq_true h.1.2
    subst h1 h2
    have he' : fieldAddrO G s a f = some v := (okK_some _).symm.trans he
    simp only [ho, hr x h.2, he']; rfl
  · rename_i s f s' x f' ho
    simp only [Bool.and_eq_true] at h
    have h1 := Nat.eq_of_beq_eq_true h.1.1
    have h2 := Nat.eq_of_beq_eq_true h.1.2
    subst h1 h2
    have he' : fieldO G s a f = some v := (okK_some _).symm.trans he
    simp only [ho, hr x h.2, he']; rfl
  · rename_i i x j ho
    simp only [Bool.and_eq_true] at h
    have h1 := Nat.eq_of_beq_eq_true h.1
    subst h1
    have he' : extractO a i = some v := (okK_some _).symm.trans he
    simp only [ho, hr x h.2, he']; rfl
  · rename_i x ho
    have he' : nilChkO a = some v := (okK_some _).symm.trans he
    simp only [ho, hr x h, he']; rfl
  · rename_i op op' t x ho
    simp only [Bool.and_eq_true] at h
    have h1 := ubeq_eq h.1
    subst h1
    have he' : unK cf op a id = some v := (okK_some _).symm.trans ((unK_nat cf op a (okK none some)).symm.trans he)
    simp only [ho, hr x h.2]
    rw [unK_nat, he']; rfl
  · rename_i s d s' d' x ho
    simp only [Bool.and_eq_true] at h
    have h1 := Nat.eq_of_beq_eq_true h.1.1
    have h2 := Nat.eq_of_beq_eq_true h.1.2
    subst h1 h2
    have he' : convIK G cf H.tab s d a id = some v := (okK_some _).symm.trans ((convIK_nat G cf H.tab s d a (okK none some)).symm.trans he)
    simp only [ho, hr x h.2]
    unfold cvtK
    cases hs : slcO G H.tab s d a with
    | true =>
      exfalso
      have hn : convIK G cf H.tab s d a id = none := by
        unfold slcO at hs
        split at hs
        · split at hs
          · rename_i q1 q2 q3
            have := Nat.eq_of_beq_eq_true q1
            subst this
            split at hs
            · rename_i u hu
              simp only [convIK, convO, hu]
              rfl
            · cases hs
          · cases hs
        · cases hs
      rw [hn] at he'; cases he'
    | false =>
      simp only
      split
      · exfalso
        rename_i l off
        have hn : convIK G cf H.tab s d (.ptr l off) id = none := by
          simp only [convIK, convO]
          repeat' split
          all_goals first | rfl | (rename_i h; cases h)
        rw [hn] at he'; cases he'
      · rw [convIK_nat, he']; rfl
  · rename_i t t' x ho
    simp only [Bool.and_eq_true] at h
    have h1 := Nat.eq_of_beq_eq_true h.1
    subst h1
    have he' : mkIfaceO G t a = some v := (okK_some _).symm.trans he
    simp only [ho, hr x h.2, he']; rfl
  · rename_i xt t ok x xt' t' ok' ho
    simp only [Bool.and_eq_true] at h
    have h1 := Nat.eq_of_beq_eq_true h.1.1.1
    have h2 := Nat.eq_of_beq_eq_true h.1.1.2
    have h3 := bbeq_eq h.1.2
    subst h1 h2 h3
    have he' : assertO G a xt t ok = some v := (okK_some _).symm.trans he
    simp only [ho, hr x h.2, he']; rfl
  · rename_i t t' x ho
    simp only [Bool.and_eq_true] at h
    have h1 := Nat.eq_of_beq_eq_true h.1
    subst h1
    have he' : sliceO G t a none none = some v := (okK_some _).symm.trans he
    simp only [ho, hr x h.2, evOpt, he']; rfl
  · cases h
theorem chk2_ok {k : K2} {r q : Root} {o : Oper} {ev : Operand → Option AV} {a b v : AV} (h : chk2 k r q o.op = true) (hr : ∀ x, r.is x = true → ev x = some a) (hq : ∀ x, q.is x = true → ev x = some b) (he : ev2 G cf H.tab k a b = some v) : opK G cf o ev H = .rd v := by
  unfold chk2 at h
  unfold opK
  split at h
  · rename_i op t lit op' t' x y yt ho
    simp only [Bool.and_eq_true] at h
    have h1 := (obeq_iff _ _).1 h.1.1.1.1
    have h2 := Nat.eq_of_beq_eq_true h.1.1.1.2
    have h3 := bbeq_eq h.1.1.2
    subst h1 h2 h3
    have he' : binB G cf op t (litOp x y) a b id = some v := (okK_some _).symm.trans ((binB_nat G cf op t (litOp x y) a b (okK none some)).symm.trans he)
    simp only [ho, hr x h.1.2, hq y h.2]
    rw [← binB_eq, binB_nat, he']; rfl
  · rename_i t t' x y ho
    simp only [Bool.and_eq_true] at h
    have h1 := Nat.eq_of_beq_eq_true h.1.1
    subst h1
    have he' : indexAddrO G t a b = some v := (okK_some _).symm.trans he
    simp only [ho, hr x h.1.2, hq y h.2, he']; rfl
  · rename_i t t' x y ho
    simp only [Bool.and_eq_true] at h
    have h1 := Nat.eq_of_beq_eq_true h.1.1
    subst h1
    have he' : indexO G t a b = some v := (okK_some _).symm.trans he
    simp only [ho, hr x h.1.2, hq y h.2, he']; rfl
  · rename_i t ok t' x y ok' ho
    simp only [Bool.and_eq_true] at h
    have h1 := Nat.eq_of_beq_eq_true h.1.1.1
    have h2 := bbeq_eq h.1.1.2
    subst h1 h2
    have he' : lookO cf G H.tab t a b ok = some v := (okK_some _).symm.trans he
    simp only [ho, hr x h.1.2, hq y h.2, he']; rfl
  · rename_i c ho
    split at h
    · rename_i x y h1 h2
      simp only [Bool.and_eq_true] at h
      have he' : minO [a, b] = some v := (okK_some _).symm.trans he
      have hm : mapO ev c.args.toList = some [a, b] := by
        rw [h2]
        show (Option.casesOn (ev x) none (fun b => Option.casesOn (Option.casesOn (ev y) none (fun b => Option.casesOn (some []) none (fun bs => some (b :: bs)))) none (fun bs => some (b :: bs))) : Option (List AV)) = some [a, b]
        rw [hr x h.1, hq y h.2]
      simp only [ho, callK, hm, h1, he']; rfl
    · cases h
  · rename_i t t' x y ho
    simp only [Bool.and_eq_true] at h
    have h1 := Nat.eq_of_beq_eq_true h.1.1
    subst h1
    have he' : sliceO G t a (some b) none = some v := (okK_some _).symm.trans he
    simp only [ho, hr x h.1.2, hq y h.2, evOpt, he']; rfl
  · rename_i t t' x y ho
    simp only [Bool.and_eq_true] at h
    have h1 := Nat.eq_of_beq_eq_true h.1.1
    subst h1
    have he' : sliceO G t a none (some b) = some v := (okK_some _).symm.trans he
    simp only [ho, hr x h.1.2, hq y h.2, evOpt, he']; rfl
  · cases h
theorem chk3_ok {t : TypeId} {r q s : Root} {o : Oper} {ev : Operand → Option AV} {a b c v : AV} (h : chk3 t r q s o.op = true) (hr : ∀ x, r.is x = true → ev x = some a) (hq : ∀ x, q.is x = true → ev x = some b) (hs : ∀ x, s.is x = true → ev x = some c) (he : sliceO G t a (some b) (some c) = some v) : opK G cf o ev H = .rd v := by
  unfold chk3 at h
  unfold opK
  split at h
  · rename_i t' x y z ho
    simp only [Bool.and_eq_true] at h
    have h1 := Nat.eq_of_beq_eq_true h.1.1.1
    subst h1
    simp only [ho, hr x h.1.1.2, hq y h.1.2, hs z h.2, evOpt, he]; rfl
  · cases h
theorem chkP_ok {want : Bool} {l : AV} {r q : Root} {o : Oper} {tm : PT AV} {w : Bool} {v : AV} (h : chkP want l r q o.op = true) (hr : RootV tm r (.bool w)) (hq : w = want → RootV tm q v) (hl : w ≠ want → v = l) : opK G cf o (evO tm) H = .rd v := by
  unfold chkP at h
  unfold opK
  split at h
  · rename_i c x y ho
    simp only [Bool.and_eq_true] at h
    simp only [ho, hr.is h.1]
    have hlit : w ≠ want → ∀ z, (Root.lit l).is z = true → evO tm z = some v := fun hn z hz => by
      have : RootV tm (.lit l) v := (hl hn).symm
      exact this.is hz
    cases want with
    | true =>
      have h2 := h.2
      simp only [Bool.and_eq_true] at h2
      cases w with
      | true => show K3.ofR 8 (evO tm x) = _; rw [(hq rfl).is h2.1]; rfl
      | false => show K3.ofR 8 (evO tm y) = _; rw [hlit (by simp) y h2.2]; rfl
    | false =>
      have h2 := h.2
      simp only [Bool.and_eq_true] at h2
      cases w with
      | true => show K3.ofR 8 (evO tm x) = _; rw [hlit (by simp) x h2.1]; rfl
      | false => show K3.ofR 8 (evO tm y) = _; rw [(hq rfl).is h2.2]; rfl
  · cases h

/-! ### a tree whose guard does not hold -/
theorem skip_ok (hs : SSA ops) : ∀ (e : CE) {top : Bool} {j : Nat} {w : Bool} {i i' : Nat} {l l' : List Oper} {r : Root} {tm : PT AV}, mat V e top (some (j, w)) i l = some (r, i', l') → ops.drop i = l → GdF ops j w i tm →
    ∃ tm', PRun G cf V.n ops H l tm l' tm' ∧ Frm ops i i' tm tm' ∧ (i < i' → ∃ t, dstAt ops (i' - 1) = some t ∧ ∃ l, PT.get (P.of t) tm' = some (.tup l)) := by
  have fin : ∀ {top : Bool} {j : Nat} {w : Bool} {ok : Op → Bool} {i i1 i' : Nat} {l1 l' : List Oper} {r : Root} {l : List Oper} {tm tm1 : PT AV}, i ≤ i1 → one V top (some (j, w)) ok i1 l1 = some (r, i', l') → ops.drop i1 = l1 → GdF ops j w i tm → Frm ops i i1 tm tm1 →
      PRun G cf V.n ops H l tm l1 tm1 →
      ∃ tm', PRun G cf V.n ops H l tm l' tm' ∧ Frm ops i i' tm tm' ∧ (i < i' → ∃ t, dstAt ops (i' - 1) = some t ∧ ∃ l, PT.get (P.of t) tm' = some (.tup l)) := by
    intro top j w ok i i1 i' l1 l' r l tm tm1 hle h hd hg hf hX
    obtain ⟨tm2, h1, h2, h3⟩ := one_skip (G := G) (cf := cf) (H := H) h hd (hg.keep hs hf hle)
    obtain ⟨o, t, _, _, _, _, _, _, _, rfl⟩ := one_some h
    exact ⟨tm2, hX.trans h1, hf.trans h2 hle (by omega), fun _ => h3⟩
  intro e
  induction e with
  | tmp p =>
    intro top j w i i' l l' r tm h hd hg
    unfold mat at h
    split at h
    · cases h; exact ⟨tm, .refl _ _, .refl _ _, fun h => by omega⟩
    · cases h
  | lit v =>
    intro top j w i i' l l' r tm h hd hg
    unfold mat at h
    split at h
    · cases h; exact ⟨tm, .refl _ _, .refl _ _, fun h => by omega⟩
    · cases h
  | n1 k e ih =>
    intro top j w i i' l l' r tm h hd hg
    unfold mat at h
    split at h
    · rename_i r1 i1 l1 h1
      have f1 := mat_facts e h1 hd
      obtain ⟨tm1, e1, fr1, _⟩ := ih h1 hd hg
      exact fin f1.le h f1.dr hg fr1 e1
    · cases h
  | n2 k a b iha ihb =>
    intro top j w i i' l l' r tm h hd hg
    unfold mat at h
    split at h
    · rename_i r1 i1 l1 h1
      have f1 := mat_facts a h1 hd
      obtain ⟨tm1, e1, fr1, _⟩ := iha h1 hd hg
      split at h
      · rename_i r2 i2 l2 h2
        have f2 := mat_facts b h2 f1.dr
        obtain ⟨tm2, e2, fr2, _⟩ := ihb h2 f1.dr (hg.keep hs fr1 f1.le)
        exact fin (Nat.le_trans f1.le f2.le) h f2.dr hg (fr1.trans fr2 f1.le f2.le) (e1.trans e2)
      · cases h
    · cases h
  | sl t x a b ihx iha ihb =>
    intro top j w i i' l l' r tm h hd hg
    unfold mat at h
    split at h
    · rename_i r1 i1 l1 h1
      have f1 := mat_facts x h1 hd
      obtain ⟨tm1, e1, fr1, _⟩ := ihx h1 hd hg
      split at h
      · rename_i r2 i2 l2 h2
        have f2 := mat_facts a h2 f1.dr
        obtain ⟨tm2, e2, fr2, _⟩ := iha h2 f1.dr (hg.keep hs fr1 f1.le)
        have fr12 := fr1.trans fr2 f1.le f2.le
        split at h
        · rename_i r3 i3 l3 h3
          have f3 := mat_facts b h3 f2.dr
          obtain ⟨tm3, e3, fr3, _⟩ := ihb h3 f2.dr (hg.keep hs fr12 (Nat.le_trans f1.le f2.le))
          exact fin (Nat.le_trans f1.le (Nat.le_trans f2.le f3.le)) h f3.dr hg (fr12.trans fr3 (Nat.le_trans f1.le f2.le) f3.le) ((e1.trans e2).trans e3)
        · cases h
      · cases h
    · cases h
  | pick want c a lv ihc iha =>
    intro top j w i i' l l' r tm h hd hg
    unfold mat at h
    split at h
    · rename_i r1 i1 l1 h1
      have f1 := mat_facts c h1 hd
      obtain ⟨tm1, e1, fr1, k1⟩ := ihc h1 hd hg
      split at h
      · rename_i hlt
        have hlt := Nat.le_of_ble_eq_true hlt
        obtain ⟨t, ht1, ht2⟩ := k1 hlt
        split at h
        · rename_i r2 i2 l2 h2
          have f2 := mat_facts a h2 f1.dr
          obtain ⟨tm2, e2, fr2, _⟩ := iha h2 f1.dr (tm := tm1) ⟨by have : Nat.pred i1 = i1 - 1 := rfl; omega, t, ht1, .inr ht2⟩
          exact fin (Nat.le_trans f1.le f2.le) h f2.dr hg (fr1.trans fr2 f1.le f2.le) (e1.trans e2)
        · cases h
      · cases h
    · cases h

/-! ### a tree is done -/
theorem mat_ok (hs : SSA ops) {tm : PT AV} : ∀ (e : CE) {top : Bool} {g : Gd} {i i' : Nat} {l l' : List Oper} {r : Root} {tmO : PT AV} {v : AV}, mat V e top g i l = some (r, i', l') → ops.drop i = l → Sub V tm tmO → GdT ops g i tmO → cev G cf H.tab tm e = some v →
    ∃ tmO', PRun G cf V.n ops H l tmO l' tmO' ∧ Frm ops i i' tmO tmO' ∧ RootV tmO' r v := by
  have fin : ∀ {top : Bool} {g : Gd} {ok : Op → Bool} {i i1 i' : Nat} {l1 l' : List Oper} {r : Root} {l : List Oper} {tm0 tm1 : PT AV} {v : AV}, i ≤ i1 → one V top g ok i1 l1 = some (r, i', l') → ops.drop i1 = l1 → GdT ops g i tm0 → Frm ops i i1 tm0 tm1 →
      PRun G cf V.n ops H l tm0 l1 tm1 → (∀ o : Oper, ok o.op = true → opK G cf o (evO tm1) H = .rd v) →
      ∃ tmO', PRun G cf V.n ops H l tm0 l' tmO' ∧ Frm ops i i' tm0 tmO' ∧ RootV tmO' r v := by
    intro top g ok i i1 i' l1 l' r l tm0 tm1 v hle h hd hg hf hX hop
    obtain ⟨tm2, h1, h2, h3⟩ := one_ok (G := G) (cf := cf) (H := H) h hd (hg.keep hs hf hle) hop
    obtain ⟨o, t, _, _, _, _, _, _, _, rfl⟩ := one_some h
    exact ⟨tm2, hX.trans h1, hf.trans h2 hle (by omega), h3⟩
  intro e
  induction e with
  | tmp p =>
    intro top g i i' l l' r tmO v h hd hsub hg hv
    unfold mat at h
    split at h
    · rename_i hV
      cases h
      refine ⟨tmO, .refl _ _, .refl _ _, hsub _ _ hV ?_⟩
      rw [P.of_toNat]
      exact (okK_some _).symm.trans hv
    · cases h
  | lit u =>
    intro top g i i' l l' r tmO v h hd hsub hg hv
    unfold mat at h
    split at h
    · cases h
      cases hv
      exact ⟨tmO, .refl _ _, .refl _ _, rfl⟩
    · cases h
  | n1 k e ih =>
    intro top g i i' l l' r tmO v h hd hsub hg hv
    have hv' : okK none (fun a => ev1K G cf none some H.tab k a) (cev G cf H.tab tm e) = some v := (cevK_eq G cf H.tab tm e none _).symm.trans hv
    cases hc : cev G cf H.tab tm e with
    | none => rw [hc] at hv'; cases hv'
    | some a =>
      rw [hc] at hv'
      have hv'' : ev1 G cf H.tab k a = some v := hv'
      unfold mat at h
      split at h
      · rename_i r1 i1 l1 h1
        have f1 := mat_facts e h1 hd
        obtain ⟨tm1, e1, fr1, hr1⟩ := ih h1 hd hsub hg hc
        exact fin f1.le h f1.dr hg fr1 e1 (fun o hok => chk1_ok hok (fun x hx => hr1.is hx) hv'')
      · cases h
  | n2 k a b iha ihb =>
    intro top g i i' l l' r tmO v h hd hsub hg hv
    have hv1 : okK none (fun x => cevK G cf none H.tab tm b (fun y => ev2K G cf none some H.tab k x y)) (cev G cf H.tab tm a) = some v := (cevK_eq G cf H.tab tm a none _).symm.trans hv
    cases hca : cev G cf H.tab tm a with
    | none => rw [hca] at hv1; cases hv1
    | some x =>
      rw [hca] at hv1
      have hv2 : okK none (fun y => ev2K G cf none some H.tab k x y) (cev G cf H.tab tm b) = some v := (cevK_eq G cf H.tab tm b none _).symm.trans hv1
      cases hcb : cev G cf H.tab tm b with
      | none => rw [hcb] at hv2; cases hv2
      | some y =>
        rw [hcb] at hv2
        have hv3 : ev2 G cf H.tab k x y = some v := hv2
        unfold mat at h
        split at h
        · rename_i r1 i1 l1 h1
          have f1 := mat_facts a h1 hd
          obtain ⟨tm1, e1, fr1, hr1⟩ := iha h1 hd hsub hg hca
          split at h
          · rename_i r2 i2 l2 h2
            have f2 := mat_facts b h2 f1.dr
            obtain ⟨tm2, e2, fr2, hr2⟩ := ihb h2 f1.dr (hsub.keep f1 fr1) (hg.keep hs fr1 f1.le) hcb
            have hr1' := hr1.keep hs f1 f2 fr2
            exact fin (Nat.le_trans f1.le f2.le) h f2.dr hg (fr1.trans fr2 f1.le f2.le) (e1.trans e2) (fun o hok => chk2_ok hok (fun x hx => hr1'.is hx) (fun x hx => hr2.is hx) hv3)
          · cases h
        · cases h
  | sl t x a b ihx iha ihb =>
    intro top g i i' l l' r tmO v h hd hsub hg hv
    have hv1 : okK none (fun p => cevK G cf none H.tab tm a (fun q => cevK G cf none H.tab tm b (fun s => okK none some (sliceO G t p (some q) (some s))))) (cev G cf H.tab tm x) = some v := (cevK_eq G cf H.tab tm x none _).symm.trans hv
    cases hcx : cev G cf H.tab tm x with
    | none => rw [hcx] at hv1; cases hv1
    | some p =>
      rw [hcx] at hv1
      have hv2 : okK none (fun q => cevK G cf none H.tab tm b (fun s => okK none some (sliceO G t p (some q) (some s)))) (cev G cf H.tab tm a) = some v := (cevK_eq G cf H.tab tm a none _).symm.trans hv1
      cases hca : cev G cf H.tab tm a with
      | none => rw [hca] at hv2; cases hv2
      | some q =>
        rw [hca] at hv2
        have hv3 : okK none (fun s => okK none some (sliceO G t p (some q) (some s))) (cev G cf H.tab tm b) = some v := (cevK_eq G cf H.tab tm b none _).symm.trans hv2
        cases hcb : cev G cf H.tab tm b with
        | none => rw [hcb] at hv3; cases hv3
        | some s =>
          rw [hcb] at hv3
          have hv4 : sliceO G t p (some q) (some s) = some v := (okK_some _).symm.trans hv3
          unfold mat at h
          split at h
          · rename_i r1 i1 l1 h1
            have f1 := mat_facts x h1 hd
            obtain ⟨tm1, e1, fr1, hr1⟩ := ihx h1 hd hsub hg hcx
            split at h
            · rename_i r2 i2 l2 h2
              have f2 := mat_facts a h2 f1.dr
              obtain ⟨tm2, e2, fr2, hr2⟩ := iha h2 f1.dr (hsub.keep f1 fr1) (hg.keep hs fr1 f1.le) hca
              have hr1' := hr1.keep hs f1 f2 fr2
              have fr12 := fr1.trans fr2 f1.le f2.le
              have h12 := Nat.le_trans f1.le f2.le
              split at h
              · rename_i r3 i3 l3 h3
                have f3 := mat_facts b h3 f2.dr
                obtain ⟨tm3, e3, fr3, hr3⟩ := ihb h3 f2.dr ((hsub.keep f1 fr1).keep f2 fr2) (hg.keep hs fr12 h12) hcb
                have hr2' := hr2.keep hs f2 f3 fr3
                have hr1'' : RootV tm3 r1 p := by
                  cases r1 with
                  | lit u => exact hr1'
                  | tmp u =>
                    refine (fr3 u (fun j ja jb je => ?_)).trans hr1'
                    rcases f1.rt with ⟨_, _, ⟨_, k1⟩ | ⟨z, k1, k2⟩⟩ | ⟨_, z, k1, k2, _⟩
                    · cases k1
                    · cases k1; rw [f3.nk ja jb je] at k2; cases k2
                    · cases k1
                      have := hs _ _ _ k2 je
                      have := f1.le
                      have := f2.le
                      omega
                exact fin (Nat.le_trans h12 f3.le) h f3.dr hg (fr12.trans fr3 h12 f3.le) ((e1.trans e2).trans e3) (fun o hok => chk3_ok hok (fun x hx => hr1''.is hx) (fun x hx => hr2'.is hx) (fun x hx => hr3.is hx) hv4)
              · cases h
            · cases h
          · cases h
  | pick want c a lv ihc iha =>
    intro top g i i' l l' r tmO v h hd hsub hg hv
    have hv1 : okK none (fun x => pickK none some want lv (cevK G cf none H.tab tm a) x) (cev G cf H.tab tm c) = some v := (cevK_eq G cf H.tab tm c none _).symm.trans hv
    cases hcc : cev G cf H.tab tm c with
    | none => rw [hcc] at hv1; cases hv1
    | some x =>
      rw [hcc] at hv1
      have hv2 : pickK none some want lv (cevK G cf none H.tab tm a) x = some v := hv1
      unfold pickK at hv2
      split at hv2
      · rename_i w
        unfold mat at h
        split at h
        · rename_i r1 i1 l1 h1
          have f1 := mat_facts c h1 hd
          obtain ⟨tm1, e1, fr1, hr1⟩ := ihc h1 hd hsub hg hcc
          split at h
          · rename_i hlt
            have hlt := Nat.le_of_ble_eq_true hlt
            have hpr : Nat.pred i1 = i1 - 1 := rfl
            obtain ⟨t, ht1, ht2, ht3⟩ : ∃ t, r1 = .tmp t ∧ dstAt ops (i1 - 1) = some t ∧ V.has t = false := by
              rcases f1.rt with ⟨e, _⟩ | ⟨_, t, a1, a2, a3⟩
              · omega
              · exact ⟨t, a1, a2, a3⟩
            have hgt : PT.get (P.of t) tm1 = some (.bool w) := by rw [ht1] at hr1; exact hr1
            split at h
            · rename_i r2 i2 l2 h2
              have f2 := mat_facts a h2 f1.dr
              by_cases hw : w = want
              · have hca : cev G cf H.tab tm a = some v := by
                  subst hw
                  cases w <;> exact hv2
                obtain ⟨tm2, e2, fr2, hr2⟩ := iha h2 f1.dr (hsub.keep f1 fr1) (show GdT ops (some (Nat.pred i1, want)) i1 tm1 from ⟨by omega, t, ht2, by rw [← hw]; exact hgt⟩) hca
                have hr1' := hr1.keep hs f1 f2 fr2
                exact fin (Nat.le_trans f1.le f2.le) h f2.dr hg (fr1.trans fr2 f1.le f2.le) (e1.trans e2) (fun o hok => chkP_ok hok hr1' (fun _ => hr2) (fun hn => absurd hw hn))
              · have hvl : v = lv := by
                  cases w <;> cases want
                  · exact absurd rfl hw
                  · cases hv2; rfl
                  · cases hv2; rfl
                  · exact absurd rfl hw
                obtain ⟨tm2, e2, fr2, _⟩ := skip_ok (G := G) (cf := cf) (H := H) hs a h2 f1.dr (tm := tm1) ⟨by omega, t, ht2, .inl (by rw [hgt]; cases w <;> cases want <;> first | rfl | exact absurd rfl hw)⟩
                have hr1' := hr1.keep hs f1 f2 fr2
                exact fin (Nat.le_trans f1.le f2.le) h f2.dr hg (fr1.trans fr2 f1.le f2.le) (e1.trans e2) (fun o hok => chkP_ok hok hr1' (fun he => absurd he hw) (fun _ => hvl))
            · cases h
          · cases h
        · cases h
      · cases hv2
end
end Go.Ai
