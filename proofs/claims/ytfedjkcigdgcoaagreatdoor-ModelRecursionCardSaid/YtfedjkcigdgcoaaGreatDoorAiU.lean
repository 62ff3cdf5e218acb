/- The row of the text: what follows of its records. -/
import Derived.Test.YtfedjkcigdgcoaaGreatDoorAiT
namespace Go.Ai
open Go Go.RowKit
set_option linter.unusedVariables false
variable {G : Program} {cf : Cf} {call : CallF} {n : Nat} {ops : List Oper} {as : List Nat} {names : List P} {tm0 : PT AV} {H00 : Hp}
def rec? (q : Tq) (i : Nat) : Option TE := q.s.rl.reverse[i]?
theorem Ts.rl {q q' : Tq} {o : Oper} {te : TE} (h : Ts G cf call n ops as names q o te q') : q'.s.rl = te :: q.s.rl := by cases h <;> rfl
theorem Ts.put {q q' : Tq} {o : Oper} {te : TE} (h : Ts G cf call n ops as names q o te q') : putF n o.dst q.tm te.val = some q'.tm := by cases h <;> assumption
theorem Ts.rec_old {q q' : Tq} {o : Oper} {te : TE} (h : Ts G cf call n ops as names q o te q') {j : Nat} (hj : j < q.s.rl.length) : rec? q' j = rec? q j := by
  unfold rec?; rw [h.rl, List.reverse_cons, List.getElem?_append_left (by simpa using hj)]
theorem Ts.rec_new {q q' : Tq} {o : Oper} {te : TE} (h : Ts G cf call n ops as names q o te q') : rec? q' q.s.rl.length = some te := by
  unfold rec?; rw [h.rl, List.reverse_cons]; simp
theorem rec_lt {q : Tq} {i : Nat} {te : TE} (h : rec? q i = some te) : i < q.s.rl.length := by
  have := (List.getElem?_eq_some_iff.1 h).1; simpa using this
def Chn (as : List Nat) : List Nat → Prop
  | [] => True
  | w :: l => chained (gD as w) l = true ∧ Chn as l
structure TrF (G : Program) (cf : Cf) (call : CallF) (n : Nat) (ops : List Oper) (as : List Nat) (names : List P) (tm0 : PT AV) (H00 : Hp) (q : Tq) : Prop where
  hd : ∃ l, q.s.hs = q.H :: l
  ln : q.s.hs.length = q.s.wl.length + 1
  ch : Chn as q.s.wl
  wlt : ∀ w ∈ q.s.wl, w < q.s.rl.length
  wrec : ∀ w ∈ q.s.wl, ∃ v, rec? q w = some (.wr v)
  xlt : ∀ x ∈ q.s.xs, x.1 < q.s.rl.length
  xrec : ∀ x ∈ q.s.xs, ∃ v, rec? q x.1 = some (.al x.2.1 x.2.2 v)
  xnm : ∀ x ∈ q.s.xs, names[x.1]? = some x.2.1
  src : ∀ t v, PT.get (P.of t) q.tm = some v → (∃ j o te, j < q.s.rl.length ∧ ops[j]? = some o ∧ o.dst = some t ∧ rec? q j = some te ∧ v = te.val) ∨ ((∀ j o, j < q.s.rl.length → ops[j]? = some o → o.dst ≠ some t) ∧ PT.get (P.of t) tm0 = some v)
theorem putF_get {n : Nat} {d : Option Nat} {tm tm' : PT AV} {v u : AV} {t : Nat} (h : putF n d tm v = some tm') (e : PT.get (P.of t) tm' = some u) : (d = some t ∧ u = v ∧ t < n) ∨ (d ≠ some t ∧ PT.get (P.of t) tm = some u) := by
  unfold putF at h
  cases d with
  | none => cases h; exact .inr ⟨by simp, e⟩
  | some k =>
    simp only at h
    split at h
    · rename_i hl
      have hl := Nat.le_of_ble_eq_true hl
      cases h
      by_cases hk : k = t
      · subst hk
        rw [PT.get_put_same] at e
        cases e
        exact .inl ⟨rfl, rfl, hl⟩
      · rw [PT.get_put_other (fun e => hk (P.of_inj e))] at e
        exact .inr ⟨by simpa using hk, e⟩
    · cases h
theorem Tr.facts {q : Tq} (h : Tr G cf call n ops as names tm0 H00 q) : TrF G cf call n ops as names tm0 H00 q := by
  induction h with
  | nil => exact ⟨⟨[], rfl⟩, rfl, trivial, by simp, by simp, by simp, by simp, by simp, fun t v e => .inr ⟨fun j o hj => by simp at hj, e⟩⟩
  | cons h ho hs ih =>
    rename_i q q' o te
    have hrl := hs.rl
    have hlen : q'.s.rl.length = q.s.rl.length + 1 := by rw [hrl]; rfl
    have src : ∀ t v, PT.get (P.of t) q'.tm = some v → (∃ j o te, j < q'.s.rl.length ∧ ops[j]? = some o ∧ o.dst = some t ∧ rec? q' j = some te ∧ v = te.val) ∨ ((∀ j o, j < q'.s.rl.length → ops[j]? = some o → o.dst ≠ some t) ∧ PT.get (P.of t) tm0 = some v) := by
      intro t v e
      rcases putF_get hs.put e with ⟨h1, h2, _⟩ | ⟨h1, h2⟩
      · exact .inl ⟨q.s.rl.length, o, te, by omega, ho, h1, hs.rec_new, h2⟩
      · rcases ih.src t v h2 with ⟨j, oj, tj, h3, h4, h5, h6, h7⟩ | ⟨h3, h4⟩
        · exact .inl ⟨j, oj, tj, by omega, h4, h5, by rw [hs.rec_old h3]; exact h6, h7⟩
        · refine .inr ⟨fun j oj hj hoj => ?_, h4⟩
          by_cases hjl : j < q.s.rl.length
          · exact h3 j oj hjl hoj
          · have : j = q.s.rl.length := by omega
            subst this
            rw [ho] at hoj; cases hoj; exact h1
    have wl0 : ∀ w ∈ q.s.wl, w < q'.s.rl.length ∧ ∃ v, rec? q' w = some (.wr v) := fun w hw =>
      ⟨by have := ih.wlt w hw; omega, let ⟨v, hv⟩ := ih.wrec w hw; ⟨v, by rw [hs.rec_old (ih.wlt w hw)]; exact hv⟩⟩
    have xs0 : ∀ x ∈ q.s.xs, x.1 < q'.s.rl.length ∧ (∃ v, rec? q' x.1 = some (.al x.2.1 x.2.2 v)) ∧ names[x.1]? = some x.2.1 := fun x hx =>
      ⟨by have := ih.xlt x hx; omega, (let ⟨v, hv⟩ := ih.xrec x hx; ⟨v, by rw [hs.rec_old (ih.xlt x hx)]; exact hv⟩), ih.xnm x hx⟩
    have hnew := hs.rec_new
    cases hs with
    | skip hw hp => exact ⟨ih.hd, ih.ln, ih.ch, fun w hw => (wl0 w hw).1, fun w hw => (wl0 w hw).2, fun x hx => (xs0 x hx).1, fun x hx => (xs0 x hx).2.1, fun x hx => (xs0 x hx).2.2, src⟩
    | rd hw hop hp => exact ⟨ih.hd, ih.ln, ih.ch, fun w hw => (wl0 w hw).1, fun w hw => (wl0 w hw).2, fun x hx => (xs0 x hx).1, fun x hx => (xs0 x hx).2.1, fun x hx => (xs0 x hx).2.2, src⟩
    | al hw hop hal hl hp =>
      refine ⟨ih.hd, ih.ln, ih.ch, fun w hw => (wl0 w hw).1, fun w hw => (wl0 w hw).2, fun x hx => ?_, fun x hx => ?_, fun x hx => ?_, src⟩
      · rcases List.mem_cons.1 hx with rfl | hx
        · simp
        · exact (xs0 x hx).1
      · rcases List.mem_cons.1 hx with rfl | hx
        · exact ⟨_, hnew⟩
        · exact (xs0 x hx).2.1
      · rcases List.mem_cons.1 hx with rfl | hx
        · exact hl
        · exact (xs0 x hx).2.2
    | wr hw hc hst hp =>
      refine ⟨⟨_, rfl⟩, by simp [ih.ln], ⟨hc, ih.ch⟩, fun w hw => ?_, fun w hw => ?_, fun x hx => (xs0 x hx).1, fun x hx => (xs0 x hx).2.1, fun x hx => (xs0 x hx).2.2, src⟩
      · rcases List.mem_cons.1 hw with rfl | hw
        · simp
        · exact (wl0 w hw).1
      · rcases List.mem_cons.1 hw with rfl | hw
        · exact ⟨_, hnew⟩
        · exact (wl0 w hw).2
/-- one row goes on from another -/
structure Ext (q q' : Tq) : Prop where
  rc : ∀ j, j < q.s.rl.length → rec? q' j = rec? q j
  ws : ∃ b c, b.length = c.length ∧ q'.s.hs = b ++ q.s.hs ∧ q'.s.wl = c ++ q.s.wl
  xs : ∀ x ∈ q.s.xs, x ∈ q'.s.xs
  le : q.s.rl.length ≤ q'.s.rl.length
  lt : ∀ c, q'.s.wl = c ++ q.s.wl → ∀ x ∈ c, q.s.rl.length ≤ x
theorem Ext.refl (q : Tq) : Ext q q := ⟨fun _ _ => rfl, ⟨[], [], rfl, rfl, rfl⟩, fun _ h => h, Nat.le_refl _, fun c hc x hx => by
  have : c = [] := by
    have := congrArg List.length hc
    simp at this
    exact this
  subst this; cases hx⟩
theorem Ext.trans {q q' q'' : Tq} (h : Ext q q') (k : Ext q' q'') : Ext q q'' := by
  obtain ⟨b, c, h1, h2, h3⟩ := h.ws
  obtain ⟨b', c', k1, k2, k3⟩ := k.ws
  exact ⟨fun j hj => (k.rc j (Nat.lt_of_lt_of_le hj h.le)).trans (h.rc j hj), ⟨b' ++ b, c' ++ c, by simp [h1, k1], by rw [k2, h2, List.append_assoc], by rw [k3, h3, List.append_assoc]⟩, fun x hx => k.xs x (h.xs x hx), Nat.le_trans h.le k.le, fun d hd x hx => by
    have hd' : c' ++ c = d := by
      rw [k3, h3, ← List.append_assoc] at hd
      exact List.append_cancel_right hd
    subst hd'
    rcases List.mem_append.1 hx with hx | hx
    · exact Nat.le_trans h.le (k.lt c' k3 x hx)
    · exact h.lt c h3 x hx⟩
theorem Ts.ext {q q' : Tq} {o : Oper} {te : TE} (h : Ts G cf call n ops as names q o te q') : Ext q q' := by
  refine ⟨fun j hj => h.rec_old hj, ?_, ?_, by rw [h.rl]; simp, ?_⟩
  · cases h with
    | wr => exact ⟨[_], [_], rfl, rfl, rfl⟩
    | _ => exact ⟨[], [], rfl, rfl, rfl⟩
  · cases h with
    | al => exact fun x hx => List.mem_cons_of_mem _ hx
    | _ => exact fun x hx => hx
  · intro d hd x hx
    cases h with
    | wr =>
      have : [q.s.rl.length] = d := List.append_cancel_right (show [q.s.rl.length] ++ q.s.wl = d ++ q.s.wl from hd)
      subst this
      rw [List.mem_singleton.1 hx]
      exact Nat.le_refl _
    | _ =>
      have : [] = d := List.append_cancel_right (show [] ++ q.s.wl = d ++ q.s.wl from hd)
      subst this
      cases hx
theorem Tr.at {q : Tq} (h : Tr G cf call n ops as names tm0 H00 q) : ∀ {i : Nat}, i < q.s.rl.length → ∃ q1 o te q2, Tr G cf call n ops as names tm0 H00 q1 ∧ q1.s.rl.length = i ∧ ops[i]? = some o ∧ Ts G cf call n ops as names q1 o te q2 ∧ Ext q2 q := by
  induction h with
  | nil => intro i hi; simp at hi
  | cons h ho hs ih =>
    rename_i q q' o te
    intro i hi
    rw [hs.rl] at hi
    by_cases hil : i < q.s.rl.length
    · obtain ⟨q1, o1, te1, q2, a, b, c, d, e⟩ := ih hil
      exact ⟨q1, o1, te1, q2, a, b, c, d, e.trans hs.ext⟩
    · have : i = q.s.rl.length := by simp only [List.length_cons] at hi; omega
      subst this
      exact ⟨q, o, te, q', h, rfl, ho, hs, .refl _⟩
theorem tes_at {xs : List (Nat × P × AObj)} {sn : List Sn} : ∀ {rl : List TE}, tesOk G cf ops as xs sn rl = true → ∀ i te, rl.reverse[i]? = some te → ∃ o, ops[i]? = some o ∧ teOk G cf as xs sn i o te = true
  | [], _, i, te, h => by simp at h
  | t :: rl, h, i, te, e => by
    have h' : (match nthL ops (lenL rl) with
      | some o => match teOk G cf as xs sn (lenL rl) o t with
        | true => tesOk G cf ops as xs sn rl
        | false => false
      | none => false) = true := h
    split at h'
    · rename_i o ho
      split at h'
      · rename_i ht
        rw [nthL_eq, lenL_eq] at ho
        rw [lenL_eq] at ht
        by_cases hi : i < rl.length
        · rw [List.reverse_cons, List.getElem?_append_left (by simpa using hi)] at e
          exact tes_at h' i te e
        · have hlt := (List.getElem?_eq_some_iff.1 e).1
          simp only [List.length_reverse, List.length_cons] at hlt
          have : i = rl.length := by omega
          subst this
          rw [List.reverse_cons] at e
          simp at e
          subst e
          exact ⟨o, ho, ht⟩
      · cases h'
    · cases h'
/-! ### which heap one meets -/
def Base (S : Nat → Prop) : List Nat → List Hp → Hp → Prop
  | [], H :: _, X => X = H
  | w :: wl, H :: hs, X => (S w ∧ X = H) ∨ (¬ S w ∧ Base S wl hs X)
  | _, [], _ => False
theorem Base.congr {S S' : Nat → Prop} : ∀ {wl : List Nat} {hs : List Hp} {X : Hp}, (∀ w ∈ wl, S w ↔ S' w) → Base S wl hs X → Base S' wl hs X
  | [], [], X, _, h => h
  | [], H :: _, X, _, h => h
  | w :: wl, [], X, _, h => h
  | w :: wl, H :: hs, X, hw, h => by
    have h1 := hw w List.mem_cons_self
    rcases h with ⟨a, b⟩ | ⟨a, b⟩
    · exact .inl ⟨h1.1 a, b⟩
    · exact .inr ⟨fun h => a (h1.2 h), b.congr (fun w' hw' => hw w' (List.mem_cons_of_mem _ hw'))⟩
theorem chn_closed {as : List Nat} {S : Nat → Prop} (clo : ∀ i, S i → ∀ x, bit (gD as i) x = true → S x) : ∀ {wl : List Nat} {w : Nat}, Chn as (w :: wl) → S w → ∀ w' ∈ wl, S w'
  | [], w, _, _, w', h => by simp at h
  | v :: wl, w, hc, hw, w', h => by
    have hv : S v := clo w hw v hc.1
    rcases List.mem_cons.1 h with rfl | h
    · exact hv
    · exact chn_closed clo hc.2 hv w' h
theorem chn_suffix {as : List Nat} : ∀ {c wl : List Nat}, Chn as (c ++ wl) → Chn as wl
  | [], _, h => h
  | _ :: c, wl, h => chn_suffix (c := c) h.2
theorem chn_mem {as : List Nat} {S : Nat → Prop} (clo : ∀ i, S i → ∀ x, bit (gD as i) x = true → S x) : ∀ {c wl : List Nat} {i : Nat}, Chn as (c ++ i :: wl) → ∀ w ∈ c, S w → S i
  | [], wl, i, _, w, h, _ => by simp at h
  | v :: c, wl, i, hc, w, h, hw => by
    rcases List.mem_cons.1 h with rfl | h
    · exact chn_closed clo hc hw i (by simp)
    · exact chn_mem clo hc.2 w h hw
/-- the heap that the next writer meets, and the one behind it -/
theorem base_next {as : List Nat} {S : Nat → Prop} (clo : ∀ i, S i → ∀ x, bit (gD as i) x = true → S x) {i : Nat} (hi : ¬ S i) {wl1 : List Nat} {H H' : Hp} {hs1 : List Hp} (hc0 : chained (gD as i) wl1 = true) (hcl : ∀ x, bit (gD as i) x = true → S x) :
    ∀ {c : List Nat} {b : List Hp} {X : Hp}, b.length = c.length → Chn as (c ++ i :: wl1) → (∀ w ∈ c, w ≠ i) → Base S (c ++ i :: wl1) (b ++ H' :: H :: hs1) X → X = H ∧ Base (fun j => S j ∨ j = i) (c ++ i :: wl1) (b ++ H' :: H :: hs1) H'
  | [], [], X, _, hc, _, h => by
    rcases h with ⟨a, _⟩ | ⟨_, h⟩
    · exact absurd a hi
    · refine ⟨?_, .inl ⟨.inr rfl, rfl⟩⟩
      cases wl1 with
      | nil => exact h
      | cons w wl1 =>
        rcases h with ⟨_, e⟩ | ⟨a, _⟩
        · exact e
        · exact absurd (hcl w hc0) a
  | v :: c, B :: b, X, hl, hc, hne, h => by
    have hv : ¬ S v := fun hv => hi (chn_mem clo hc v List.mem_cons_self hv)
    rcases h with ⟨a, _⟩ | ⟨_, h⟩
    · exact absurd a hv
    · obtain ⟨h1, h2⟩ := base_next clo hi hc0 hcl (by simpa using hl) hc.2 (fun w hw => hne w (List.mem_cons_of_mem _ hw)) h
      exact ⟨h1, .inr ⟨fun h => h.elim hv (hne v List.mem_cons_self), h2⟩⟩
  | [], _ :: _, X, hl, _, _, _ => by simp at hl
  | _ :: _, [], X, hl, _, _, _ => by simp at hl
theorem snaps_mem {as : List Nat} {S : Nat → Prop} (clo : ∀ i, S i → ∀ x, bit (gD as i) x = true → S x) : ∀ {wl : List Nat} {hs : List Hp} {X : Hp} {nxt : Option Nat}, Chn as wl → Base S wl hs X → (∀ w, nxt = some w → ¬ S w) →
    ∃ s ∈ snaps wl hs nxt, s.H = X ∧ (∀ w ∈ s.done, S w) ∧ (∀ w, s.next = some w → ¬ S w) ∧ ∀ w ∈ wl, S w → w ∈ s.done
  | [], [], X, nxt, _, h, _ => by cases h
  | [], H :: hs, X, nxt, _, h, hn => ⟨⟨H, [], nxt⟩, List.mem_singleton.2 rfl, h.symm, by simp, hn, by simp⟩
  | w :: wl, [], X, nxt, _, h, _ => by cases h
  | w :: wl, H :: hs, X, nxt, hc, h, hn => by
    have e : snaps (w :: wl) (H :: hs) nxt = ⟨H, w :: wl, nxt⟩ :: snaps wl hs (some w) := rfl
    rw [e]
    rcases h with ⟨a, rfl⟩ | ⟨a, h⟩
    · refine ⟨⟨X, w :: wl, nxt⟩, List.mem_cons_self, rfl, fun w' hw' => ?_, hn, fun w' hw' _ => hw'⟩
      rcases List.mem_cons.1 hw' with rfl | hw'
      · exact a
      · exact chn_closed clo hc a w' hw'
    · obtain ⟨s, h1, h2, h3, h4, h5⟩ := snaps_mem clo (nxt := some w) hc.2 h (fun w' e => by cases e; exact a)
      refine ⟨s, List.mem_cons_of_mem _ h1, h2, h3, h4, fun w' hw' hs' => ?_⟩
      rcases List.mem_cons.1 hw' with rfl | hw'
      · exact absurd hs' a
      · exact h5 w' hw' hs'
theorem base_none {q : Tq} (h : Tr G cf call n ops as names tm0 H00 q) : Base (fun _ => False) q.s.wl q.s.hs H00 := by
  induction h with
  | nil => rfl
  | cons h ho hs ih =>
    cases hs with
    | wr => exact .inr ⟨fun h => h, ih⟩
    | _ => exact ih
theorem allL_mem {α : Type} {f : α → Bool} : ∀ {l : List α}, allL f l = true → ∀ a ∈ l, f a = true
  | [], _, a, h => by simp at h
  | b :: l, h, a, ha => by
    obtain ⟨h1, h2⟩ := allL_cons h
    rcases List.mem_cons.1 ha with rfl | ha
    · exact h1
    · exact allL_mem h2 a ha
/-! ### those that stand in an order -/
theorem wrs_kind {o : Oper} {ev : Operand → Option AV} {T H' : Hp} {v : AV} (h : WrS G cf call o ev T v H') : ¬ kindO o.op ≤ 1 := by
  intro hk
  rcases kind_rd (G := G) (cf := cf) (ev := ev) (H := T) hk with ⟨u, e⟩ | ⟨u, e⟩
  · cases h with
    | wv h => rw [e] at h; cases h
    | wu h => rw [e] at h; cases h
    | call h => rw [e] at h; cases h
  · cases h with
    | wv h => rw [e] at h; cases h
    | wu h => rw [e] at h; cases h
    | call h => rw [e] at h; cases h
/-- a writer's operation writes -/
theorem wl_kind {q : Tq} (h : Tr G cf call n ops as names tm0 H00 q) (ho : ordB as ops 0 = true) : ∀ w ∈ q.s.wl, w < q.s.rl.length ∧ ∃ o, ops[w]? = some o ∧ kindO o.op = 2 := by
  induction h with
  | nil => intro w hw; cases hw
  | cons h hop hs ih =>
    rename_i q q' o te
    intro w hw
    have hle : q'.s.rl.length = q.s.rl.length + 1 := by rw [hs.rl]; rfl
    cases hs with
    | wr hw1 hc hs' hp =>
      rcases List.mem_cons.1 hw with rfl | hw
      · have := wrs_kind hs'
        have := (ordB_ok ho).1 _ _ hop
        exact ⟨by omega, o, hop, by omega⟩
      · obtain ⟨a, b⟩ := ih w hw; exact ⟨by omega, b⟩
    | skip => obtain ⟨a, b⟩ := ih w hw; exact ⟨by omega, b⟩
    | rd => obtain ⟨a, b⟩ := ih w hw; exact ⟨by omega, b⟩
    | al => obtain ⟨a, b⟩ := ih w hw; exact ⟨by omega, b⟩
theorem xs_al {q : Tq} (h : Tr G cf call n ops as names tm0 H00 q) : ∀ x ∈ q.s.xs, ∃ o, ops[x.1]? = some o ∧ isAl o.op = true := by
  induction h with
  | nil => intro x hx; cases hx
  | cons h hop hs ih =>
    intro x hx
    cases hs with
    | al hw hop' hal hl hp =>
      rcases List.mem_cons.1 hx with rfl | hx
      · exact ⟨_, hop, hal⟩
      · exact ih x hx
    | _ => exact ih x hx
theorem ord_xs {q : Tq} (h : Tr G cf call n ops as names tm0 H00 q) (ho : ordB as ops 0 = true) : q.s.xs = [] := by
  cases hx : q.s.xs with
  | nil => rfl
  | cons x xs =>
    obtain ⟨o, h1, h2⟩ := xs_al h x (by rw [hx]; exact List.mem_cons_self)
    have := (ordB_ok ho).1 _ _ h1
    have := al_kind h2
    omega
theorem base_skip {S : Nat → Prop} : ∀ {c : List Nat} {b : List Hp} {wl : List Nat} {hs : List Hp} {X : Hp}, b.length = c.length → (∀ w ∈ c, ¬ S w) → Base S (c ++ wl) (b ++ hs) X → Base S wl hs X
  | [], [], wl, hs, X, _, _, h => h
  | w :: c, H :: b, wl, hs, X, hl, hn, h => by
    rcases h with ⟨a, _⟩ | ⟨_, h⟩
    · exact absurd a (hn w List.mem_cons_self)
    · exact base_skip (by simpa using hl) (fun x hx => hn x (List.mem_cons_of_mem _ hx)) h
  | [], _ :: _, wl, hs, X, hl, _, _ => by simp at hl
  | _ :: _, [], wl, hs, X, hl, _, _ => by simp at hl
theorem free_indep {o : Oper} {ev : Operand → Option AV} {H H' : Hp} (h : hfree o.op = true) : opK G cf o ev H = opK G cf o ev H' := by
  unfold opK
  cases ho : o.op <;> rw [ho] at h <;> first | (cases h; done) | rfl | skip
  case makeFunc f a b => cases f <;> rfl
  case slice t x lo hi mx => cases mx <;> rfl
theorem al_indep {o : Oper} {ev : Operand → Option AV} {H H' : Hp} (h : isAl o.op = true) : opK G cf o ev H = opK G cf o ev H' := by
  obtain ⟨dst, op, type, pos, after, guard⟩ := o
  cases op <;> first | (simp [isAl] at h; done) | rfl | skip
  rename_i t r
  cases r with
  | none => rfl
  | some x => simp [isAl] at h
/-! ### moves -/
variable {W0 : World}
theorem Mv.newAt {E : Env} {H : P → Option AObj} {nx nx1 : Nat} {w : World} (h : HR G W0 E H nx w) {l : P} (hl : E.ρ l = none) (hnx : l.toNat < nx) (hle : nx1 ≤ nx) (c : Nat) {o : AObj} {ob : Obj}
    (ho : OR G (E.add l (w.heap.size, c)) c o ob) (hnw : nx1 ≤ l.toNat) : Mv G W0 E H nx1 w (E.add l (w.heap.size, c)) (upd H l (some o)) nx { w with heap := w.heap.push ob } := by
  have hE : E.le (E.add l (w.heap.size, c)) := Env.le_add hl
  have hold : ∀ b, b < w.heap.size → (w.heap.push ob)[b]? = w.heap[b]? := fun b hb => by rw [Array.getElem?_push, if_neg (by omega)]
  refine ⟨hE, ⟨?_, ?_, ?_, ?_⟩, hle, by simp, fun b hb _ => hold b hb, ?_, ?_⟩
  · exact h.below.trans ⟨rfl, rfl, rfl, by simp, fun k hk => hold k (Nat.lt_of_lt_of_le hk h.below.size)⟩
  · intro q x e
    by_cases hq : q = l
    · subst hq; exact hnx
    · rw [Env.add_other _ _ hq] at e; exact h.dom q x e
  · intro q o' e
    by_cases hq : q = l
    · subst hq
      rw [upd_same] at e; cases e
      exact ⟨_, _, ob, Env.add_same _ _ _, h.below.size, by simp, ho⟩
    · rw [upd_other _ _ hq] at e
      obtain ⟨b, c', ob', e1, e2, e3, e4⟩ := h.obj q o' e
      exact ⟨b, c', ob', by rw [Env.add_other _ _ hq]; exact e1, e2, by rw [hold b (h.lt e e1)]; exact e3, e4.mono hE⟩
  · intro q q' o1 o2 b c1 c2 e1 e2 e3 e4
    by_cases hq : q = l
    · by_cases hq' : q' = l
      · rw [hq, hq']
      · subst hq
        rw [Env.add_same] at e3; cases e3
        rw [upd_other _ _ hq'] at e2
        rw [Env.add_other _ _ hq'] at e4
        have := h.lt e2 e4; omega
    · by_cases hq' : q' = l
      · subst hq'
        rw [Env.add_same] at e4; cases e4
        rw [upd_other _ _ hq] at e1
        rw [Env.add_other _ _ hq] at e3
        have := h.lt e1 e3; omega
      · rw [upd_other _ _ hq] at e1
        rw [Env.add_other _ _ hq] at e3
        rw [upd_other _ _ hq'] at e2
        rw [Env.add_other _ _ hq'] at e4
        exact h.inj _ _ _ _ _ _ _ e1 e2 e3 e4
  · intro q o' b c' e1 e2
    by_cases hq : q = l
    · subst hq; rw [Env.add_same] at e2; cases e2; exact .inl (Nat.le_refl _)
    · rw [upd_other _ _ hq] at e1; rw [Env.add_other _ _ hq] at e2
      exact .inr ⟨q, o', c', e1, e2⟩
  · intro q x e
    by_cases hq : q = l
    · subst hq; exact .inr hnw
    · rw [Env.add_other _ _ hq] at e; exact .inl e
theorem Mv.trans' {E E' E'' : Env} {H H' H'' : P → Option AObj} {nx nx' nx1 nx'' : Nat} {w w' w'' : World} (h : Mv G W0 E H nx w E' H' nx' w') (k : Mv G W0 E' H' nx1 w' E'' H'' nx'' w'') (hle : nx ≤ nx1) : Mv G W0 E H nx w E'' H'' nx'' w'' := by
  refine ⟨h.le.trans k.le, k.hr, Nat.le_trans hle k.up, Nat.le_trans h.sz k.sz, ?_, ?_, ?_⟩
  · intro b hb hno
    rw [k.fr b (Nat.lt_of_lt_of_le hb h.sz), h.fr b hb hno]
    intro l o c ho e
    rcases h.own l o b c ho e with hge | ⟨l0, o0, c0, h0, e0⟩
    · omega
    · exact hno l0 o0 c0 h0 e0
  · intro l o b c ho e
    rcases k.own l o b c ho e with hge | ⟨l0, o0, c0, h0, e0⟩
    · exact .inl (Nat.le_trans h.sz hge)
    · exact h.own l0 o0 b c0 h0 e0
  · intro l x e
    rcases k.nw l x e with e' | hge
    · exact h.nw l x e'
    · exact .inr (Nat.le_trans hle hge)
/-- what a move leaves alone stays -/
theorem Mv.frame {E E' : Env} {U T H' : P → Option AObj} {nx nx' : Nat} {w w' : World} (hU : HR G W0 E U nx w) (hT : ∀ l o, T l = some o → U l = some o) (mv : Mv G W0 E T nx w E' H' nx' w') (X : P → Prop) [DecidablePred X] (hX : ∀ l, X l → T l = none) :
    Mv G W0 E U nx w E' (fun l => if X l then U l else H' l) nx' w' := by
  have own' : ∀ l o b c, H' l = some o → E'.ρ l = some (b, c) → w.heap.size ≤ b ∨ ∃ l0 o0 c0, T l0 = some o0 ∧ U l0 = some o0 ∧ E.ρ l0 = some (b, c0) := fun l o b c h1 h2 =>
    (mv.own l o b c h1 h2).imp id (fun ⟨l0, o0, c0, a, b⟩ => ⟨l0, o0, c0, a, hT _ _ a, b⟩)
  have oldρ : ∀ l o b c, U l = some o → E'.ρ l = some (b, c) → E.ρ l = some (b, c) := by
    intro l o b c h1 h2
    obtain ⟨b0, c0, ob, e1, _⟩ := hU.obj l o h1
    have := mv.le.2 _ _ e1
    rw [this] at h2; cases h2; exact e1
  refine ⟨mv.le, ⟨mv.hr.below, mv.hr.dom, ?_, ?_⟩, mv.up, mv.sz, ?_, ?_, mv.nw⟩
  · intro l o e
    by_cases hl : X l
    · rw [if_pos hl] at e
      obtain ⟨b, c, ob, e1, e2, e3, e4⟩ := hU.obj l o e
      refine ⟨b, c, ob, mv.le.2 _ _ e1, e2, ?_, e4.mono mv.le⟩
      rw [mv.fr b (hU.lt e e1)]
      · exact e3
      · intro l0 o0 c0 h0 e0
        have : l0 = l := hU.inj _ _ _ _ _ _ _ (hT _ _ h0) e e0 e1
        subst this
        rw [hX _ hl] at h0; cases h0
    · rw [if_neg hl] at e; exact mv.hr.obj l o e
  · intro l l' o o' b c c' e1 e2 e3 e4
    have mix : ∀ l l' o o' b c c', X l → ¬ X l' → U l = some o → H' l' = some o' → E'.ρ l = some (b, c) → E'.ρ l' = some (b, c') → False := by
      intro l l' o o' b c c' hl hl' e1 e2 e3 e4
      have e3' := oldρ _ _ _ _ e1 e3
      rcases own' l' o' b c' e2 e4 with hge | ⟨l0, o0, c0, h0, hu, e0⟩
      · have := hU.lt e1 e3'; omega
      · have : l0 = l := hU.inj _ _ _ _ _ _ _ hu e1 e0 e3'
        subst this
        rw [hX _ hl] at h0; cases h0
    by_cases hl : X l
    · by_cases hl' : X l'
      · rw [if_pos hl] at e1; rw [if_pos hl'] at e2
        exact hU.inj _ _ _ _ _ _ _ e1 e2 (oldρ _ _ _ _ e1 e3) (oldρ _ _ _ _ e2 e4)
      · rw [if_pos hl] at e1; rw [if_neg hl'] at e2
        exact (mix _ _ _ _ _ _ _ hl hl' e1 e2 e3 e4).elim
    · by_cases hl' : X l'
      · rw [if_neg hl] at e1; rw [if_pos hl'] at e2
        exact (mix _ _ _ _ _ _ _ hl' hl e2 e1 e4 e3).elim
      · rw [if_neg hl] at e1; rw [if_neg hl'] at e2
        exact mv.hr.inj _ _ _ _ _ _ _ e1 e2 e3 e4
  · intro b hb hno
    exact mv.fr b hb (fun l o c h e => hno l o c (hT _ _ h) e)
  · intro l o b c e1 e2
    by_cases hl : X l
    · rw [if_pos hl] at e1
      exact .inr ⟨l, o, c, e1, oldρ _ _ _ _ e1 e2⟩
    · rw [if_neg hl] at e1
      exact (own' l o b c e1 e2).imp id (fun ⟨l0, o0, c0, _, a, b⟩ => ⟨l0, o0, c0, a, b⟩)
end Go.Ai
