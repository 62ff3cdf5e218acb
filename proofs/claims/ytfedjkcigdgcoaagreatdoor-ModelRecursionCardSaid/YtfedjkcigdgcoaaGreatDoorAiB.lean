/- The abstract heap, what it stands for in a world, and the few moves that it may make. -/
import Derived.Test.YtfedjkcigdgcoaaGreatDoorAiA
import Derived.RowKit3
namespace Go.Ai
open Go Go.RowKit
set_option linter.unusedVariables false

inductive AObj where
  | cells (cs : List AV) (ty : TypeId) (opn : Bool)
  | map (es : List (AV × AV × Nat)) (clock : Nat)
  | mapIter (m : Option P) (since : Nat) (seen : List Nat) (stepped : Nat)
  | strIter (s : List SI) (pos : Nat)
  | loop (st : LoopState) (pend : Option Code) (fn : FuncId) (n : Nat) (tm : PT AV) (params : List Nat) (assign body : Code) (dl : P)
  | defd
  | gone
  | chan (cl : Bool)

/-- a frame's temporaries -/
def TR (E : Env) (t : PT AV) (arr : Array Value) : Prop := ∀ i v, PT.get (P.of i) t = some v → ∃ x, arr[i]? = some x ∧ VR E v x
theorem TR.mono {E E' : Env} (h : E.le E') {t : PT AV} {arr : Array Value} (k : TR E t arr) : TR E' t arr :=
  fun i v e => let ⟨x, hx, hv⟩ := k i v e; ⟨x, hx, hv.mono h⟩
theorem TR.set {E : Env} {t : PT AV} {arr : Array Value} (k : TR E t arr) {d : Nat} {a : AV} {v : Value} (hd : d < arr.size) (h : VR E a v) :
    TR E (PT.put (P.of d) t (some a)) (arr.setIfInBounds d v) := by
  intro i b e
  by_cases hi : d = i
  · subst hi
    rw [PT.get_put_same] at e
    cases e
    exact ⟨v, by simp [hd], h⟩
  · rw [PT.get_put_other (fun e => hi (P.of_inj e))] at e
    obtain ⟨x, hx, hv⟩ := k i b e
    exact ⟨x, by rw [Array.getElem?_setIfInBounds_ne hi]; exact hx, hv⟩

inductive MRs (E : Env) : List (AV × AV × Nat) → List MapEntry → Prop
  | nil : MRs E [] []
  | cons {k v : AV} {b : Nat} {e : MapEntry} {es : List (AV × AV × Nat)} {fs : List MapEntry} (hk : VR E k e.key) (hv : VR E v e.val) (hb : e.born = b) (hs : MRs E es fs) : MRs E ((k, v, b) :: es) (e :: fs)
theorem MRs.mono {E E' : Env} (h : E.le E') : ∀ {es : List (AV × AV × Nat)} {fs : List MapEntry}, MRs E es fs → MRs E' es fs
  | _, _, .nil => .nil
  | _, _, .cons a b c d => .cons (a.mono h) (b.mono h) c (MRs.mono h d)
theorem MRs.length {E : Env} : ∀ {es : List (AV × AV × Nat)} {fs : List MapEntry}, MRs E es fs → es.length = fs.length
  | _, _, .nil => rfl
  | _, _, .cons _ _ _ d => by simp [MRs.length d]

/-- what is frozen lies behind a row's end -/
def Fz (fz : Nat × Nat) (n : Nat) : Prop := fz.1 = fz.2 ∨ n ≤ fz.1
theorem fz_ok {fz : Nat × Nat} {n : Nat} (h : Fz fz n) : ∀ i, i < n → ¬ (fz.1 ≤ i ∧ i < fz.2) := by
  intro i hi
  rcases h with h | h <;> omega
inductive OR (G : Program) (E : Env) (c : Nat) : AObj → Obj → Prop
  | cells {cs : List AV} {ty : TypeId} {opn : Bool} {arr : Array Value} {fz : Nat × Nat} {pre rest : List Value} (h : VRs E cs pre) (ha : arr.toList = pre ++ rest) (hop : opn = false → rest = [])
      (hc : opn = true → arr.size = c * G.cellsOf ty) (hf : Fz fz arr.size) : OR G E c (.cells cs ty opn) (.cells arr ty fz)
  | map {es : List (AV × AV × Nat)} {arr : Array MapEntry} {clock : Nat} (h : MRs E es arr.toList) : OR G E c (.map es clock) (.map arr clock)
  | mapIter0 {since stepped : Nat} {seen : List Nat} : OR G E c (.mapIter none since seen stepped) (.mapIter none since seen.toArray stepped)
  | mapIter {m : P} {b c' since stepped : Nat} {seen : List Nat} (h : E.ρ m = some (b, c')) : OR G E c (.mapIter (some m) since seen stepped) (.mapIter (some b) since seen.toArray stepped)
  | strIter {s : List SI} {b : ByteArray} {pos : Nat} (h : VR E (.str s) (.string b)) : OR G E c (.strIter s pos) (.stringIter b pos)
  | loop {st : LoopState} {pend : Option Code} {fn : FuncId} {n : Nat} {tm : PT AV} {tmps : Array Value} {params : List Nat} {assign body : Code} {dl : P} {b c' : Nat} (h : TR E tm tmps) (hn : tmps.size = n) (hd : E.ρ dl = some (b, c')) :
      OR G E c (.loop st pend fn n tm params assign body dl) (.loop { state := st, pending := pend, fn, tmps, params := params.toArray, assign, body, defers := b })
  | defd : OR G E c .defd (.deferred (some []))
  | gone : OR G E c .gone (.deferred none)
  | chan {cap s r : Nat} {cl tm : Bool} : OR G E c (.chan cl) (.chan cap #[] cl s r tm)
theorem OR.mono {G : Program} {E E' : Env} (h : E.le E') {c : Nat} {o : AObj} {ob : Obj} (k : OR G E c o ob) : OR G E' c o ob := by
  cases k with
  | cells a b d e f => exact .cells (a.mono h) b d e f
  | map a => exact .map (a.mono h)
  | mapIter0 => exact .mapIter0
  | mapIter a => exact .mapIter (h.2 _ _ a)
  | strIter a => exact .strIter (a.mono h)
  | loop a b d => exact .loop (a.mono h) b (h.2 _ _ d)
  | defd => exact .defd
  | gone => exact .gone
  | chan => exact .chan

/-- what is known of a world: W0 is the world in which the whole began -/
structure HR (G : Program) (W0 : World) (E : Env) (H : P → Option AObj) (nx : Nat) (w : World) : Prop where
  below : Below W0.heap.size W0 w
  dom : ∀ l x, E.ρ l = some x → l.toNat < nx
  obj : ∀ l o, H l = some o → ∃ b c ob, E.ρ l = some (b, c) ∧ W0.heap.size ≤ b ∧ w.heap[b]? = some ob ∧ OR G E c o ob
  inj : ∀ l l' o o' b c c', H l = some o → H l' = some o' → E.ρ l = some (b, c) → E.ρ l' = some (b, c') → l = l'

/-- a move: what it may turn, and what it leaves -/
structure Mv (G : Program) (W0 : World) (E : Env) (H : P → Option AObj) (nx : Nat) (w : World) (E' : Env) (H' : P → Option AObj) (nx' : Nat) (w' : World) : Prop where
  le : E.le E'
  hr : HR G W0 E' H' nx' w'
  up : nx ≤ nx'
  sz : w.heap.size ≤ w'.heap.size
  fr : ∀ b, b < w.heap.size → (∀ l o c, H l = some o → E.ρ l = some (b, c) → False) → w'.heap[b]? = w.heap[b]?
  own : ∀ l o b c, H' l = some o → E'.ρ l = some (b, c) → w.heap.size ≤ b ∨ ∃ l0 o0 c0, H l0 = some o0 ∧ E.ρ l0 = some (b, c0)
  nw : ∀ l x, E'.ρ l = some x → E.ρ l = some x ∨ nx ≤ l.toNat
variable {G : Program} {W0 : World}
theorem HR.lt {E : Env} {H : P → Option AObj} {nx : Nat} {w : World} (h : HR G W0 E H nx w) {l : P} {o : AObj} (ho : H l = some o) {b c : Nat} (e : E.ρ l = some (b, c)) : b < w.heap.size := by
  obtain ⟨b', c', ob, e', _, hb, _⟩ := h.obj l o ho
  rw [e] at e'; cases e'
  exact (Array.getElem?_eq_some_iff.1 hb).1
theorem Mv.refl {E : Env} {H : P → Option AObj} {nx : Nat} {w : World} (h : HR G W0 E H nx w) : Mv G W0 E H nx w E H nx w :=
  ⟨Env.le.refl E, h, Nat.le_refl _, Nat.le_refl _, fun _ _ _ => rfl, fun l o b c ho e => .inr ⟨l, o, c, ho, e⟩, fun _ _ e => .inl e⟩
theorem Mv.trans {E E' E'' : Env} {H H' H'' : P → Option AObj} {nx nx' nx'' : Nat} {w w' w'' : World} (h : Mv G W0 E H nx w E' H' nx' w') (k : Mv G W0 E' H' nx' w' E'' H'' nx'' w'') : Mv G W0 E H nx w E'' H'' nx'' w'' := by
  refine ⟨h.le.trans k.le, k.hr, Nat.le_trans h.up k.up, Nat.le_trans h.sz k.sz, ?_, ?_, ?_⟩
  · intro b hb hno
    rw [k.fr b (Nat.lt_of_lt_of_le hb h.sz), h.fr b hb hno]
    intro l o c ho e
    rcases h.own l o b c ho e with hge | ⟨l0, o0, c0, h0, e0⟩
    · omega
    · exact hno l0 o0 c0 h0 e0
  · intro l o b c ho e
    rcases k.own l o b c ho e with hge | ⟨l0, o0, c0, h0, e0⟩
    · exact .inl (Nat.le_trans h.sz hge)
    · exact h.own l0 o0 b c0 h0 e0
  · intro l x e
    rcases k.nw l x e with e' | hge
    · exact h.nw l x e'
    · exact .inr (Nat.le_trans h.up hge)

/-! ### the moves -/
noncomputable def upd (H : P → Option AObj) (l : P) (o : Option AObj) : P → Option AObj := fun q => if q = l then o else H q
theorem upd_same (H : P → Option AObj) (l : P) (o : Option AObj) : upd H l o l = o := by simp [upd]
theorem upd_other (H : P → Option AObj) {l q : P} (o : Option AObj) (h : q ≠ l) : upd H l o q = H q := by simp [upd, h]
noncomputable def Env.add (E : Env) (l : P) (x : Nat × Nat) : Env := { E with ρ := fun q => if q = l then some x else E.ρ q }
theorem Env.add_same (E : Env) (l : P) (x : Nat × Nat) : (E.add l x).ρ l = some x := by simp [Env.add]
theorem Env.add_other (E : Env) {l q : P} (x : Nat × Nat) (h : q ≠ l) : (E.add l x).ρ q = E.ρ q := by simp [Env.add, h]
theorem Env.le_add {E : Env} {l : P} {x : Nat × Nat} (h : E.ρ l = none) : E.le (E.add l x) :=
  ⟨rfl, fun q y e => by
    by_cases hq : q = l
    · subst hq; rw [h] at e; cases e
    · rw [Env.add_other _ _ hq]; exact e⟩

/-- a world with the same blocks -/
theorem HR.same {E : Env} {H : P → Option AObj} {nx : Nat} {w w' : World} (h : HR G W0 E H nx w) (hh : w'.heap = w.heap) (ho : w'.os = w.os) (ht : w'.tape = w.tape) (hp : w'.output = w.output) : HR G W0 E H nx w' :=
  ⟨⟨ho.trans h.below.os, ht.trans h.below.tape, hp.trans h.below.output, by rw [hh]; exact h.below.size, fun k hk => by rw [hh]; exact h.below.block k hk⟩, h.dom, fun l o hl => by rw [hh]; exact h.obj l o hl, h.inj⟩
theorem Mv.same {E : Env} {H : P → Option AObj} {nx : Nat} {w w' : World} (h : HR G W0 E H nx w) (hh : w'.heap = w.heap) (ho : w'.os = w.os) (ht : w'.tape = w.tape) (hp : w'.output = w.output) : Mv G W0 E H nx w E H nx w' :=
  ⟨Env.le.refl E, h.same hh ho ht hp, Nat.le_refl _, by rw [hh]; exact Nat.le_refl _, fun _ _ _ => by rw [hh], fun l o b c ho e => .inr ⟨l, o, c, ho, e⟩, fun _ _ e => .inl e⟩
theorem Mv.drew {E : Env} {H : P → Option AObj} {nx : Nat} {w : World} (h : HR G W0 E H nx w) : Mv G W0 E H nx w E H nx { w with drawn := w.drawn + 1 } := Mv.same h rfl rfl rfl rfl

/-- a new block, under a name that stands for nothing yet -/
theorem Mv.new {E : Env} {H : P → Option AObj} {nx nx' : Nat} {w : World} (h : HR G W0 E H nx w) {l : P} (hl : E.ρ l = none) (hnx : l.toNat < nx') (hle : nx ≤ nx') (c : Nat) {o : AObj} {ob : Obj}
    (ho : OR G (E.add l (w.heap.size, c)) c o ob) (hnw : nx ≤ l.toNat) : Mv G W0 E H nx w (E.add l (w.heap.size, c)) (upd H l (some o)) nx' { w with heap := w.heap.push ob } := by
  have hE : E.le (E.add l (w.heap.size, c)) := Env.le_add hl
  have hold : ∀ b, b < w.heap.size → (w.heap.push ob)[b]? = w.heap[b]? := fun b hb => by rw [Array.getElem?_push, if_neg (by omega)]
  refine ⟨hE, ⟨?_, ?_, ?_, ?_⟩, hle, by simp, fun b hb _ => hold b hb, ?_, ?_⟩
  · exact h.below.trans ⟨rfl, rfl, rfl, by simp, fun k hk => hold k (Nat.lt_of_lt_of_le hk h.below.size)⟩
  · intro q x e
    by_cases hq : q = l
    · subst hq; exact hnx
    · rw [Env.add_other _ _ hq] at e; exact Nat.lt_of_lt_of_le (h.dom q x e) hle
  · intro q o' e
    by_cases hq : q = l
    · subst hq
      rw [upd_same] at e; cases e
      exact ⟨_, _, ob, Env.add_same _ _ _, h.below.size, by simp, ho⟩
    · rw [upd_other _ _ hq] at e
      obtain ⟨b, c', ob', e1, e2, e3, e4⟩ := h.obj q o' e
      exact ⟨b, c', ob', by rw [Env.add_other _ _ hq]; exact e1, e2, by rw [hold b (h.lt e e1)]; exact e3, e4.mono hE⟩
  · intro q q' o1 o2 b c1 c2 e1 e2 e3 e4
    by_cases hq : q = l
    · by_cases hq' : q' = l
      · rw [hq, hq']
      · subst hq
        rw [Env.add_same] at e3; cases e3
        rw [upd_other _ _ hq'] at e2
        rw [Env.add_other _ _ hq'] at e4
        have := h.lt e2 e4; omega
    · by_cases hq' : q' = l
      · subst hq'
        rw [Env.add_same] at e4; cases e4
        rw [upd_other _ _ hq] at e1
        rw [Env.add_other _ _ hq] at e3
        have := h.lt e1 e3; omega
      · rw [upd_other _ _ hq] at e1
        rw [Env.add_other _ _ hq] at e3
        rw [upd_other _ _ hq'] at e2
        rw [Env.add_other _ _ hq'] at e4
        exact h.inj _ _ _ _ _ _ _ e1 e2 e3 e4
  · intro q o' b c' e1 e2
    by_cases hq : q = l
    · subst hq; rw [Env.add_same] at e2; cases e2; exact .inl (Nat.le_refl _)
    · rw [upd_other _ _ hq] at e1; rw [Env.add_other _ _ hq] at e2
      exact .inr ⟨q, o', c', e1, e2⟩
  · intro q x e
    by_cases hq : q = l
    · subst hq; exact .inr hnw
    · rw [Env.add_other _ _ hq] at e; exact .inl e

/-- a block of ours gets other contents -/
theorem Mv.set {E : Env} {H : P → Option AObj} {nx : Nat} {w w' : World} (h : HR G W0 E H nx w) {l : P} {o0 o : AObj} {b c : Nat} {ob : Obj} (hl : H l = some o0) (hb : E.ρ l = some (b, c)) (ho : OR G E c o ob)
    (hs : w'.heap.size = w.heap.size) (hat : w'.heap[b]? = some ob) (hel : ∀ k, k ≠ b → w'.heap[k]? = w.heap[k]?) (hos : w'.os = w.os) (ht : w'.tape = w.tape) (hp : w'.output = w.output) :
    Mv G W0 E H nx w E (upd H l (some o)) nx w' := by
  obtain ⟨b0, c0, ob0, e0, hge, _, _⟩ := h.obj l o0 hl
  rw [hb] at e0; cases e0
  refine ⟨Env.le.refl E, ⟨?_, h.dom, ?_, ?_⟩, Nat.le_refl _, by omega, ?_, ?_, fun _ _ e => .inl e⟩
  · exact h.below.trans ⟨hos, ht, hp, by omega, fun k hk => hel k (by omega)⟩
  · intro q o' e
    by_cases hq : q = l
    · subst hq
      rw [upd_same] at e; cases e
      exact ⟨b, c, ob, hb, hge, hat, ho⟩
    · rw [upd_other _ _ hq] at e
      obtain ⟨b', c', ob', e1, e2, e3, e4⟩ := h.obj q o' e
      refine ⟨b', c', ob', e1, e2, ?_, e4⟩
      rw [hel b' (fun hbb => hq (by subst hbb; exact h.inj _ _ _ _ _ _ _ e hl e1 hb))]
      exact e3
  · intro q q' o1 o2 b' c1 c2 e1 e2 e3 e4
    have lift : ∀ q o1, upd H l (some o) q = some o1 → ∃ o2, H q = some o2 := by
      intro q o1 e
      by_cases hq : q = l
      · subst hq; exact ⟨_, hl⟩
      · rw [upd_other _ _ hq] at e; exact ⟨_, e⟩
    obtain ⟨p1, f1⟩ := lift q o1 e1
    obtain ⟨p2, f2⟩ := lift q' o2 e2
    exact h.inj _ _ _ _ _ _ _ f1 f2 e3 e4
  · intro k hk hno
    exact hel k (fun e => hno l o0 c hl (by rw [e]; exact hb))
  · intro q o' b' c' e1 e2
    by_cases hq : q = l
    · subst hq; exact .inr ⟨_, _, c', hl, e2⟩
    · rw [upd_other _ _ hq] at e1; exact .inr ⟨_, _, c', e1, e2⟩

/-- a name is forgotten -/
theorem HR.drop {E : Env} {H : P → Option AObj} {nx : Nat} {w : World} (h : HR G W0 E H nx w) {H' : P → Option AObj} (hs : ∀ l o, H' l = some o → H l = some o) : HR G W0 E H' nx w :=
  ⟨h.below, h.dom, fun l o e => h.obj l o (hs l o e), fun l l' o o' b c c' e1 e2 e3 e4 => h.inj l l' o o' b c c' (hs _ _ e1) (hs _ _ e2) e3 e4⟩

/-- a block gets another name, and other contents: the elder name is dead -/
theorem Mv.rename {E : Env} {H : P → Option AObj} {nx nx' : Nat} {w w' : World} (h : HR G W0 E H nx w) {l l' : P} {o0 o : AObj} {b c : Nat} {ob : Obj} (hl : H l = some o0) (hb : E.ρ l = some (b, c)) (hl' : E.ρ l' = none)
    (hnx : l'.toNat < nx') (hle : nx ≤ nx') (hnw : nx ≤ l'.toNat) (ho : OR G (E.add l' (b, c)) c o ob)
    (hs : w'.heap.size = w.heap.size) (hat : w'.heap[b]? = some ob) (hel : ∀ k, k ≠ b → w'.heap[k]? = w.heap[k]?) (hos : w'.os = w.os) (ht : w'.tape = w.tape) (hp : w'.output = w.output) :
    Mv G W0 E H nx w (E.add l' (b, c)) (upd (upd H l none) l' (some o)) nx' w' := by
  have hE : E.le (E.add l' (b, c)) := Env.le_add hl'
  obtain ⟨b0, c0, ob0, e0, hge, _, _⟩ := h.obj l o0 hl
  rw [hb] at e0; cases e0
  have hne : l ≠ l' := fun e => by subst e; rw [hl'] at hb; cases hb
  have old : ∀ q o', q ≠ l' → upd (upd H l none) l' (some o) q = some o' → q ≠ l ∧ H q = some o' := by
    intro q o' hq e
    rw [upd_other _ _ hq] at e
    by_cases hql : q = l
    · subst hql; rw [upd_same] at e; cases e
    · rw [upd_other _ _ hql] at e; exact ⟨hql, e⟩
  refine ⟨hE, ⟨?_, ?_, ?_, ?_⟩, hle, by omega, ?_, ?_, ?_⟩
  · exact h.below.trans ⟨hos, ht, hp, by omega, fun k hk => hel k (by omega)⟩
  · intro q x e
    by_cases hq : q = l'
    · subst hq; exact hnx
    · rw [Env.add_other _ _ hq] at e; exact Nat.lt_of_lt_of_le (h.dom q x e) hle
  · intro q o' e
    by_cases hq : q = l'
    · subst hq
      rw [upd_same] at e; cases e
      exact ⟨b, c, ob, Env.add_same _ _ _, hge, hat, ho⟩
    · obtain ⟨hql, e'⟩ := old q o' hq e
      obtain ⟨b', c', ob', e1, e2, e3, e4⟩ := h.obj q o' e'
      refine ⟨b', c', ob', by rw [Env.add_other _ _ hq]; exact e1, e2, ?_, e4.mono hE⟩
      rw [hel b' (fun hbb => hql (by subst hbb; exact h.inj _ _ _ _ _ _ _ e' hl e1 hb))]
      exact e3
  · intro q q' o1 o2 b' c1 c2 e1 e2 e3 e4
    by_cases hq : q = l'
    · by_cases hq' : q' = l'
      · rw [hq, hq']
      · subst hq
        rw [Env.add_same] at e3; cases e3
        obtain ⟨hql, e'⟩ := old q' o2 hq' e2
        rw [Env.add_other _ _ hq'] at e4
        exact absurd (h.inj _ _ _ _ _ _ _ e' hl e4 hb) hql
    · obtain ⟨hql, e1'⟩ := old q o1 hq e1
      rw [Env.add_other _ _ hq] at e3
      by_cases hq' : q' = l'
      · subst hq'
        rw [Env.add_same] at e4; cases e4
        exact absurd (h.inj _ _ _ _ _ _ _ e1' hl e3 hb) hql
      · obtain ⟨hql', e2'⟩ := old q' o2 hq' e2
        rw [Env.add_other _ _ hq'] at e4
        exact h.inj _ _ _ _ _ _ _ e1' e2' e3 e4
  · intro k hk hno
    exact hel k (fun e => hno l o0 c hl (by rw [e]; exact hb))
  · intro q o' b' c' e1 e2
    by_cases hq : q = l'
    · subst hq; rw [Env.add_same] at e2; cases e2; exact .inr ⟨_, _, _, hl, hb⟩
    · obtain ⟨_, e1'⟩ := old q o' hq e1
      rw [Env.add_other _ _ hq] at e2
      exact .inr ⟨_, _, c', e1', e2⟩
  · intro q x e
    by_cases hq : q = l'
    · subst hq; exact .inr hnw
    · rw [Env.add_other _ _ hq] at e; exact .inl e

end Go.Ai
