/- Loops shown apart: a loop from a state that is written down, its numbers standing for others; a function whose loop is met by a fact. -/
import Derived.Test.YtpgebnmcphedgaaGreatDoorAj2
namespace Go.Ai
open Go Go.RowKit
set_option linter.unusedVariables false
/-! ### numbers that stand for others -/
def SI.sub (θ : Nat → SI) : SI → SI
  | .lit n => .lit n
  | .var i => θ i
  | .bin op k a b => .bin op k (a.sub θ) (b.sub θ)
  | .conv k a => .conv k (a.sub θ)
  | .sel a i => .sel a (i.sub θ)
def evs (θ : Nat → SI) (σ : Nat → Int) : Nat → Int := fun i => (θ i).ev σ
theorem SI.ev_sub {θ : Nat → SI} {σ : Nat → Int} (hb : ∀ i, 1000 ≤ i → evs θ σ i = σ i) : ∀ e : SI, (e.sub θ).ev σ = e.ev (evs θ σ)
  | .lit n => rfl
  | .var i => rfl
  | .bin op k a b => by simp only [SI.sub, SI.ev, SI.ev_sub hb a, SI.ev_sub hb b]
  | .conv k a => by simp only [SI.sub, SI.ev, SI.ev_sub hb a]
  | .sel a i => by simp only [SI.sub, SI.ev, SI.ev_sub hb i]; exact (hb _ (by unfold gix; omega)).symm
/-- out of a list; a number that it does not name stands for itself -/
noncomputable def thL (l : List (Nat × SI)) : Nat → SI := fun i => List.rec (.var i) (fun x _ ih => Bool.rec ih x.2 (Nat.beq x.1 i)) l
theorem thL_cons (x : Nat × SI) (l : List (Nat × SI)) (i : Nat) : thL (x :: l) i = if x.1 = i then x.2 else thL l i := by
  show (Bool.rec (thL l i) x.2 (Nat.beq x.1 i) : SI) = _
  by_cases h : x.1 = i
  · rw [if_pos h, h, Nat.beq_refl]
  · rw [if_neg h]
    cases hb : Nat.beq x.1 i with
    | false => rfl
    | true => exact absurd (Nat.eq_of_beq_eq_true hb) h
theorem thL_big (l : List (Nat × SI)) (h : ∀ x ∈ l, x.1 < 1000) (σ : Nat → Int) : ∀ i, 1000 ≤ i → evs (thL l) σ i = σ i := by
  intro i hi
  induction l with
  | nil => rfl
  | cons x l ih =>
    have := h x (List.mem_cons_self ..)
    show (thL (x :: l) i).ev σ = σ i
    rw [thL_cons, if_neg (by omega)]
    exact ih (fun y hy => h y (List.mem_cons_of_mem _ hy))
/-! ### a value below one whose numbers stand for others; the names below a bound -/
noncomputable def AV.atom (nx : Nat) : AV → Bool
  | .bool _ => true
  | .ptr0 => true
  | .glob _ _ => true
  | .sl0 => true
  | .map0 => true
  | .fn0 => true
  | .if0 => true
  | .chan0 => true
  | .ptr l _ => Nat.ble (Nat.succ l.toNat) nx
  | .sl l _ _ _ => Nat.ble (Nat.succ l.toNat) nx
  | .map l => Nat.ble (Nat.succ l.toNat) nx
  | .iter l => Nat.ble (Nat.succ l.toNat) nx
  | .chan l => Nat.ble (Nat.succ l.toNat) nx
  | _ => false
noncomputable def AFn.nm (nx : Nat) : AFn → Bool
  | .func _ => true
  | .yield l => Nat.ble (Nat.succ l.toNat) nx
noncomputable def obelow (nx : Nat) : Option P → Bool
  | none => true
  | some l => Nat.ble (Nat.succ l.toNat) nx
noncomputable def AV.leS (cf : Cf) (nx : Nat) (θ : Nat → SI) (n : Nat) : AV → AV → Bool :=
  Nat.rec (fun _ _ => false) (fun _ ih v u => match u with
    | .top => true
    | .int k y => match v with
      | .int k' x => match kbeq k' k with
        | true => siLe cf x (y.sub θ)
        | false => false
      | _ => false
    | .str b => match v with
      | .str a => listBeq (fun x y => siLe cf x (y.sub θ)) a b
      | _ => false
    | .tup b => match v with
      | .tup a => listBeq ih a b
      | _ => false
    | .agg b => match v with
      | .agg a => listBeq ih a b
      | _ => false
    | .iface t y => match v with
      | .iface t' x => match Nat.beq t' t with
        | true => ih x y
        | false => false
      | _ => false
    | .fn f a b => match v with
      | .fn f' a' b' => match AFn.beq f' f, f.nm nx, listBeq ih a' a with
        | true, true, true => listBeq ih b' b
        | _, _, _ => false
      | _ => false
    | .gsl l a x y => match v with
      | .gsl l' a' x' y' => match obeqP l' l, obelow nx l, Nat.beq a' a, siLe cf x' (x.sub θ) with
        | true, true, true, true => siLe cf y' (y.sub θ)
        | _, _, _, _ => false
      | _ => false
    | .gptr l a x => match v with
      | .gptr l' a' x' => match obeqP l' l, obelow nx l, Nat.beq a' a with
        | true, true, true => siLe cf x' (x.sub θ)
        | _, _, _ => false
      | _ => false
    | u => match AV.same v u with
      | true => u.atom nx
      | false => false) n
theorem listBeq_vrs2 {E E' : Env} {f : AV → AV → Bool} (hf : ∀ {a b : AV} {x : Value}, f a b = true → VR E a x → VR E' b x) : ∀ {as bs : List AV} {xs : List Value}, listBeq f as bs = true → VRs E as xs → VRs E' bs xs
  | [], [], _, _, h => by cases h; exact .nil
  | [], _ :: _, _, h, _ => by cases h
  | _ :: _, [], _, h, _ => by cases h
  | a :: as, b :: bs, xs, h, hx => by
    have h' : (Bool.rec false (listBeq f as bs) (f a b) : Bool) = true := h
    cases hab : f a b with
    | false => rw [hab] at h'; cases h'
    | true =>
      rw [hab] at h'
      cases hx with
      | cons h1 h2 => exact .cons (hf hab h1) (listBeq_vrs2 hf h' h2)
theorem listBeq_ev {f : SI → SI → Bool} {σ σ' : Nat → Int} (hf : ∀ {x y : SI}, f x y = true → x.ev σ = y.ev σ') : ∀ {as bs : List SI}, listBeq f as bs = true → as.map (SI.ev σ) = bs.map (SI.ev σ')
  | [], [], _ => rfl
  | [], _ :: _, h => by cases h
  | _ :: _, [], h => by cases h
  | a :: as, b :: bs, h => by
    have h' : (Bool.rec false (listBeq f as bs) (f a b) : Bool) = true := h
    cases hab : f a b with
    | false => rw [hab] at h'; cases h'
    | true => rw [hab] at h'; rw [List.map_cons, List.map_cons, hf hab, listBeq_ev hf h']
/-- two valuations, the second one's names among the first one's below a bound -/
structure Tn (nx : Nat) (ρ' ρ : P → Option (Nat × Nat)) : Prop where
  dn : ∀ l x, ρ' l = some x → l.toNat < nx → ρ l = some x
theorem GA.turn {nx : Nat} {σ σ' : Nat → Int} {ρ' ρ : P → Option (Nat × Nat)} (h : Tn nx ρ' ρ) (hb : ∀ i, 1000 ≤ i → σ' i = σ i) {l : Option P} {a o : Nat} {x : Addr} (hn : obelow nx l = true) (k : GA ⟨σ, ρ'⟩ l a o x) : GA ⟨σ', ρ⟩ l a o x := by
  cases k with
  | own e => exact .own (h.dn _ _ e (Nat.le_of_ble_eq_true hn))
  | ext e =>
    have := GA.ext (E := ⟨σ', ρ⟩) (a := a) (i := o) (by show (a : Int) < σ' 1200; rw [hb 1200 (by omega)]; exact e)
    rw [show (Env.mk σ' ρ).σ (1300 + a) = σ (1300 + a) from hb _ (by omega), show (Env.mk σ' ρ).σ (1400 + a) = σ (1400 + a) from hb _ (by omega)] at this
    exact this
theorem FnR.turn {nx : Nat} {σ σ' : Nat → Int} {ρ' ρ : P → Option (Nat × Nat)} (h : Tn nx ρ' ρ) {f : AFn} {g : Fn} (hn : f.nm nx = true) (k : FnR ⟨σ, ρ'⟩ f g) : FnR ⟨σ', ρ⟩ f g := by
  cases k with
  | func f => exact .func f
  | yield e => exact .yield (h.dn _ _ e (Nat.le_of_ble_eq_true hn))
theorem atom_turn {nx : Nat} {σ σ' : Nat → Int} {ρ' ρ : P → Option (Nat × Nat)} (h : Tn nx ρ' ρ) {u : AV} {x : Value} (hn : u.atom nx = true) (k : VR ⟨σ, ρ'⟩ u x) : VR ⟨σ', ρ⟩ u x := by
  cases k with
  | bool b => exact .bool b
  | ptr0 => exact .ptr0
  | glob g o => exact .glob g o
  | sl0 => exact .sl0
  | map0 => exact .map0
  | fn0 => exact .fn0
  | if0 => exact .if0
  | chan0 => exact .chan0
  | ptr e => exact .ptr (h.dn _ _ e (Nat.le_of_ble_eq_true hn))
  | sl e a b c => exact .sl (h.dn _ _ e (Nat.le_of_ble_eq_true hn)) a b c
  | map e => exact .map (h.dn _ _ e (Nat.le_of_ble_eq_true hn))
  | iter e => exact .iter (h.dn _ _ e (Nat.le_of_ble_eq_true hn))
  | chan e => exact .chan (h.dn _ _ e (Nat.le_of_ble_eq_true hn))
  | _ => cases hn
theorem leS_succ (cf : Cf) (nx : Nat) (θ : Nat → SI) (n : Nat) (v u : AV) : AV.leS cf nx θ (n + 1) v u = (match u with
    | .top => true
    | .int k y => match v with
      | .int k' x => match kbeq k' k with
        | true => siLe cf x (y.sub θ)
        | false => false
      | _ => false
    | .str b => match v with
      | .str a => listBeq (fun x y => siLe cf x (y.sub θ)) a b
      | _ => false
    | .tup b => match v with
      | .tup a => listBeq (AV.leS cf nx θ n) a b
      | _ => false
    | .agg b => match v with
      | .agg a => listBeq (AV.leS cf nx θ n) a b
      | _ => false
    | .iface t y => match v with
      | .iface t' x => match Nat.beq t' t with
        | true => AV.leS cf nx θ n x y
        | false => false
      | _ => false
    | .fn f a b => match v with
      | .fn f' a' b' => match AFn.beq f' f, f.nm nx, listBeq (AV.leS cf nx θ n) a' a with
        | true, true, true => listBeq (AV.leS cf nx θ n) b' b
        | _, _, _ => false
      | _ => false
    | .gsl l a x y => match v with
      | .gsl l' a' x' y' => match obeqP l' l, obelow nx l, Nat.beq a' a, siLe cf x' (x.sub θ) with
        | true, true, true, true => siLe cf y' (y.sub θ)
        | _, _, _, _ => false
      | _ => false
    | .gptr l a x => match v with
      | .gptr l' a' x' => match obeqP l' l, obelow nx l, Nat.beq a' a with
        | true, true, true => siLe cf x' (x.sub θ)
        | _, _, _ => false
      | _ => false
    | u => match AV.same v u with
      | true => u.atom nx
      | false => false) := rfl
theorem leS_ok {cf : Cf} {nx : Nat} {θ : Nat → SI} {σ : Nat → Int} {ρ' ρ : P → Option (Nat × Nat)} (hcf : cf.ok σ) (ht : Tn nx ρ' ρ) (hb : ∀ i, 1000 ≤ i → evs θ σ i = σ i) : ∀ (n : Nat) {v u : AV} {x : Value}, AV.leS cf nx θ n v u = true → VR ⟨σ, ρ'⟩ v x → VR ⟨evs θ σ, ρ⟩ u x := by
  intro n
  induction n with
  | zero => intro v u x h _; cases h
  | succ n ih =>
    intro v u x h hv
    rw [leS_succ] at h
    split at h
    · exact .top x
    · split at h
      · split at h
        · rename_i hk
          have hk := (kbeq_iff _ _).1 hk
          subst hk
          cases hv
          have e := siLe_ok hcf h
          rw [SI.ev_sub hb] at e
          have := VR.int (E := ⟨evs θ σ, ρ⟩) (k := ‹IntKind›) ‹SI›
          show VR _ _ _
          rw [show (SI.ev σ _ : Int) = _ from e]
          exact .int _ _
        · cases h
      · cases h
    · split at h
      · cases hv with
        | str hs => exact .str (hs.trans (listBeq_ev (fun h => by rw [siLe_ok hcf h, SI.ev_sub hb]) h))
      · cases h
    · split at h
      · cases hv with
        | tup hs => exact .tup (listBeq_vrs2 (fun h hx => ih h hx) h hs)
      · cases h
    · split at h
      · cases hv with
        | agg hs => exact .agg (listBeq_vrs2 (fun h hx => ih h hx) h hs)
      · cases h
    · split at h
      · split at h
        · rename_i ht
          rw [← Nat.eq_of_beq_eq_true ht]
          cases hv with
          | iface _ hs => exact .iface _ (ih h hs)
        · cases h
      · cases h
    · split at h
      · split at h
        · rename_i h1 h2 h3
          cases hv with
          | fn hf a b =>
            have h1 := afnBeq_eq h1
            subst h1
            exact .fn (hf.turn ht h2) (listBeq_vrs2 (fun h hx => ih h hx) h3 a) (listBeq_vrs2 (fun h hx => ih h hx) h b)
        · cases h
      · cases h
    · split at h
      · split at h
        · rename_i h1 h2 h3 h4
          have h1 := obeqP_eq h1
          have h3 := Nat.eq_of_beq_eq_true h3
          subst h1 h3
          have e1 := siLe_ok hcf h4
          have e2 := siLe_ok hcf h
          rw [SI.ev_sub hb] at e1 e2
          cases hv with
          | gsl ho hn hg hx hk => exact .gsl (ho.trans e1) (hn.trans e2) (hg.turn ht hb h2) hx hk
          | gnil hn => exact .gnil (hn.trans e2)
        · cases h
      · cases h
    · split at h
      · split at h
        · rename_i h1 h2 h3
          have h1 := obeqP_eq h1
          have h3 := Nat.eq_of_beq_eq_true h3
          subst h1 h3
          have e1 := siLe_ok hcf h
          rw [SI.ev_sub hb] at e1
          cases hv with
          | gptr ho hg => exact .gptr (ho.trans e1) (hg.turn ht hb h2)
        · cases h
      · cases h
    · split at h
      · rename_i hs
        rw [same_eq hs] at hv
        exact atom_turn ht h hv
      · cases h
/-! ### blocks, tables -/
noncomputable def AObj.leS (cf : Cf) (nx : Nat) (θ : Nat → SI) (o u : AObj) : Bool := match o, u with
  | .cells cs ty b, .cells cs' ty' b' => match Nat.beq ty ty', bbeq b b' with
    | true, true => listBeq (AV.leS cf nx θ 6) cs cs'
    | _, _ => false
  | .map es c, .map es' c' => match Nat.beq c c' with
    | true => listBeq (fun x y => match AV.leS cf nx θ 6 x.1 y.1, AV.leS cf nx θ 6 x.2.1 y.2.1, Nat.beq x.2.2 y.2.2 with | true, true, true => true | _, _, _ => false) es es'
    | false => false
  | .defd, .defd => true
  | .gone, .gone => true
  | .chan a, .chan b => bbeq a b
  | .garr a n tl ty, .garr a' n' tl' ty' => match Nat.beq a a', Nat.beq ty ty', listBeq eqI tl tl' with
    | true, true, true => siLe cf n (n'.sub θ)
    | _, _, _ => false
  | _, _ => false
theorem listBeq_mrs2 {E E' : Env} {f : AV → AV → Bool} (hf : ∀ {a b : AV} {x : Value}, f a b = true → VR E a x → VR E' b x) : ∀ {es es' : List (AV × AV × Nat)} {fs : List MapEntry}, listBeq (fun x y => match f x.1 y.1, f x.2.1 y.2.1, Nat.beq x.2.2 y.2.2 with | true, true, true => true | _, _, _ => false) es es' = true → MRs E es fs → MRs E' es' fs
  | [], [], _, _, h => by cases h; exact .nil
  | [], _ :: _, _, h, _ => by cases h
  | _ :: _, [], _, h, _ => by cases h
  | a :: as, b :: bs, xs, h, hx => by
    have h' : (Bool.rec false (listBeq (fun x y => match f x.1 y.1, f x.2.1 y.2.1, Nat.beq x.2.2 y.2.2 with | true, true, true => true | _, _, _ => false) as bs) (match f a.1 b.1, f a.2.1 b.2.1, Nat.beq a.2.2 b.2.2 with | true, true, true => true | _, _, _ => false) : Bool) = true := h
    cases hab : (match f a.1 b.1, f a.2.1 b.2.1, Nat.beq a.2.2 b.2.2 with | true, true, true => true | _, _, _ => false : Bool) with
    | false => rw [hab] at h'; cases h'
    | true =>
      rw [hab] at h'
      split at hab
      · rename_i h1 h2 h3
        cases hx with
        | cons k1 k2 k3 k4 => exact .cons (hf h1 k1) (hf h2 k2) (by rw [k3]; exact Nat.eq_of_beq_eq_true h3) (listBeq_mrs2 hf h' k4)
      · cases hab
theorem leSO_ok {G : Program} {cf : Cf} {nx : Nat} {θ : Nat → SI} {σ : Nat → Int} {ρ' ρ : P → Option (Nat × Nat)} (hcf : cf.ok σ) (ht : Tn nx ρ' ρ) (hb : ∀ i, 1000 ≤ i → evs θ σ i = σ i) {o u : AObj} (h : AObj.leS cf nx θ o u = true) {c : Nat} {ob : Obj} (ho : OR G ⟨σ, ρ'⟩ c o ob) : OR G ⟨evs θ σ, ρ⟩ c u ob := by
  unfold AObj.leS at h
  split at h
  · split at h
    · rename_i h1 h2
      have h1 := Nat.eq_of_beq_eq_true h1
      have h2 := bbeq_eq h2
      subst h1 h2
      cases ho with
      | cells a b d e f => exact .cells (listBeq_vrs2 (fun h hx => leS_ok hcf ht hb 6 h hx) h a) b d e f
    · cases h
  · split at h
    · rename_i h1
      have h1 := Nat.eq_of_beq_eq_true h1
      subst h1
      cases ho with
      | map a => exact .map (listBeq_mrs2 (fun h hx => leS_ok hcf ht hb 6 h hx) h a)
    · cases h
  · cases ho; exact .defd
  · cases ho; exact .gone
  · rw [← bbeq_eq h]; cases ho; exact .chan
  · split at h
    · rename_i h1 h2 h3
      rw [← Nat.eq_of_beq_eq_true h1, ← Nat.eq_of_beq_eq_true h2, ← listBeq_eq (fun _ _ h => by rw [eqI_eq] at h; exact of_decide_eq_true h) h3]
      have e1 := siLe_ok hcf h
      rw [SI.ev_sub hb] at e1
      cases ho with
      | garr a b => exact .garr (fun j hj => by rw [show (Env.mk (evs θ σ) ρ).σ (gix _ j) = σ (gix _ j) from hb _ (by unfold gix; omega)]; exact a j (by rw [show (Env.mk σ ρ').σ = σ from rfl, e1]; exact hj)) (fun m k v hm => b m k v (by rw [show (Env.mk σ ρ').σ = σ from rfl, e1]; exact hm))
    · cases h
  · cases h
/-- what a table tells, another one tells, in the sense of f -/
noncomputable def subG {α β : Type} (f : β → α → Bool) (t : PT α) : PT β → Bool :=
  PT.rec (fun _ => true) (fun _ v _ ihl ihr t' => PT.casesOn t' (Option.rec (match ihl .e with | true => ihr .e | false => false) (fun _ => false) v)
    (fun l' v' r' => match (Option.rec true (fun o => Option.rec false (fun o' => f o' o) v') v : Bool) with
      | true => (match ihl l' with | true => ihr r' | false => false)
      | false => false)) t
theorem subG_ok {α β : Type} {f : β → α → Bool} : ∀ {t : PT α} {t' : PT β}, subG f t t' = true → ∀ {q : P} {o : α}, PT.get q t = some o → ∃ o', PT.get q t' = some o' ∧ f o' o = true := by
  intro t
  induction t with
  | e => intro t' _ q o h; rw [PT.get_e] at h; cases h
  | n l v r ihl ihr =>
    intro t' h q o hq
    cases t' with
    | e =>
      have h' : (Option.rec (match subG f l .e with | true => subG f r .e | false => false) (fun _ => false) v : Bool) = true := h
      cases v with
      | some o => cases h'
      | none =>
        have h2 : (match subG f l .e with | true => subG f r .e | false => false) = true := h'
        split at h2
        · rename_i hl
          cases q with
          | h => cases hq
          | o q => obtain ⟨o', h1, _⟩ := ihl hl (q := q) (o := o) hq; rw [PT.get_e] at h1; cases h1
          | i q => obtain ⟨o', h1, _⟩ := ihr h2 (q := q) (o := o) hq; rw [PT.get_e] at h1; cases h1
        · cases h2
    | n l' v' r' =>
      have h' : (match (Option.rec true (fun o => Option.rec false (fun o' => f o' o) v') v : Bool) with
      | true => (match subG f l l' with | true => subG f r r' | false => false)
      | false => false) = true := h
      split at h'
      · rename_i hv
        split at h'
        · rename_i hl
          cases q with
          | h =>
            have hq' : v = some o := hq
            subst hq'
            cases v' with
            | none => cases hv
            | some o' => exact ⟨o', rfl, hv⟩
          | o q => exact ihl hl (q := q) (o := o) hq
          | i q => exact ihr h' (q := q) (o := o) hq
        · cases h'
      · cases h'
noncomputable def mapT {α β : Type} (f : α → Option β) (t : PT α) : PT β := PT.rec .e (fun _ v _ l r => .n l (Option.rec none f v) r) t
theorem mapT_get {α β : Type} (f : α → Option β) : ∀ (t : PT α) (q : P) {o : β}, PT.get q (mapT f t) = some o → ∃ a, PT.get q t = some a ∧ f a = some o
  | .e, q, o, h => by rw [show mapT f (.e : PT α) = PT.e from rfl, PT.get_e] at h; cases h
  | .n l v r, q, o, h => by
    have h' : PT.get q (.n (mapT f l) (Option.rec none f v) (mapT f r)) = some o := h
    cases q with
    | h =>
      have h2 : (Option.rec none f v : Option β) = some o := h'
      cases v with
      | none => cases h2
      | some a => exact ⟨a, rfl, h2⟩
    | o q => exact mapT_get f l q h'
    | i q => exact mapT_get f r q h'
/-! ### written for others -/
theorem GA.back {σ σ' : Nat → Int} {ρ : P → Option (Nat × Nat)} (hb : ∀ i, 1000 ≤ i → σ' i = σ i) {l : Option P} {a o : Nat} {x : Addr} (k : GA ⟨σ', ρ⟩ l a o x) : GA ⟨σ, ρ⟩ l a o x := by
  cases k with
  | own e => exact .own e
  | ext e =>
    have := GA.ext (E := ⟨σ, ρ⟩) (a := a) (i := o) (by show (a : Int) < σ 1200; rw [← hb 1200 (by omega)]; exact e)
    rw [show (Env.mk σ ρ).σ (1300 + a) = σ' (1300 + a) from (hb _ (by omega)).symm, show (Env.mk σ ρ).σ (1400 + a) = σ' (1400 + a) from (hb _ (by omega)).symm] at this
    exact this
noncomputable def AV.subV (θ : Nat → SI) (n : Nat) : AV → AV := Nat.rec (fun _ => .top) (fun _ ih v => match v with
  | .int k e => .int k (e.sub θ)
  | .str l => .str (mapL (SI.sub θ) l)
  | .tup cs => .tup (mapL ih cs)
  | .agg cs => .agg (mapL ih cs)
  | .iface t v => .iface t (ih v)
  | .fn f a b => .fn f (mapL ih a) (mapL ih b)
  | .sls _ _ _ => .top
  | .gsl l a x y => .gsl l a (x.sub θ) (y.sub θ)
  | .gptr l a x => .gptr l a (x.sub θ)
  | .xsl _ => .top
  | .xptr _ => .top
  | v => v) n
theorem vrs_mapL {E E' : Env} {f : AV → AV} (hf : ∀ {v : AV} {x : Value}, VR E v x → VR E' (f v) x) : ∀ {cs : List AV} {xs : List Value}, VRs E cs xs → VRs E' (mapL f cs) xs
  | _, _, .nil => .nil
  | _, _, .cons h hs => .cons (hf h) (vrs_mapL hf hs)
theorem subV_ok {θ : Nat → SI} {σ : Nat → Int} {ρ : P → Option (Nat × Nat)} (hb : ∀ i, 1000 ≤ i → evs θ σ i = σ i) : ∀ (n : Nat) {v : AV} {x : Value}, VR ⟨evs θ σ, ρ⟩ v x → VR ⟨σ, ρ⟩ (AV.subV θ n v) x := by
  intro n
  induction n with
  | zero => intro v x _; exact .top x
  | succ n ih =>
    intro v x h
    cases h with
    | int k e =>
      show VR _ (.int k (e.sub θ)) _
      rw [← SI.ev_sub hb]
      exact .int _ _
    | str hs =>
      show VR _ (.str (mapL (SI.sub θ) _)) _
      refine .str (hs.trans ?_)
      rw [mapL_eq, List.map_map]
      exact List.map_congr_left (fun e _ => (SI.ev_sub hb e).symm)
    | tup hs => exact .tup (vrs_mapL (fun h => ih h) hs)
    | agg hs => exact .agg (vrs_mapL (fun h => ih h) hs)
    | iface t hs => exact .iface t (ih hs)
    | fn hf a b => exact .fn (by cases hf with | func f => exact .func f | yield e => exact .yield e) (vrs_mapL (fun h => ih h) a) (vrs_mapL (fun h => ih h) b)
    | sls _ _ _ _ => exact .top _
    | gsl ho hn hg hx hk => exact .gsl (ho.trans (SI.ev_sub hb _).symm) (hn.trans (SI.ev_sub hb _).symm) (hg.back hb) hx hk
    | gnil hn => exact .gnil (hn.trans (SI.ev_sub hb _).symm)
    | gptr ho hg => exact .gptr (ho.trans (SI.ev_sub hb _).symm) (hg.back hb)
    | xsl _ _ _ _ => exact .top _
    | xptr _ _ => exact .top _
    | bool b => exact .bool b
    | ptr0 => exact .ptr0
    | glob g o => exact .glob g o
    | sl0 => exact .sl0
    | map0 => exact .map0
    | fn0 => exact .fn0
    | if0 => exact .if0
    | chan0 => exact .chan0
    | ptr e => exact .ptr e
    | sl e a b c => exact .sl e a b c
    | map e => exact .map e
    | iter e => exact .iter e
    | chan e => exact .chan e
    | top _ => exact .top _
noncomputable def AObj.subO (θ : Nat → SI) : AObj → Option AObj
  | .cells cs ty b => some (.cells (mapL (AV.subV θ 6) cs) ty b)
  | .map es c => some (.map (mapL (fun x => (AV.subV θ 6 x.1, AV.subV θ 6 x.2.1, x.2.2)) es) c)
  | .defd => some .defd
  | .gone => some .gone
  | .chan a => some (.chan a)
  | .garr a n tl ty => some (.garr a (n.sub θ) tl ty)
  | _ => none
theorem mrs_mapL {E E' : Env} {f : AV → AV} (hf : ∀ {v : AV} {x : Value}, VR E v x → VR E' (f v) x) : ∀ {es : List (AV × AV × Nat)} {fs : List MapEntry}, MRs E es fs → MRs E' (mapL (fun x => (f x.1, f x.2.1, x.2.2)) es) fs
  | _, _, .nil => .nil
  | _, _, .cons a b c d => .cons (hf a) (hf b) c (mrs_mapL hf d)
theorem subO_ok {G : Program} {θ : Nat → SI} {σ : Nat → Int} {ρ : P → Option (Nat × Nat)} (hb : ∀ i, 1000 ≤ i → evs θ σ i = σ i) {o u : AObj} (h : AObj.subO θ o = some u) {c : Nat} {ob : Obj} (ho : OR G ⟨evs θ σ, ρ⟩ c o ob) : OR G ⟨σ, ρ⟩ c u ob := by
  unfold AObj.subO at h
  split at h
  · cases h; cases ho with | cells a b d e f => exact .cells (vrs_mapL (fun h => subV_ok hb 6 h) a) b d e f
  · cases h; cases ho with | map a => exact .map (mrs_mapL (fun h => subV_ok hb 6 h) a)
  · cases h; cases ho; exact .defd
  · cases h; cases ho; exact .gone
  · cases h; cases ho; exact .chan
  · cases h; cases ho with | garr a b => exact .garr (fun j hj => by rw [show (Env.mk σ ρ).σ (gix _ j) = evs θ σ (gix _ j) from (hb _ (by unfold gix; omega)).symm]; exact a j (by rw [show (Env.mk (evs θ σ) ρ).σ = evs θ σ from rfl, ← SI.ev_sub hb]; exact hj)) (fun m k v hm => b m k v (by rw [show (Env.mk (evs θ σ) ρ).σ = evs θ σ from rfl, ← SI.ev_sub hb]; exact hm))
  · cases h
/-! ### a world, its numbers otherwise -/
section
variable {G : Program} {W0 : World} {cf : Cf} {V : Kp}
theorem xok_turn {σ σ' : Nat → Int} (h : XOk W0 σ) (hb : ∀ i, 1000 ≤ i → σ' i = σ i) : XOk W0 σ' := by
  refine ⟨fun h0 i hi => ?_, fun a ha j hj => ?_⟩
  · rw [hb 1000 (by omega)] at h0
    rw [hb 1003 (by omega)] at hi
    have := h.1 h0 i hi
    rw [hb 1001 (by omega), hb 1002 (by omega), hb (1004 + i) (by omega)]
    exact this
  · rw [hb 1200 (by omega)] at ha
    rw [hb (1500 + a) (by omega)] at hj
    have := h.2 a ha j hj
    rw [hb (1300 + a) (by omega), hb (1400 + a) (by omega), hb (gix a j) (by unfold gix; omega)]
    exact this
theorem HR.turn {σ σ' : Nat → Int} {ρ' ρ : P → Option (Nat × Nat)} {nx nx' : Nat} {H' T : P → Option AObj} {w : World} (h : HR G W0 ⟨σ, ρ'⟩ H' nx' w) (hle : ∀ l x, ρ l = some x → ρ' l = some x) (hdom : ∀ l x, ρ l = some x → l.toNat < nx)
    (hT : ∀ l o, T l = some o → (∃ x, ρ l = some x) ∧ ∃ o', H' l = some o' ∧ ∀ c ob, OR G ⟨σ, ρ'⟩ c o' ob → OR G ⟨σ', ρ⟩ c o ob) (hb : ∀ i, 1000 ≤ i → σ' i = σ i) : HR G W0 ⟨σ', ρ⟩ T nx w := by
  refine ⟨⟨h.below.toBelow, xok_turn h.below.xok hb⟩, hdom, fun l o e => ?_, fun l l' o o' b c c' e1 e2 e3 e4 => ?_⟩
  · obtain ⟨⟨x, hx⟩, o', h1, h2⟩ := hT l o e
    obtain ⟨b, c, ob, k1, k2, k3, k4⟩ := h.obj l o' h1
    have := hle _ _ hx
    rw [show ρ' l = _ from k1] at this
    cases this
    exact ⟨b, c, ob, hx, k2, k3, h2 _ _ k4⟩
  · obtain ⟨_, o1, h1, _⟩ := hT l o e1
    obtain ⟨_, o2, h2, _⟩ := hT l' o' e2
    exact h.inj _ _ _ _ _ _ _ h1 h2 (hle _ _ e3) (hle _ _ e4)
theorem Mv.widen {E E' : Env} {T H T' : P → Option AObj} {nx nx' : Nat} {w w' : World} (h : Mv G W0 E T nx w E' T' nx' w') (hs : ∀ l o, T l = some o → ∃ o', H l = some o') : Mv G W0 E H nx w E' T' nx' w' :=
  ⟨h.le, h.hr, h.up, h.sz, fun b hb hno => h.fr b hb (fun l o c e1 e2 => by obtain ⟨o', h1⟩ := hs l o e1; exact hno l o' c h1 e2), fun l o b c e1 e2 => by
    rcases h.own l o b c e1 e2 with h1 | ⟨l0, o0, c0, h1, h2⟩
    · exact .inl h1
    · obtain ⟨o', h3⟩ := hs l0 o0 h1
      exact .inr ⟨l0, o', c0, h3, h2⟩, h.nw⟩
/-! ### loops met by what is given -/
def BodyOk (G : Program) (W0 : World) (cf : Cf) (V : Kp) (b : Frame) (F : IH) (x : Code) : Prop := ∀ (tm : PT AV) (ds : List AD) (H : Hp) (rc : RC) (E : Env) (w : World) (arr : Array Value) (dv : List Deferred) (cs : List Frame) (k : List Item),
    cf.ok E.σ → St G W0 V.n b tm ds H rc E w arr dv cs → Keys V tm → CodeOk G W0 V.n b H E w cs (lone (Fr b arr (.code x :: k) dv) cs w) k (F tm ds H rc)
def LoopOk (G : Program) (W0 : World) (cf : Cf) (V : Kp) (b : Frame) (F : IH) (x : Code) : Prop := ∀ (tm : PT AV) (ds : List AD) (H : Hp) (rc : RC) (E : Env) (w : World) (arr : Array Value) (dv : List Deferred) (cs : List Frame) (k : List Item),
    cf.ok E.σ → St G W0 V.n b tm ds H rc E w arr dv cs → Keys V tm → CodeOk G W0 V.n b H E w cs (lone (Fr b arr (.code x :: .inLoop x :: k) dv) cs w) k (F tm ds H rc)
def BodyKeys (V : Kp) (F : IH) : Prop := ∀ (tm : PT AV) (ds : List AD) (H : Hp) (rc : RC) (ex : Ex) (tm' : PT AV) (ds' : List AD) (H' : Hp) (rc' : RC), Keys V tm → F tm ds H rc = .ok ex tm' ds' H' rc' → Keys V tm'
def LhOk (G : Program) (W0 : World) (cf : Cf) (V : Kp) (lh : IH → IH) (x : Code) : Prop := ∀ (b : Frame) (F : IH), BodyOk G W0 cf V b F x → BodyKeys V F → LoopOk G W0 cf V b (lh F) x
/-- the code with its loops met by lh -/
noncomputable def codeH (G : Program) (cf : Cf) (call : CallF) (rnd : RndF) (n : Nat) (lh : IH → IH) (cc : CC) : Code → IH :=
  CC.rec (motive := fun _ => Code → IH) (fun _ tm ds H rc => .ok .normal tm ds H rc) (fun ss _ => mReg G cf call rnd ss) (fun _ _ iha ihb => mSeq iha ihb) (fun e _ _ iha ihb => mCond G cf e iha ihb) (fun ss e _ _ iha ihb => mCondR G cf call rnd ss e iha ihb)
    (fun id _ ih => mBlock id ih) (fun _ ih c => lh (ih (subC c))) (fun id _ tm ds H rc => .ok (.exit id) tm ds H rc) (fun _ tm ds H rc => .ok .ret tm ds H rc) (oldR G cf call rnd n)
    (fun as => oldDR G cf call n as) (fun m ss _ => bump m (mReg G cf call rnd ss)) (fun m ss e _ _ iha ihb c => bump m (mCondR G cf call rnd ss e iha ihb c)) (fun m ss c tm ds H rc => fbE (bump m (sesK G cf call ss (fun tm ds H rc => .ok .normal tm ds H rc)) tm ds H rc) (oldR G cf call rnd n c tm ds H rc)) cc
def LoopsP (Q : Code → Prop) : CC → Code → Prop
  | .seq a b, .seq x y => LoopsP Q a x ∧ LoopsP Q b y
  | .cond _ a b, .cond _ x y => LoopsP Q a x ∧ LoopsP Q b y
  | .condR _ _ a b, .seq _ (.cond _ x y) => LoopsP Q a x ∧ LoopsP Q b y
  | .condD _ _ _ a b, .seq _ (.cond _ x y) => LoopsP Q a x ∧ LoopsP Q b y
  | .block _ c, .block _ x => LoopsP Q c x
  | .loop c, .loop x => Q x ∧ LoopsP Q c x
  | _, _ => True
noncomputable def loopsOf (cc : CC) : Code → List (CC × Code) :=
  CC.rec (motive := fun _ => Code → List (CC × Code)) (fun _ => []) (fun _ _ => []) (fun _ _ iha ihb c => iha (fstC c) ++ ihb (sndC c)) (fun _ _ _ iha ihb c => iha (thnC c) ++ ihb (elsC c)) (fun _ _ _ _ iha ihb c => iha (thnC (sndC c)) ++ ihb (elsC (sndC c)))
    (fun _ _ ih c => ih (subC c)) (fun cc ih c => (cc, subC c) :: ih (subC c)) (fun _ _ => []) (fun _ => []) (fun _ => []) (fun _ _ => []) (fun _ _ _ => []) (fun _ _ _ _ _ iha ihb c => iha (thnC (sndC c)) ++ ihb (elsC (sndC c))) (fun _ _ _ => []) cc
theorem loopsP_of {Q : Code → Prop} : ∀ (cc : CC) (c : Code), (∀ p ∈ loopsOf cc c, Q p.2) → LoopsP Q cc c := by
  intro cc
  induction cc with
  | seq a b iha ihb =>
    intro c h
    cases c with
    | seq x y => exact ⟨iha x (fun p hp => h p (List.mem_append_left _ hp)), ihb y (fun p hp => h p (List.mem_append_right _ hp))⟩
    | _ => trivial
  | cond e a b iha ihb =>
    intro c h
    cases c with
    | cond o x y => exact ⟨iha x (fun p hp => h p (List.mem_append_left _ hp)), ihb y (fun p hp => h p (List.mem_append_right _ hp))⟩
    | _ => trivial
  | condR ss e a b iha ihb =>
    intro c h
    cases c with
    | seq z q =>
      cases q with
      | cond o x y => exact ⟨iha x (fun p hp => h p (List.mem_append_left _ hp)), ihb y (fun p hp => h p (List.mem_append_right _ hp))⟩
      | _ => trivial
    | _ => trivial
  | condD m ss e a b iha ihb =>
    intro c h
    cases c with
    | seq z q =>
      cases q with
      | cond o x y => exact ⟨iha x (fun p hp => h p (List.mem_append_left _ hp)), ihb y (fun p hp => h p (List.mem_append_right _ hp))⟩
      | _ => trivial
    | _ => trivial
  | block id a ih =>
    intro c h
    cases c with
    | block id x => exact ih x h
    | _ => trivial
  | loop a ih =>
    intro c h
    cases c with
    | loop x => exact ⟨h (a, x) (List.mem_cons_self ..), ih x (fun p hp => h p (List.mem_cons_of_mem _ hp))⟩
    | _ => trivial
  | _ => intro c _; trivial
end
section
variable {G : Program} {W0 : World} {cf : Cf} {V : Kp} {call : CallF} {rnd : RndF}
theorem codeH_keys {n : Nat} {lh : IH → IH} (hlk : ∀ F, BodyKeys V F → BodyKeys V (lh F)) : ∀ (cc : CC) (c : Code), chkC G V cc c = true → ∀ {tm : PT AV} {ds : List AD} {H : Hp} {rc : RC} {ex : Ex} {tm' : PT AV} {ds' : List AD} {H' : Hp} {rc' : RC}, Keys V tm → codeH G cf call rnd n lh cc c tm ds H rc = .ok ex tm' ds' H' rc' → Keys V tm' := by
  intro cc
  induction cc with
  | skip => intro c hc tm ds H rc ex tm' ds' H' rc' hk h; cases h; exact hk
  | exit id => intro c hc tm ds H rc ex tm' ds' H' rc' hk h; cases h; exact hk
  | ret => intro c hc tm ds H rc ex tm' ds' H' rc' hk h; cases h; exact hk
  | old => intro c hc tm ds H rc ex tm' ds' H' rc' hk h; exact oldR_keys hc hk h
  | oldD as =>
    intro c hc tm ds H rc ex tm' ds' H' rc' hk h
    obtain ⟨id, ops, rfl, _, _, hd⟩ := chk_oldD hc
    exact drawK_keys (all_dst hd) hk h
  | regD m ss =>
    intro c hc tm ds H rc ex tm' ds' H' rc' hk h
    obtain ⟨id, ops, rfl, rfl, _, _, hs, i, hm⟩ := chk_regD hc
    change nxK ops.toList.length (fun nx => mReg G cf call rnd ss tm ds ⟨nx, H.tab⟩ rc) H.nx = _ at h
    rw [nxK_eq] at h
    exact sgsK_keys hs hm hk (fun _ _ _ _ k e => by cases e; exact k) h
  | regE m ss =>
    intro c hc tm ds H rc ex tm' ds' H' rc' hk h
    obtain ⟨id, ops, rfl, rfl, _, _, hs, i, hm⟩ := chk_regE hc
    change fbE (nxK ops.toList.length (fun nx => sesK G cf call ss (fun tm ds H rc => .ok .normal tm ds H rc) tm ds ⟨nx, H.tab⟩ rc) H.nx) (regionK G cf call rnd n ops.toList true tm ds H rc) = _ at h
    rw [nxK_eq] at h
    rcases ses_ok (G := G) (cf := cf) (call := call) (F := fun tm ds H rc => .ok .normal tm ds H rc) (ds := ds) (rc := rc) (H := ⟨nxF ops.toList H.nx, H.tab⟩) hs ss hm rfl (Sub.refl tm) hk with ⟨k, e⟩ | ⟨tm1, H1, tmO, e, _, _, k1⟩
    · rw [e] at h
      rcases fbE_cases (k := k) (s := regionK G cf call rnd n ops.toList true tm ds H rc) with ⟨z, hz⟩ | ⟨v, tm2, ds2, H2, rc2, e1, e2⟩
      · rw [hz] at h; cases h
      · rw [e2] at h; cases h
        simp only [regionK] at e1
        split at e1
        · exact drawK_pan hk e1
        · cases e1
    · rw [e] at h; cases h; exact k1
  | condD m ss e a b iha ihb =>
    intro c hc tm ds H rc ex tm' ds' H' rc' hk h
    obtain ⟨id, ops, o, x, y, i, l, r, i', rfl, rfl, _, _, hs, hm, _, _, h1, h2⟩ := chk_condD hc
    change nxK ops.toList.length (fun nx => sgsK G cf call rnd ss (mCond G cf e (codeH G cf call rnd n lh a) (codeH G cf call rnd n lh b) (.cond o x y)) tm ds ⟨nx, H.tab⟩ rc) H.nx = _ at h
    rw [nxK_eq] at h
    refine sgsK_keys hs hm hk (fun tm1 ds1 H1 rc1 k e => ?_) h
    rcases mCond_cases e with h | h
    · exact iha x h1 k h
    · exact ihb y h2 k h
  | reg ss =>
    intro c hc tm ds H rc ex tm' ds' H' rc' hk h
    obtain ⟨id, ops, rfl, hs, i, hm⟩ := chk_reg hc
    exact sgsK_keys hs hm hk (fun _ _ _ _ k e => by cases e; exact k) h
  | seq a b iha ihb =>
    intro c hc tm ds H rc ex tm' ds' H' rc' hk h
    obtain ⟨x, y, rfl, h1, h2⟩ := chk_seq hc
    rcases thenN_cases (show thenN (codeH G cf call rnd n lh b y) (codeH G cf call rnd n lh a x tm ds H rc) = _ from h) with ⟨_, _, _, _, e1, e2⟩ | ⟨_, e1⟩
    · exact ihb y h2 (iha x h1 hk e1) e2
    · exact iha x h1 hk e1
  | cond e a b iha ihb =>
    intro c hc tm ds H rc ex tm' ds' H' rc' hk h
    obtain ⟨o, x, y, r, i, rfl, _, _, h1, h2⟩ := chk_cond hc
    rcases mCond_cases (show mCond G cf e (codeH G cf call rnd n lh a) (codeH G cf call rnd n lh b) (.cond o x y) tm ds H rc = _ from h) with h | h
    · exact iha x h1 hk h
    · exact ihb y h2 hk h
  | condR ss e a b iha ihb =>
    intro c hc tm ds H rc ex tm' ds' H' rc' hk h
    obtain ⟨id, ops, o, x, y, i, l, r, i', rfl, hs, hm, _, _, h1, h2⟩ := chk_condR hc
    refine sgsK_keys hs hm hk (fun tm1 ds1 H1 rc1 k e => ?_) (show sgsK G cf call rnd ss (mCond G cf e (codeH G cf call rnd n lh a) (codeH G cf call rnd n lh b) (.cond o x y)) tm ds H rc = _ from h)
    rcases mCond_cases e with h | h
    · exact iha x h1 k h
    · exact ihb y h2 k h
  | block id c ih =>
    intro c hc tm ds H rc ex tm' ds' H' rc' hk h
    obtain ⟨x, rfl, h1⟩ := chk_block hc
    change blockN id (codeH G cf call rnd n lh _ x tm ds H rc) = _ at h
    unfold blockN at h
    split at h
    · rename_i j tm1 ds1 H1 rc1 e
      split at h
      · cases h; exact ih x h1 hk e
      · cases h; exact ih x h1 hk e
    · exact ih x h1 hk h
  | loop cc ih =>
    intro c hc tm ds H rc ex tm' ds' H' rc' hk h
    obtain ⟨x, rfl, h1⟩ := chk_loop hc
    exact hlk _ (fun _ _ _ _ _ _ _ _ _ hk h => ih x h1 hk h) _ _ _ _ _ _ _ _ _ hk h
theorem codeH_ok [GlOk cf.gl W0] {lh : IH → IH} {Q : Code → Prop} (hlk : ∀ F, BodyKeys V F → BodyKeys V (lh F)) (hlh : ∀ x, Q x → LhOk G W0 cf V lh x) (hcall : CallOk G W0 cf call) (hrnd : RndOk G W0 cf rnd) (hdraw : DrawOk G W0 cf call) {b : Frame} : ∀ (cc : CC) (c : Code), chkC G V cc c = true → LoopsP Q cc c → ∀ (tm : PT AV) (ds : List AD) (H : Hp) (rc : RC) (E : Env) (w : World) (arr : Array Value) (dv : List Deferred) (cs : List Frame) (k : List Item),
    cf.ok E.σ → St G W0 V.n b tm ds H rc E w arr dv cs → Keys V tm →
    CodeOk G W0 V.n b H E w cs (lone (Fr b arr (.code c :: k) dv) cs w) k (codeH G cf call rnd V.n lh cc c tm ds H rc) := by
  -- a condition, its value reckoned
  have condOk : ∀ {e : CE} {a b' : CC} {o : Operand} {x y : Code} {tm tmO : PT AV} {ds : List AD} {H : Hp} {rc : RC} {E : Env} {w : World} {arr : Array Value} {dv : List Deferred} {cs : List Frame} {k : List Item},
      (∀ v, cev G cf H.tab tm e = some v → ∃ tmO', St G W0 V.n b tmO' ds H rc E w arr dv cs ∧ evO tmO' o = some v) →
      (CodeOk G W0 V.n b H E w cs (lone (Fr b arr (.code x :: k) dv) cs w) k (codeH G cf call rnd V.n lh a x tm ds H rc)) →
      (CodeOk G W0 V.n b H E w cs (lone (Fr b arr (.code y :: k) dv) cs w) k (codeH G cf call rnd V.n lh b' y tm ds H rc)) →
      CodeOk G W0 V.n b H E w cs (lone (Fr b arr (.code (.cond o x y) :: k) dv) cs w) k (mCond G cf e (codeH G cf call rnd V.n lh a) (codeH G cf call rnd V.n lh b') (.cond o x y) tm ds H rc) := by
    intro e a b' o x y tm tmO ds H rc E w arr dv cs k hv ha hb
    unfold mCond
    rw [cevK_eq]
    cases hc : cev G cf H.tab tm e with
    | none => trivial
    | some v =>
      obtain ⟨tmO', st, ho⟩ := hv v hc
      have hev := evO_ok (a := ⟨arr, dv⟩) st.tr o v ho
      show CodeOk G W0 V.n b H E w cs _ k (condV (codeH G cf call rnd V.n lh a x tm ds H rc) (codeH G cf call rnd V.n lh b' y tm ds H rc) v)
      unfold condV
      split
      · rename_i r
        cases r with
        | true => exact CodeOk.steps (.one (st_cond (t := true) (bool_eval hev))) ha
        | false => exact CodeOk.steps (.one (st_cond (t := false) (bool_eval hev))) hb
      · trivial
  intro cc
  induction cc with
  | skip =>
    intro c hc hl tm ds H rc E w arr dv cs k hcf st hk
    rw [chk_skip hc]
    exact ⟨E, w, arr, dv, cs, ⟨Mv.refl st.hr, st, .refl _ _⟩, .one st_skip⟩
  | exit id =>
    intro c hc hl tm ds H rc E w arr dv cs k hcf st hk
    rw [chk_exit hc]
    exact ⟨E, w, arr, dv, cs, ⟨Mv.refl st.hr, st, .refl _ _⟩, [], rfl, .refl _ _⟩
  | ret =>
    intro c hc hl tm ds H rc E w arr dv cs k hcf st hk
    rw [chk_ret hc]
    exact ⟨E, w, arr, dv, cs, ⟨Mv.refl st.hr, st, .refl _ _⟩, k, .refl _ _⟩
  | old =>
    intro c hc hl tm ds H rc E w arr dv cs k hcf st hk
    obtain ⟨id, ops, draw, rfl⟩ := chk_old hc
    exact region_ok hcall hrnd hdraw hcf st
  | oldD as =>
    intro c hc hl tm ds H rc E w arr dv cs k hcf st hk
    obtain ⟨id, ops, rfl, rfl, hst, _⟩ := chk_oldD hc
    exact hdraw V.n b id ops tm ds H rc E w arr dv cs k hcf st hst
  | regD m ss =>
    intro c hc hl tm ds H rc E w arr dv cs k hcf st hk
    obtain ⟨id, ops, rfl, rfl, hp, hst, hs, i, hm⟩ := chk_regD hc
    change CodeOk G W0 V.n b H E w cs _ k (nxK ops.toList.length (fun nx => sgsK G cf call rnd ss (fun tm ds H rc => .ok .normal tm ds H rc) tm ds ⟨nx, H.tab⟩ rc) H.nx)
    rw [nxK_eq]
    obtain ⟨_, o⟩ := puts_ok (G := G) (cf := cf) (call := call) (rnd := rnd) (F := fun tm ds H rc => .ok .normal tm ds H rc) (ds := ds) (rc := rc) (H := ⟨nxF ops.toList H.nx, H.tab⟩) hs ss hp hm rfl (Sub.refl tm) hk
    rcases o with ⟨e, he⟩ | ⟨tm', tmO', he, pr, h1, h2⟩
    · rw [he]; trivial
    · rw [he]
      have h := hdraw V.n b id ops tm ds H rc E w arr dv cs k hcf st hst
      rw [prun_draw pr] at h
      exact sub_ok h h1 h2
  | regE m ss =>
    intro c hc hl tm ds H rc E w arr dv cs k hcf st hk
    obtain ⟨id, ops, rfl, rfl, hord, hst, hs, i, hm⟩ := chk_regE hc
    change CodeOk G W0 V.n b H E w cs _ k (fbE (nxK ops.toList.length (fun nx => sesK G cf call ss (fun tm ds H rc => .ok .normal tm ds H rc) tm ds ⟨nx, H.tab⟩ rc) H.nx) (regionK G cf call rnd V.n ops.toList true tm ds H rc))
    rw [nxK_eq]
    rcases ses_ok (G := G) (cf := cf) (call := call) (F := fun tm ds H rc => .ok .normal tm ds H rc) (ds := ds) (rc := rc) (H := ⟨nxF ops.toList H.nx, H.tab⟩) hs ss hm rfl (Sub.refl tm) hk with ⟨e, he⟩ | ⟨tm', H', tmO', he, tr, h1, h2⟩
    · rw [he]
      rcases fbE_cases (k := e) (s := regionK G cf call rnd V.n ops.toList true tm ds H rc) with ⟨z, hz⟩ | ⟨v, tm2, ds2, H2, rc2, e1, e2⟩
      · rw [hz]; trivial
      · rw [e2, ← e1]
        exact region_ok hcall hrnd hdraw hcf st
    · rw [he]
      change CodeOk G W0 V.n b H E w cs _ k (CR.ok .normal tm' ds H' rc)
      have h := hdraw V.n b id ops tm ds H rc E w arr dv cs k hcf st hst
      rw [draw_ord hord tr] at h
      exact sub_ok h h1 h2
  | condD m ss e a b' iha ihb =>
    intro c hc hl tm ds H rc E w arr dv cs k hcf st hk
    obtain ⟨id, ops, oo, x, y, i, l, r, i', rfl, rfl, hp, hst, hs, hm, hme, hr, h1, h2⟩ := chk_condD hc
    refine CodeOk.steps (.one st_seq) ?_
    change CodeOk G W0 V.n b H E w cs _ k (nxK ops.toList.length (fun nx => sgsK G cf call rnd ss (mCond G cf e (codeH G cf call rnd V.n lh a) (codeH G cf call rnd V.n lh b') (.cond oo x y)) tm ds ⟨nx, H.tab⟩ rc) H.nx)
    rw [nxK_eq]
    obtain ⟨hd, o⟩ := puts_ok (G := G) (cf := cf) (call := call) (rnd := rnd) (F := mCond G cf e (codeH G cf call rnd V.n lh a) (codeH G cf call rnd V.n lh b') (.cond oo x y)) (ds := ds) (rc := rc) (H := ⟨nxF ops.toList H.nx, H.tab⟩) hs ss hp hm rfl (Sub.refl tm) hk
    rcases o with ⟨z, he⟩ | ⟨tm', tmO', he, pr, g1, g2⟩
    · rw [he]; trivial
    · rw [he]
      cases hv : cev G cf H.tab tm' e with
      | none =>
        have : mCond G cf e (codeH G cf call rnd V.n lh a) (codeH G cf call rnd V.n lh b') (.cond oo x y) tm' ds ⟨nxF ops.toList H.nx, H.tab⟩ rc = .err 204 := by
          unfold mCond; rw [cevK_eq, hv]; rfl
        rw [this]; trivial
      | some v =>
        obtain ⟨tm2, e2, fr2, hr2⟩ := mat_ok (G := G) (cf := cf) (H := ⟨nxF ops.toList H.nx, H.tab⟩) hs e hme hd g1 trivial hv
        have h := hdraw V.n b id ops tm ds H rc E w arr dv cs (.code (.cond oo x y) :: k) hcf st hst
        rw [prun_draw (pr.trans e2)] at h
        obtain ⟨E', w', arr', dv', cs', o, en⟩ := h
        have hcf' : cf.ok E'.σ := by rw [o.mv.le.1]; exact hcf
        have st' : St G W0 V.n b tm' ds ⟨nxF ops.toList H.nx, H.tab⟩ rc E' w' arr' dv' cs' := o.st.sub (g1.keepA (mat_facts e hme hd).all fr2) g2
        refine CodeOk.then o en ?_
        exact condOk (tmO := tm2) (fun u hu => ⟨tm2, o.st, by rw [show cev G cf H.tab tm' e = some v from hv] at hu; cases hu; exact hr2.is hr⟩) (iha x h1 hl.1 tm' ds ⟨nxF ops.toList H.nx, H.tab⟩ rc E' w' arr' dv' cs' k hcf' st' g2) (ihb y h2 hl.2 tm' ds ⟨nxF ops.toList H.nx, H.tab⟩ rc E' w' arr' dv' cs' k hcf' st' g2)
  | reg ss =>
    intro c hc hl tm ds H rc E w arr dv cs k hcf st hk
    obtain ⟨id, ops, rfl, hs, i, hm⟩ := chk_reg hc
    obtain ⟨_, o⟩ := sgs_ok (G := G) (cf := cf) (call := call) (rnd := rnd) (F := fun tm ds H rc => .ok .normal tm ds H rc) (ds := ds) (rc := rc) (H := H) hs ss hm rfl (Sub.refl tm) hk
    have h := region_ok hcall hrnd hdraw (id := id) (ops := ops) (draw := false) (k := k) hcf st
    change CodeOk G W0 V.n b H E w cs _ k (sgsK G cf call rnd ss (fun tm ds H rc => .ok .normal tm ds H rc) tm ds H rc)
    change CodeOk G W0 V.n b H E w cs _ k (regK G cf call rnd V.n ops.toList ops.toList tm ds H rc) at h
    generalize hX : sgsK G cf call rnd ss (fun tm ds H rc => .ok .normal tm ds H rc) tm ds H rc = X at o
    generalize hY : regK G cf call rnd V.n ops.toList ops.toList tm ds H rc = Y at o h
    cases o with
    | err k => trivial
    | pan v h1 h2 => exact sub_ok h h1 h2
    | go h1 h2 => exact sub_ok h h1 h2
  | seq a b' iha ihb =>
    intro c hc hl tm ds H rc E w arr dv cs k hcf st hk
    obtain ⟨x, y, rfl, h1, h2⟩ := chk_seq hc
    exact CodeOk.steps (.one st_seq) (CodeOk.seqE (cf := cf) (fun _ => rfl) hcf (iha x h1 hl.1 tm ds H rc E w arr dv cs (.code y :: k) hcf st hk)
      (fun tm ds H' rc E' w' arr dv cs' he hcf' st' => ihb y h2 hl.2 tm ds H' rc E' w' arr dv cs' k hcf' st' (codeH_keys hlk a x h1 hk he)))
  | cond e a b' iha ihb =>
    intro c hc hl tm ds H rc E w arr dv cs k hcf st hk
    obtain ⟨o, x, y, r, i, rfl, hm, hr, h1, h2⟩ := chk_cond hc
    refine condOk (tmO := tm) (fun v hv => ?_) (iha x h1 hl.1 tm ds H rc E w arr dv cs k hcf st hk) (ihb y h2 hl.2 tm ds H rc E w arr dv cs k hcf st hk)
    obtain ⟨tmO', _, fr, hro⟩ := mat_ok (G := G) (cf := cf) (H := H) (ops := []) (fun j j' t h => by simp [dstAt] at h) e hm rfl (Sub.refl tm) trivial hv
    have hsame : ∀ t, PT.get (P.of t) tmO' = PT.get (P.of t) tm := fun t => fr t (fun j _ _ h => by simp [dstAt] at h)
    exact ⟨tmO', ⟨st.hr, st.sz, fun i v e => st.tr i v ((hsame i).symm.trans e), st.ds, st.rc⟩, hro.is hr⟩
  | condR ss e a b' iha ihb =>
    intro c hc hl tm ds H rc E w arr dv cs k hcf st hk
    obtain ⟨id, ops, oo, x, y, i, l, r, i', rfl, hs, hm, hme, hr, h1, h2⟩ := chk_condR hc
    refine CodeOk.steps (.one st_seq) ?_
    obtain ⟨hd, o⟩ := sgs_ok (G := G) (cf := cf) (call := call) (rnd := rnd) (F := mCond G cf e (codeH G cf call rnd V.n lh a) (codeH G cf call rnd V.n lh b') (.cond oo x y)) (ds := ds) (rc := rc) (H := H) hs ss hm rfl (Sub.refl tm) hk
    have h := region_ok hcall hrnd hdraw (id := id) (ops := ops) (draw := false) (k := .code (.cond oo x y) :: k) hcf st
    change CodeOk G W0 V.n b H E w cs _ k (sgsK G cf call rnd ss (mCond G cf e (codeH G cf call rnd V.n lh a) (codeH G cf call rnd V.n lh b') (.cond oo x y)) tm ds H rc)
    change CodeOk G W0 V.n b H E w cs _ _ (regK G cf call rnd V.n ops.toList ops.toList tm ds H rc) at h
    generalize hX : sgsK G cf call rnd ss (mCond G cf e (codeH G cf call rnd V.n lh a) (codeH G cf call rnd V.n lh b') (.cond oo x y)) tm ds H rc = X at o
    generalize hY : regK G cf call rnd V.n ops.toList ops.toList tm ds H rc = Y at o h
    cases o with
    | err k => trivial
    | pan v g1 g2 =>
      obtain ⟨E', w', arr', dv', cs', o, e⟩ := sub_ok h g1 g2
      exact ⟨E', w', arr', dv', cs', o, e.pass (by simp) (fun _ h => by cases h)⟩
    | go g1 g2 =>
      rename_i tm' tmO' H'
      cases hv : cev G cf H'.tab tm' e with
      | none =>
        have : mCond G cf e (codeH G cf call rnd V.n lh a) (codeH G cf call rnd V.n lh b') (.cond oo x y) tm' ds H' rc = .err 204 := by
          unfold mCond; rw [cevK_eq, hv]; rfl
        rw [this]; trivial
      | some v =>
        obtain ⟨tm2, e2, fr2, hr2⟩ := mat_ok (G := G) (cf := cf) (H := H') hs e hme hd g1 trivial hv
        rw [e2.regK] at h
        obtain ⟨E', w', arr', dv', cs', o, en⟩ := h
        have hcf' : cf.ok E'.σ := by rw [o.mv.le.1]; exact hcf
        have st' : St G W0 V.n b tm' ds H' rc E' w' arr' dv' cs' := o.st.sub (g1.keepA (mat_facts e hme hd).all fr2) g2
        refine CodeOk.then o en ?_
        exact condOk (tmO := tm2) (fun u hu => ⟨tm2, o.st, by rw [hv] at hu; cases hu; exact hr2.is hr⟩) (iha x h1 hl.1 tm' ds H' rc E' w' arr' dv' cs' k hcf' st' g2) (ihb y h2 hl.2 tm' ds H' rc E' w' arr' dv' cs' k hcf' st' g2)
  | block id cc ih =>
    intro c hc hl tm ds H rc E w arr dv cs k hcf st hk
    obtain ⟨x, rfl, h1⟩ := chk_block hc
    refine CodeOk.steps (.one st_block) ?_
    have h := ih x h1 hl tm ds H rc E w arr dv cs (.inBlock id :: k) hcf st hk
    change CodeOk G W0 V.n b H E w cs _ k (blockN id (codeH G cf call rnd V.n lh cc x tm ds H rc))
    generalize codeH G cf call rnd V.n lh cc x tm ds H rc = r at h
    cases r with
    | err => trivial
    | ok ex tm' ds' H' rc' =>
      obtain ⟨E', w', arr', dv', cs', o, e⟩ := h
      cases ex with
      | normal => exact ⟨E', w', arr', dv', cs', o, Steps.trans e (.one st_inBlock)⟩
      | ret => exact ⟨E', w', arr', dv', cs', o, e.pass (by simp) (fun _ h => by cases h)⟩
      | pan v => exact ⟨E', w', arr', dv', cs', o, e.pass (by simp) (fun _ h => by cases h)⟩
      | exit j =>
        simp only [blockN]
        cases hj : Nat.beq j id with
        | true =>
          have hj := Nat.eq_of_beq_eq_true hj
          subst hj
          obtain ⟨l, e1, s⟩ := e
          refine ⟨E', w', arr', dv', cs', o, Steps.trans s (.one (st_exit ?_))⟩
          rw [e1]; simp [exitTo]
        | false =>
          have hj := Nat.ne_of_beq_eq_false hj
          refine ⟨E', w', arr', dv', cs', o, e.pass (by simp) (fun i hi => ?_)⟩
          cases hi
          have : (id == j) = false := by simp; exact fun h => hj h.symm
          simp [exitTo, this]
  | loop cc ih =>
    intro c hc hl tm ds H rc E w arr dv cs k hcf st hk
    obtain ⟨x, rfl, h1⟩ := chk_loop hc
    exact CodeOk.steps (.one st_loop) (hlh x hl.1 b _ (fun tm ds H rc E w arr dv cs k hcf st hk => ih x h1 hl.2 tm ds H rc E w arr dv cs k hcf st hk) (fun _ _ _ _ _ _ _ _ _ hk h => codeH_keys hlk cc x h1 hk h) tm ds H rc E w arr dv cs k hcf st hk)
end
/-! ### what a loop may be met by -/
section
variable {G : Program} {W0 : World} {cf : Cf} {V : Kp} {x : Code}
theorem BodyKeys.loop {F : IH} (h : BodyKeys V F) (fuel : Nat) : BodyKeys V (loopC F fuel) := by
  induction fuel with
  | zero => intro tm ds H rc ex tm' ds' H' rc' hk e; cases e
  | succ k ih =>
    intro tm ds H rc ex tm' ds' H' rc' hk e
    rcases thenN_cases (show thenN (loopC F k) (F tm ds H rc) = _ from e) with ⟨_, _, _, _, e1, e2⟩ | ⟨_, e1⟩
    · exact ih _ _ _ _ _ _ _ _ _ (h _ _ _ _ _ _ _ _ _ hk e1) e2
    · exact h _ _ _ _ _ _ _ _ _ hk e1
theorem loopC_ok {b : Frame} {F : IH} (hF : BodyOk G W0 cf V b F x) (hk : BodyKeys V F) (fuel : Nat) : LoopOk G W0 cf V b (loopC F fuel) x := by
  induction fuel with
  | zero => intro tm ds H rc E w arr dv cs k _ _ _; trivial
  | succ m ihm =>
    intro tm ds H rc E w arr dv cs k hcf st hks
    exact CodeOk.seqE (cf := cf) (fun _ => rfl) hcf (hF tm ds H rc E w arr dv cs (.inLoop x :: k) hcf st hks)
      (fun tm ds H' rc E' w' arr dv cs' he hcf' st' => CodeOk.steps (.one st_inLoop) (ihm tm ds H' rc E' w' arr dv cs' k hcf' st' (hk _ _ _ _ _ _ _ _ _ hks he)))
noncomputable def hLoop (fuel : Nat) (F : IH) : IH := loopC F fuel
theorem hLoop_ok (fuel : Nat) : LhOk G W0 cf V (hLoop fuel) x := fun b F hF hk => loopC_ok hF hk fuel
/-- some rounds ahead -/
noncomputable def hUnr (j : Nat) (next : IH → IH) (F : IH) : IH := Nat.rec (next F) (fun _ ih tm ds H rc => thenN ih (F tm ds H rc)) j
theorem hUnr_keys {next : IH → IH} (hn : ∀ F, BodyKeys V F → BodyKeys V (next F)) (j : Nat) : ∀ F, BodyKeys V F → BodyKeys V (hUnr j next F) := by
  intro F h
  induction j with
  | zero => exact hn F h
  | succ k ih =>
    intro tm ds H rc ex tm' ds' H' rc' hk e
    rcases thenN_cases (show thenN (hUnr k next F) (F tm ds H rc) = _ from e) with ⟨_, _, _, _, e1, e2⟩ | ⟨_, e1⟩
    · exact ih _ _ _ _ _ _ _ _ _ (h _ _ _ _ _ _ _ _ _ hk e1) e2
    · exact h _ _ _ _ _ _ _ _ _ hk e1
theorem hUnr_ok {next : IH → IH} (hn : LhOk G W0 cf V next x) (j : Nat) : LhOk G W0 cf V (hUnr j next) x := by
  intro b F hF hk
  induction j with
  | zero => exact hn b F hF hk
  | succ m ihm =>
    intro tm ds H rc E w arr dv cs k hcf st hks
    exact CodeOk.seqE (cf := cf) (fun _ => rfl) hcf (hF tm ds H rc E w arr dv cs (.inLoop x :: k) hcf st hks)
      (fun tm ds H' rc E' w' arr dv cs' he hcf' st' => CodeOk.steps (.one st_inLoop) (ihm tm ds H' rc E' w' arr dv cs' k hcf' st' (hk _ _ _ _ _ _ _ _ _ hks he)))
/-- where a loop is come to: for printing -/
noncomputable def hStop (_ : IH) : IH := fun tm ds H rc => .ok (.exit 999999) tm ds H rc
/-- a state that is written down, what the loop comes to from there -/
structure Lf where
  tm : PT AV
  T : PT AObj
  nx : P
  r : CR
noncomputable def Lf.met (cf : Cf) (m : Lf) (tm : PT AV) (ds : List AD) (H : Hp) (rc : RC) : Bool := match ds, rc with
  | [], .no => match P.beq H.nx m.nx, subG (AV.le cf) m.tm tm, subG (AObj.le cf) m.T H.tab with
    | true, true, true => true
    | _, _, _ => false
  | _, _ => false
noncomputable def hFact (cf : Cf) (m : Lf) (next : IH → IH) (F : IH) : IH := fun tm ds H rc => Bool.rec (next F tm ds H rc) m.r (Lf.met cf m tm ds H rc)
/-- all blocks of a world told, its frame's temporaries, no deferred call: what is so from there -/
def LfOk (G : Program) (W0 : World) (cf : Cf) (V : Kp) (b : Frame) (x : Code) (m : Lf) : Prop := ∀ (E : Env) (w : World) (arr : Array Value) (dv : List Deferred) (cs : List Frame) (k : List Item),
    cf.ok E.σ → St G W0 V.n b m.tm [] ⟨m.nx, m.T⟩ .no E w arr dv cs → Keys V m.tm → CodeOk G W0 V.n b ⟨m.nx, m.T⟩ E w cs (lone (Fr b arr (.code x :: .inLoop x :: k) dv) cs w) k m.r
def CrKeys (V : Kp) (r : CR) : Prop := ∀ ex tm ds H rc, r = .ok ex tm ds H rc → Keys V tm
theorem hFact_keys {m : Lf} (hm : CrKeys V m.r) {next : IH → IH} (hn : ∀ F, BodyKeys V F → BodyKeys V (next F)) : ∀ F, BodyKeys V F → BodyKeys V (hFact cf m next F) := by
  intro F h tm ds H rc ex tm' ds' H' rc' hk e
  unfold hFact at e
  cases hb : Lf.met cf m tm ds H rc with
  | false => rw [hb] at e; exact hn F h _ _ _ _ _ _ _ _ _ hk e
  | true => rw [hb] at e; exact hm _ _ _ _ _ e
theorem met_ok {m : Lf} {tm : PT AV} {ds : List AD} {H : Hp} {rc : RC} (h : Lf.met cf m tm ds H rc = true) : ds = [] ∧ rc = .no ∧ H.nx = m.nx ∧ subG (AV.le cf) m.tm tm = true ∧ subG (AObj.le cf) m.T H.tab = true := by
  unfold Lf.met at h
  split at h
  · split at h
    · rename_i h1 h2 h3
      exact ⟨rfl, rfl, (P.beq_iff _ _).1 h1, h2, h3⟩
    · cases h
  · cases h
theorem hFact_ok {m : Lf} (hm : ∀ b, LfOk G W0 cf V b x m) {next : IH → IH} (hn : LhOk G W0 cf V next x) : LhOk G W0 cf V (hFact cf m next) x := by
  intro b F hF hk tm ds H rc E w arr dv cs k hcf st hks
  unfold hFact
  cases hb : Lf.met cf m tm ds H rc with
  | false => exact hn b F hF hk tm ds H rc E w arr dv cs k hcf st hks
  | true =>
    obtain ⟨rfl, rfl, e1, e2, e3⟩ := met_ok hb
    have hT : ∀ l o, PT.get l m.T = some o → ∃ o', H.f l = some o' ∧ ObLe E.σ o' o := fun l o e => by
      obtain ⟨o', h1, h2⟩ := subG_ok e3 e
      exact ⟨o', h1, ole_ok hcf h2⟩
    have hr : HR G W0 E (Hp.mk m.nx m.T).f m.nx.toNat w := by
      rw [← e1]; exact st.hr.weak hT
    have tr : TR E m.tm arr := fun i v e => by
      obtain ⟨v', h1, h2⟩ := subG_ok e2 e
      obtain ⟨y, h3, h4⟩ := st.tr i v' h1
      exact ⟨y, h3, le_ok hcf h2 h4⟩
    have hk' : Keys V m.tm := fun p v e => by
      obtain ⟨v', h1, _⟩ := subG_ok e2 e
      exact hks p v' h1
    have h := hm b E w arr dv cs k hcf ⟨hr, st.sz, tr, st.ds, st.rc⟩ hk'
    show CodeOk G W0 V.n b H E w cs _ k m.r
    revert h
    cases m.r with
    | err => exact fun h => h
    | ok ex tm' ds' H' rc' =>
      rintro ⟨E', w', arr', dv', cs', o, e⟩
      refine ⟨E', w', arr', dv', cs', ⟨?_, o.st, o.md⟩, e⟩
      rw [e1]
      exact o.mv.widen (fun l o h => by obtain ⟨o', h1, _⟩ := hT l o h; exact ⟨o', h1⟩)
/-! ### rounds, from a state whose numbers stand for others -/
noncomputable def itC (m : Nat) (F : IH) : IH := Nat.rec (fun tm ds H rc => .ok .normal tm ds H rc) (fun _ ih tm ds H rc => thenN ih (F tm ds H rc)) m
theorem itC_ok {b : Frame} {F : IH} (hF : BodyOk G W0 cf V b F x) (hk : BodyKeys V F) : ∀ (m : Nat) (tm : PT AV) (ds : List AD) (H : Hp) (rc : RC) (E : Env) (w : World) (arr : Array Value) (dv : List Deferred) (cs : List Frame) (k : List Item) (tm' : PT AV) (ds' : List AD) (H' : Hp) (rc' : RC),
    cf.ok E.σ → St G W0 V.n b tm ds H rc E w arr dv cs → Keys V tm → itC m F tm ds H rc = .ok .normal tm' ds' H' rc' →
    ∃ E' w' arr' dv' cs', Out G W0 V.n b H E w cs tm' ds' H' rc' E' w' arr' dv' cs' ∧ Steps G (lone (Fr b arr (.code x :: .inLoop x :: k) dv) cs w) (lone (Fr b arr' (.code x :: .inLoop x :: k) dv') cs' w') := by
  intro m
  induction m with
  | zero =>
    intro tm ds H rc E w arr dv cs k tm' ds' H' rc' hcf st hks e
    cases e
    exact ⟨E, w, arr, dv, cs, ⟨Mv.refl st.hr, st, .refl _ _⟩, .refl _ _⟩
  | succ m ih =>
    intro tm ds H rc E w arr dv cs k tm' ds' H' rc' hcf st hks e
    rcases thenN_cases (show thenN (itC m F) (F tm ds H rc) = _ from e) with ⟨tm1, ds1, H1, rc1, e1, e2⟩ | ⟨hn, _⟩
    · have h := hF tm ds H rc E w arr dv cs (.inLoop x :: k) hcf st hks
      rw [e1] at h
      obtain ⟨E1, w1, arr1, dv1, cs1, o1, s1⟩ := h
      obtain ⟨E2, w2, arr2, dv2, cs2, o2, s2⟩ := ih tm1 ds1 H1 rc1 E1 w1 arr1 dv1 cs1 k tm' ds' H' rc' (by rw [o1.mv.le.1]; exact hcf) o1.st (hk _ _ _ _ _ _ _ _ _ hks e1) e2
      exact ⟨E2, w2, arr2, dv2, cs2, o1.trans o2, (Steps.trans s1 (.one st_inLoop)).trans s2⟩
    · exact absurd rfl hn
/-- does the state lie below the pattern (its numbers by θ)? -/
noncomputable def stLe (cf : Cf) (θ : Nat → SI) (nx : P) (tm0 : PT AV) (T0 : PT AObj) (tm : PT AV) (T : PT AObj) : Bool := match subG (AV.leS cf nx.toNat θ 6) tm0 tm with
  | true => subG (AObj.leS cf nx.toNat θ) T0 T
  | false => false
noncomputable def stepOk (cf : Cf) (θ : Nat → SI) (nx : P) (tm0 : PT AV) (T0 : PT AObj) (r : CR) : Bool := match r with
  | .ok .normal tm [] H .no => stLe cf θ nx tm0 T0 tm H.tab
  | _ => false
noncomputable def exOk : Ex → Bool
  | .pan _ => false
  | _ => true
noncomputable def exitR (θ : Nat → SI) (r : CR) : CR := match r with
  | .ok ex tm [] H .no => match exOk ex with
    | true => .ok ex (mapT (fun v => some (AV.subV θ 6 v)) tm) [] ⟨H.nx, mapT (AObj.subO θ) H.tab⟩ .no
    | false => .err 403
  | _ => .err 402
theorem exitR_keys {θ : Nat → SI} {r : CR} (h : CrKeys V r) : CrKeys V (exitR θ r) := by
  intro ex tm ds H rc e
  unfold exitR at e
  split at e
  · split at e
    · cases e
      intro p v hv
      obtain ⟨a, h1, _⟩ := mapT_get _ _ _ hv
      exact h _ _ _ _ _ rfl p a h1
    · cases e
  · cases e
theorem St.le_turn {b : Frame} {nx : P} {tm0 tm : PT AV} {T0 : PT AObj} {H : Hp} {σ : Nat → Int} {ρ ρ' : P → Option (Nat × Nat)} {w : World} {arr : Array Value} {dv : List Deferred} {cs : List Frame} {θ : Nat → SI} (hcf : cf.ok σ) (st : St G W0 V.n b tm [] H .no ⟨σ, ρ'⟩ w arr dv cs) (h : stLe cf θ nx tm0 T0 tm H.tab = true)
    (hle : ∀ l x, ρ l = some x → ρ' l = some x) (hdn : ∀ l x, ρ' l = some x → l.toNat < nx.toNat → ρ l = some x) (hdom : ∀ l x, ρ l = some x → l.toNat < nx.toNat) (hT : ∀ l o, PT.get l T0 = some o → ∃ x, ρ l = some x) (hb : ∀ i, 1000 ≤ i → evs θ σ i = σ i) :
    St G W0 V.n b tm0 [] ⟨nx, T0⟩ .no ⟨evs θ σ, ρ⟩ w arr dv cs := by
  unfold stLe at h
  split at h
  · rename_i h1
    refine ⟨?_, st.sz, fun i v e => ?_, ?_, ?_⟩
    · refine st.hr.turn hle hdom (fun l o e => ⟨hT l o e, ?_⟩) hb
      obtain ⟨o', k1, k2⟩ := subG_ok h e
      exact ⟨o', k1, fun c ob ho => leSO_ok hcf ⟨hdn⟩ hb k2 ho⟩
    · obtain ⟨v', k1, k2⟩ := subG_ok h1 e
      obtain ⟨y, k3, k4⟩ := st.tr i v' k1
      exact ⟨y, k3, leS_ok hcf ⟨hdn⟩ hb 6 k2 k4⟩
    · have := st.ds; cases this; exact .nil
    · have := st.rc
      cases this with
      | no a c => exact .no a c _
      | ret a c d => exact .ret a c d
  · cases h
/-- the end of a loop, told in the numbers that it began with -/
theorem exit_turn {b : Frame} {cfB : Cf} {FB : IH} {fuel : Nat} {tm0 : PT AV} {Te T0 : PT AObj} {nx : P} {θX : Nat → SI} {σ : Nat → Int} (hFB : BodyOk G W0 cfB V b FB x) (hkB : BodyKeys V FB) (hcB : cfB.ok (evs θX σ))
    (hT0 : ∀ l o, PT.get l T0 = some o → ∃ o', PT.get l Te = some o') (hbX : ∀ i, 1000 ≤ i → evs θX σ i = σ i) (hk0 : Keys V tm0)
    {ρ : P → Option (Nat × Nat)} {w w1 : World} {arr1 : Array Value} {dv1 : List Deferred} {cs cs1 : List Frame} {k : List Item} (st1 : St G W0 V.n b tm0 [] ⟨nx, T0⟩ .no ⟨evs θX σ, ρ⟩ w1 arr1 dv1 cs1)
    (hsz : w.heap.size ≤ w1.heap.size) (hfr : ∀ a, a < w.heap.size → (∀ l o c, PT.get l Te = some o → ρ l = some (a, c) → False) → w1.heap[a]? = w.heap[a]?) (hmd : Mod b cs cs1) :
    CodeOk G W0 V.n b ⟨nx, Te⟩ ⟨σ, ρ⟩ w cs (lone (Fr b arr1 (.code x :: .inLoop x :: k) dv1) cs1 w1) k (exitR θX (loopC FB fuel tm0 [] ⟨nx, T0⟩ .no)) := by
  have h := loopC_ok hFB hkB fuel tm0 [] ⟨nx, T0⟩ .no ⟨evs θX σ, ρ⟩ w1 arr1 dv1 cs1 k hcB st1 hk0
  generalize loopC FB fuel tm0 [] ⟨nx, T0⟩ .no = R at h
  unfold exitR
  split
  · rename_i ex tm H
    split
    · rename_i hex
      obtain ⟨⟨σ2, ρ2⟩, w2, arr2, dv2, cs2, o, e⟩ := h
      have e1 : σ2 = evs θX σ := o.mv.le.1
      subst e1
      have hT : ∀ l u, PT.get l (mapT (AObj.subO θX) H.tab) = some u → ∃ a, PT.get l H.tab = some a ∧ AObj.subO θX a = some u := fun l u h => mapT_get _ _ _ h
      have hr : HR G W0 ⟨σ, ρ2⟩ (Hp.mk H.nx (mapT (AObj.subO θX) H.tab)).f H.nx.toNat w2 := by
        refine o.st.hr.turn (fun _ _ h => h) o.st.hr.dom (fun l u h => ?_) (fun i hi => (hbX i hi).symm)
        obtain ⟨a, h1, h2⟩ := hT l u h
        obtain ⟨b', c', _, h3, _⟩ := o.st.hr.obj l a h1
        exact ⟨⟨_, h3⟩, a, h1, fun c ob ho => subO_ok hbX h2 ho⟩
      refine ⟨⟨σ, ρ2⟩, w2, arr2, dv2, cs2, ⟨⟨⟨rfl, o.mv.le.2⟩, hr, o.mv.up, Nat.le_trans hsz o.mv.sz, fun a ha hno => ?_, fun l u b' c h1 h2 => ?_, o.mv.nw⟩, ⟨hr, o.st.sz, fun i v h => ?_, ?_, ?_⟩, hmd.trans o.md⟩, ?_⟩
      · rw [o.mv.fr a (Nat.lt_of_lt_of_le ha hsz) (fun l u c e1 e2 => by obtain ⟨u', k1⟩ := hT0 l u e1; exact hno l u' c k1 e2)]
        exact hfr a ha hno
      · obtain ⟨a, h3, _⟩ := hT l u h1
        rcases o.mv.own l a b' c h3 h2 with h4 | ⟨l0, u0, c0, h4, h5⟩
        · exact .inl (Nat.le_trans hsz h4)
        · obtain ⟨u', k1⟩ := hT0 l0 u0 h4
          exact .inr ⟨l0, u', c0, k1, h5⟩
      · obtain ⟨a, h1, h2⟩ := mapT_get _ _ _ h
        cases h2
        obtain ⟨y, h3, h4⟩ := o.st.tr i a h1
        exact ⟨y, h3, subV_ok hbX 6 h4⟩
      · have := o.st.ds; cases this; exact .nil
      · have := o.st.rc
        cases this with
        | no a c => exact .no a c _
        | ret a c d => exact .ret a c d
      · cases ex with
        | normal => exact e
        | exit id => exact e
        | ret => exact e
        | pan v => cases hex
    · trivial
  · trivial
/-- a loop, from a state that lies below a pattern: round by round the pattern stays; at its end what the pattern comes to -/
theorem loop_turn {b : Frame} {cfA cfB : Cf} {FA FB : IH} {fuel m : Nat} {tme tm0 : PT AV} {Te T0 : PT AObj} {nx : P} {θ0 θA θX : Nat → SI} {σ : Nat → Int} (J : (Nat → Int) → Prop) (μ : (Nat → Int) → Nat)
    (hFA : BodyOk G W0 cfA V b FA x) (hkA : BodyKeys V FA) (hFB : BodyOk G W0 cfB V b FB x) (hkB : BodyKeys V FB)
    (hcf : cf.ok σ) (h0 : stLe cf θ0 nx tm0 T0 tme Te = true) (hA : stepOk cfA θA nx tm0 T0 (itC m FA tm0 [] ⟨nx, T0⟩ .no) = true)
    (hJ0 : J (evs θ0 σ)) (hJ : ∀ σ', J σ' → (cfA.ok σ' ∧ J (evs θA σ') ∧ μ (evs θA σ') < μ σ') ∨ (cfB.ok σ' ∧ σ' = evs θX σ))
    (hb0 : ∀ i, 1000 ≤ i → evs θ0 σ i = σ i) (hbA : ∀ σ' i, 1000 ≤ i → evs θA σ' i = σ' i) (hbX : ∀ i, 1000 ≤ i → evs θX σ i = σ i)
    {ρ : P → Option (Nat × Nat)} {w : World} {arr : Array Value} {dv : List Deferred} {cs : List Frame} {k : List Item} (st : St G W0 V.n b tme [] ⟨nx, Te⟩ .no ⟨σ, ρ⟩ w arr dv cs) (hk : Keys V tme) :
    CodeOk G W0 V.n b ⟨nx, Te⟩ ⟨σ, ρ⟩ w cs (lone (Fr b arr (.code x :: .inLoop x :: k) dv) cs w) k (exitR θX (loopC FB fuel tm0 [] ⟨nx, T0⟩ .no)) := by
  have hdom : ∀ l y, ρ l = some y → l.toNat < nx.toNat := st.hr.dom
  have h0' := h0
  unfold stLe at h0'
  split at h0'
  case h_2 => cases h0'
  rename_i h0t
  have hT0 : ∀ l o, PT.get l T0 = some o → ∃ o', PT.get l Te = some o' := fun l o e => by obtain ⟨o', k1, _⟩ := subG_ok h0' e; exact ⟨o', k1⟩
  have hTρ : ∀ l o, PT.get l T0 = some o → ∃ y, ρ l = some y := fun l o e => by
    obtain ⟨o', k1⟩ := hT0 l o e
    obtain ⟨b', c', _, k2, _⟩ := st.hr.obj l o' k1
    exact ⟨_, k2⟩
  have hk0 : Keys V tm0 := fun p v e => by obtain ⟨v', k1, _⟩ := subG_ok h0t e; exact hk p v' k1
  have st0 : St G W0 V.n b tm0 [] ⟨nx, T0⟩ .no ⟨evs θ0 σ, ρ⟩ w arr dv cs := St.le_turn hcf st h0 (fun _ _ h => h) (fun _ _ h _ => h) hdom hTρ hb0
  -- the rounds
  have main : ∀ (n : Nat) (σ' : Nat → Int) (w1 : World) (arr1 : Array Value) (dv1 : List Deferred) (cs1 : List Frame), μ σ' ≤ n → J σ' → St G W0 V.n b tm0 [] ⟨nx, T0⟩ .no ⟨σ', ρ⟩ w1 arr1 dv1 cs1 →
      w.heap.size ≤ w1.heap.size → (∀ a, a < w.heap.size → (∀ l o c, PT.get l Te = some o → ρ l = some (a, c) → False) → w1.heap[a]? = w.heap[a]?) → Mod b cs cs1 →
      CodeOk G W0 V.n b ⟨nx, Te⟩ ⟨σ, ρ⟩ w cs (lone (Fr b arr1 (.code x :: .inLoop x :: k) dv1) cs1 w1) k (exitR θX (loopC FB fuel tm0 [] ⟨nx, T0⟩ .no)) := by
    intro n
    induction n with
    | zero =>
      intro σ' w1 arr1 dv1 cs1 hμ hj st1 hsz hfr hmd
      rcases hJ σ' hj with ⟨_, _, hlt⟩ | ⟨hcB, rfl⟩
      · omega
      · exact exit_turn hFB hkB hcB hT0 hbX hk0 st1 hsz hfr hmd
    | succ n ih =>
      intro σ' w1 arr1 dv1 cs1 hμ hj st1 hsz hfr hmd
      rcases hJ σ' hj with ⟨hcA, hj', hlt⟩ | ⟨hcB, rfl⟩
      · have hA' := hA
        unfold stepOk at hA'
        split at hA'
        · rename_i tm2 H2 hr
          obtain ⟨E2, w2, arr2, dv2, cs2, o, s⟩ := itC_ok hFA hkA m tm0 [] ⟨nx, T0⟩ .no ⟨σ', ρ⟩ w1 arr1 dv1 cs1 k _ _ _ _ hcA st1 hk0 hr
          obtain ⟨σ2, ρ2⟩ := E2
          have e1 : σ2 = σ' := o.mv.le.1
          subst e1
          have hdn : ∀ l y, ρ2 l = some y → l.toNat < nx.toNat → ρ l = some y := fun l y e hl => by
            rcases o.mv.nw l y e with h | h
            · exact h
            · exact absurd hl (by have : nx.toNat ≤ l.toNat := h; omega)
          have st2 : St G W0 V.n b tm0 [] ⟨nx, T0⟩ .no ⟨evs θA σ2, ρ⟩ w2 arr2 dv2 cs2 := St.le_turn hcA o.st hA' (fun l y e => o.mv.le.2 l y e) hdn hdom hTρ (hbA σ2)
          refine CodeOk.steps s (ih (evs θA σ2) w2 arr2 dv2 cs2 (by omega) hj' st2 (Nat.le_trans hsz o.mv.sz) (fun a ha hno => ?_) (hmd.trans o.md))
          rw [o.mv.fr a (Nat.lt_of_lt_of_le ha hsz) (fun l u c e1 e2 => by obtain ⟨u', k1⟩ := hT0 l u e1; exact hno l u' c k1 e2)]
          exact hfr a ha hno
        · cases hA'
      · exact exit_turn hFB hkB hcB hT0 hbX hk0 st1 hsz hfr hmd
  exact main (μ (evs θ0 σ)) _ w arr dv cs (Nat.le_refl _) hJ0 st0 (Nat.le_refl _) (fun _ _ _ => rfl) (.refl _ _)
end
/-! ### a function whose loop is met by what is given -/
noncomputable def frameL (G : Program) (cf : Cf) (call : CallF) (rnd : RndF) (fuel : Nat) (lh : IH → IH) (x : CFn) (f : FuncId) (args : List AV) (H : Hp) : KR := match G.funcs[f]? with
  | some fn => match fn.body with
    | some c => Bool.rec (.err 95) (afterC G cf call rnd fuel f fn (codeH G cf call rnd x.V.n lh x.code c (argsT args 0 .e) [] H .no)) (Nat.ble (lenL args) x.V.m && Nat.ble (lenL args) x.V.n)
    | none => .err 96
  | none => .err 97
section
variable {G : Program} {W0 : World} {cf : Cf} {call : CallF} {rnd : RndF}
theorem frameL_ok [GlOk cf.gl W0] (hcall : CallOk G W0 cf call) (hrnd : RndOk G W0 cf rnd) (hdraw : DrawOk G W0 cf call) (fuel : Nat) {lh : IH → IH} {x : CFn} {f : FuncId} {Q : Code → Prop} (hlk : ∀ F, BodyKeys x.V F → BodyKeys x.V (lh F)) (hlh : ∀ y, Q y → LhOk G W0 cf x.V lh y) (hok : okF G f x = true)
    (hlp : ∀ fn c, G.funcs[f]? = some fn → fn.body = some c → LoopsP Q x.code c) (args : List AV) (H : Hp) (E : Env) (w : World) (xs : List Value) (hcf : cf.ok E.σ) (hr : HR G W0 E H.f H.nx.toNat w) (hx : VRs E args xs) : CallRes G W0 E H w f xs (frameL G cf call rnd fuel lh x f args H) := by
  refine LeaveRes.calls fun cs => ?_
  unfold frameL
  unfold okF at hok
  split
  · rename_i fn hf
    rw [hf] at hok
    simp only at hok
    split
    · rename_i body hb
      rw [hb] at hok
      simp only [Bool.and_eq_true] at hok
      have hn := Nat.eq_of_beq_eq_true hok.1
      cases hl : (Nat.ble (lenL args) x.V.m && Nat.ble (lenL args) x.V.n) with
      | false => trivial
      | true =>
      simp only [Bool.and_eq_true] at hl
      have hlm := Nat.le_of_ble_eq_true hl.1
      have hln := Nat.le_of_ble_eq_true hl.2
      have st := st_args (n := fn.ntmps) (b := { (default : Frame) with fn := f, kind := .normal }) (rc := .no) (cs := cs) hr hx (by rw [← hn]; exact hln) (.no rfl rfl cs)
      rw [← hn] at st
      have hkeys : Keys x.V (argsT args 0 .e) := argsT_keys args 0 .e (by rw [lenL_eq] at hlm; omega) (fun _ _ e => by rw [PT.get_e] at e; cases e)
      have hk := codeH_ok hlk hlh hcall hrnd hdraw x.code body hok.2 (hlp fn body hf hb) _ [] H .no E w _ [] cs [] hcf st hkeys
      rw [hn, ← enter_eq hf hb] at hk
      have same : ∀ {cs'}, Mod { (default : Frame) with fn := f, kind := .normal } cs cs' → cs' = cs := by
        intro cs' hm
        rcases hm with rfl | ⟨e, _⟩
        · rfl
        · cases e
      show LeaveRes G W0 E H w f _ cs (afterC G cf call rnd fuel f fn (codeH G cf call rnd x.V.n lh x.code body (argsT args 0 .e) [] H .no))
      rw [hn]
      unfold afterC
      split
      · rename_i tm ds H2 rc2 hcode
        rw [hcode] at hk
        obtain ⟨E', w', arr', dv', cs', o, e⟩ := hk
        have := same o.md
        subst this
        exact LeaveRes.then o.mv (Steps.trans e (.one (st_end rfl))) (leaveK_ok hcall hrnd hdraw ds .ret tm H2 E' w' _ dv' cs' (by rw [o.mv.le.1]; exact hcf) o.st.hr o.st.tr o.st.ds .ret rfl hf rfl)
      · rename_i tm ds H2 rc2 hcode
        rw [hcode] at hk
        obtain ⟨E', w', arr', dv', cs', o, j, e⟩ := hk
        have := same o.md
        subst this
        exact LeaveRes.then o.mv (Steps.trans e (.one (st_ret rfl))) (leaveK_ok hcall hrnd hdraw ds .ret tm H2 E' w' _ dv' cs' (by rw [o.mv.le.1]; exact hcf) o.st.hr o.st.tr o.st.ds .ret rfl hf rfl)
      · rename_i v tm ds H2 rc2 hcode
        rw [hcode] at hk
        obtain ⟨E', w', arr', dv', cs', o, y, j, hv, e⟩ := hk
        have := same o.md
        subst this
        exact LeaveRes.then o.mv e (leaveK_ok hcall hrnd hdraw ds (.pan v) tm H2 E' w' _ dv' cs' (by rw [o.mv.le.1]; exact hcf) o.st.hr o.st.tr o.st.ds (.pan hv) rfl hf rfl)
      · trivial
      · trivial
    · trivial
  · trivial
theorem soundL (hm : G.follows .mixedOrders = true) {T : PT CFn} (hT : TabOk G T) {over : CallF → CallF} {cf : Cf} {fuel d : Nat} {f : FuncId} {avs : List AV} {xs : List Value} {w : World} {σ : Nat → Int} [GlOk cf.gl w] (hover : ∀ call, CallOk G w cf call → CallOk G w cf (over call)) (hcf : cf.ok σ) (hx : VRs ⟨σ, fun _ => none⟩ avs xs)
    {lh : IH → IH} {x : CFn} {Q : Code → Prop} (hlk : ∀ F, BodyKeys x.V F → BodyKeys x.V (lh F)) (hlh : ∀ y, Q y → LhOk G w cf x.V lh y) (hok : okF G f x = true) (hlp : ∀ fn c, G.funcs[f]? = some fn → fn.body = some c → LoopsP Q x.code c)
    (h : yes (frameL G cf (bothC G cf T over fuel d).1 (bothC G cf T over fuel d).2 fuel lh x f avs ⟨P.h, PT.e⟩) = true) (hX : XOk w σ := by exact XOk.none rfl) : Calls G f xs.toArray w fun e w' => e = .returned (.bool true) ∧ Below w.heap.size w w' := by
  have hb := bothC_ok (W0 := w) hT (fun call h => drawK_ok hm h) hover fuel d
  have hc := frameL_ok hb.1 hb.2 (drawK_ok hm hb.1) fuel hlk hlh hok hlp avs ⟨P.h, PT.e⟩ ⟨σ, fun _ => none⟩ w xs hcf (HR.start w σ hX) hx
  unfold yes at h
  split at h
  · rename_i b H' hr
    rw [hr] at hc
    refine Calls.mono hc ?_
    rintro e w' ⟨E', x, rfl, mv, hv⟩
    cases hv
    exact ⟨by rw [h], mv.hr.below.toBelow⟩
  · cases h
end
end Go.Ai

/- Loops of several patterns; calls met by a rule; slices.Clone of an array of unknown length. -/
namespace Go.Ai
open Go Go.RowKit
set_option linter.unusedVariables false
/-! ### several patterns -/
structure Pat where
  tm : PT AV
  T : PT AObj
/-- a piece of the way: rounds from a pattern; what they lead to -/
noncomputable def endOk (cf : Cf) (θ : Nat → SI) (nx : P) (ex : Ex) (tm0 : PT AV) (T0 : PT AObj) (r : CR) : Bool := match r, ex with
  | .ok (.exit i) tm [] H .no, .exit j => match Nat.beq i j with
    | true => stLe cf θ nx tm0 T0 tm H.tab
    | false => false
  | .ok .normal tm [] H .no, .normal => stLe cf θ nx tm0 T0 tm H.tab
  | .ok .ret tm [] H .no, .ret => stLe cf θ nx tm0 T0 tm H.tab
  | _, _ => false
section
variable {G : Program} {W0 : World} {cf : Cf} {V : Kp} {x : Code}
theorem endOk_some {θ : Nat → SI} {nx : P} {ex : Ex} {tm0 : PT AV} {T0 : PT AObj} {r : CR} (h : endOk cf θ nx ex tm0 T0 r = true) : ∃ tm H, r = .ok ex tm [] H .no ∧ stLe cf θ nx tm0 T0 tm H.tab = true ∧ ∀ v, ex ≠ .pan v := by
  unfold endOk at h
  split at h
  · split at h
    · rename_i hb
      rw [Nat.eq_of_beq_eq_true hb]
      exact ⟨_, _, rfl, h, fun v e => by cases e⟩
    · cases h
  · exact ⟨_, _, rfl, h, fun v e => by cases e⟩
  · exact ⟨_, _, rfl, h, fun v e => by cases e⟩
  · cases h
theorem Ends.turn {E E' : Env} {b : Frame} {k : List Item} {arr : Array Value} {dv : List Deferred} {cs : List Frame} {w : World} {m : Machine} {ex : Ex} (hp : ∀ v, ex ≠ .pan v) (h : Ends G E b k arr dv cs w m ex) : Ends G E' b k arr dv cs w m ex := by
  cases ex with
  | normal => exact h
  | exit id => exact h
  | ret => exact h
  | pan v => exact absurd rfl (hp v)
/-- what one class of a pattern comes to: another pattern, or the end -/
inductive Way (G : Program) (W0 : World) (V : Kp) (b : Frame) (x : Code) (nx : P) (pat : Nat → Pat) (J : Nat → (Nat → Int) → Prop) (μ : Nat → (Nat → Int) → Nat) (σ0 : Nat → Int) (ex : Ex) (tmX : PT AV) (TX : PT AObj) (a : Nat) (σ : Nat → Int) : Prop
  | step {cf : Cf} {F : IH} {θ : Nat → SI} {m c : Nat} (hcf : cf.ok σ) (hF : BodyOk G W0 cf V b F x) (hk : BodyKeys V F) (h : stepOk cf θ nx (pat c).tm (pat c).T (itC m F (pat a).tm [] ⟨nx, (pat a).T⟩ .no) = true)
      (hJ : J c (evs θ σ)) (hμ : μ c (evs θ σ) < μ a σ) (hb : ∀ i, 1000 ≤ i → evs θ σ i = σ i) : Way G W0 V b x nx pat J μ σ0 ex tmX TX a σ
  | stop {cf : Cf} {F : IH} {θ : Nat → SI} {fuel : Nat} (hcf : cf.ok σ) (hF : BodyOk G W0 cf V b F x) (hk : BodyKeys V F) (h : endOk cf θ nx ex tmX TX (loopC F fuel (pat a).tm [] ⟨nx, (pat a).T⟩ .no) = true)
      (hσ : evs θ σ = σ0) : Way G W0 V b x nx pat J μ σ0 ex tmX TX a σ
theorem loop_many {b : Frame} {tme tmX : PT AV} {Te TX : PT AObj} {nx : P} {pat : Nat → Pat} {a0 : Nat} {θ0 : Nat → SI} {σ : Nat → Int} {ex : Ex} (J : Nat → (Nat → Int) → Prop) (μ : Nat → (Nat → Int) → Nat)
    (hcf : cf.ok σ) (h0 : stLe cf θ0 nx (pat a0).tm (pat a0).T tme Te = true) (hkeys : ∀ a σ', J a σ' → Keys V (pat a).tm) (hnames : ∀ a σ', J a σ' → ∀ l o, PT.get l (pat a).T = some o → ∃ o', PT.get l Te = some o') (hnX : ∀ l o, PT.get l TX = some o → ∃ o', PT.get l Te = some o')
    (hJ0 : J a0 (evs θ0 σ)) (hJ : ∀ a σ', J a σ' → Way G W0 V b x nx pat J μ σ ex tmX TX a σ') (hb0 : ∀ i, 1000 ≤ i → evs θ0 σ i = σ i) (hbJ : ∀ a σ', J a σ' → ∀ i, 1000 ≤ i → σ' i = σ i)
    {ρ : P → Option (Nat × Nat)} {w : World} {arr : Array Value} {dv : List Deferred} {cs : List Frame} {k : List Item} (st : St G W0 V.n b tme [] ⟨nx, Te⟩ .no ⟨σ, ρ⟩ w arr dv cs) :
    CodeOk G W0 V.n b ⟨nx, Te⟩ ⟨σ, ρ⟩ w cs (lone (Fr b arr (.code x :: .inLoop x :: k) dv) cs w) k (.ok ex tmX [] ⟨nx, TX⟩ .no) := by
  have hdom : ∀ l y, ρ l = some y → l.toNat < nx.toNat := st.hr.dom
  have hρ : ∀ l o', PT.get l Te = some o' → ∃ y, ρ l = some y := fun l o' k1 => by
    obtain ⟨b', c', _, k2, _⟩ := st.hr.obj l o' k1
    exact ⟨_, k2⟩
  have hTρ : ∀ a σ', J a σ' → ∀ l o, PT.get l (pat a).T = some o → ∃ y, ρ l = some y := fun a σ' hj l o e => by
    obtain ⟨o', k1⟩ := hnames a σ' hj l o e
    exact hρ l o' k1
  have st0 : St G W0 V.n b (pat a0).tm [] ⟨nx, (pat a0).T⟩ .no ⟨evs θ0 σ, ρ⟩ w arr dv cs := St.le_turn hcf st h0 (fun _ _ h => h) (fun _ _ h _ => h) hdom (hTρ a0 _ hJ0) hb0
  have main : ∀ (n : Nat) (a : Nat) (σ' : Nat → Int) (w1 : World) (arr1 : Array Value) (dv1 : List Deferred) (cs1 : List Frame), μ a σ' < n → J a σ' → St G W0 V.n b (pat a).tm [] ⟨nx, (pat a).T⟩ .no ⟨σ', ρ⟩ w1 arr1 dv1 cs1 →
      w.heap.size ≤ w1.heap.size → (∀ q, q < w.heap.size → (∀ l o c, PT.get l Te = some o → ρ l = some (q, c) → False) → w1.heap[q]? = w.heap[q]?) → Mod b cs cs1 →
      CodeOk G W0 V.n b ⟨nx, Te⟩ ⟨σ, ρ⟩ w cs (lone (Fr b arr1 (.code x :: .inLoop x :: k) dv1) cs1 w1) k (.ok ex tmX [] ⟨nx, TX⟩ .no) := by
    intro n
    induction n with
    | zero => intro a σ' w1 arr1 dv1 cs1 hμ; omega
    | succ n ih =>
      intro a σ' w1 arr1 dv1 cs1 hμ hj st1 hsz hfr hmd
      cases hJ a σ' hj with
      | step hc hF hk hs hj' hlt hbθ =>
        rename_i cfA F θ m c
        have hs' := hs
        unfold stepOk at hs'
        split at hs'
        · rename_i tm2 H2 hr
          obtain ⟨E2, w2, arr2, dv2, cs2, o, s⟩ := itC_ok hF hk m (pat a).tm [] ⟨nx, (pat a).T⟩ .no ⟨σ', ρ⟩ w1 arr1 dv1 cs1 k _ _ _ _ hc st1 (hkeys a σ' hj) hr
          obtain ⟨σ2, ρ2⟩ := E2
          have e1 : σ2 = σ' := o.mv.le.1
          subst e1
          have hdn : ∀ l y, ρ2 l = some y → l.toNat < nx.toNat → ρ l = some y := fun l y e hl => by
            rcases o.mv.nw l y e with h | h
            · exact h
            · exact absurd hl (by have : nx.toNat ≤ l.toNat := h; omega)
          have st2 : St G W0 V.n b (pat c).tm [] ⟨nx, (pat c).T⟩ .no ⟨evs θ σ2, ρ⟩ w2 arr2 dv2 cs2 := St.le_turn hc o.st hs' (fun l y e => o.mv.le.2 l y e) hdn hdom (hTρ c _ hj') hbθ
          refine CodeOk.steps s (ih c (evs θ σ2) w2 arr2 dv2 cs2 (by omega) hj' st2 (Nat.le_trans hsz o.mv.sz) (fun q hq hno => ?_) (hmd.trans o.md))
          rw [o.mv.fr q (Nat.lt_of_lt_of_le hq hsz) (fun l u c e1 e2 => by obtain ⟨u', k1⟩ := hnames a _ hj l u e1; exact hno l u' c k1 e2)]
          exact hfr q hq hno
        · cases hs'
      | stop hc hF hk hs hσ =>
        rename_i cfB F θ fuel
        obtain ⟨tm2, H2, hr, hle, hp⟩ := endOk_some hs
        have h := loopC_ok hF hk fuel (pat a).tm [] ⟨nx, (pat a).T⟩ .no ⟨σ', ρ⟩ w1 arr1 dv1 cs1 k hc st1 (hkeys a σ' hj)
        rw [hr] at h
        obtain ⟨⟨σ2, ρ2⟩, w2, arr2, dv2, cs2, o, e⟩ := h
        have e1 : σ2 = σ' := o.mv.le.1
        subst e1
        have hdn : ∀ l y, ρ2 l = some y → l.toNat < nx.toNat → ρ l = some y := fun l y e hl => by
          rcases o.mv.nw l y e with h | h
          · exact h
          · exact absurd hl (by have : nx.toNat ≤ l.toNat := h; omega)
        have hX : ∀ l o, PT.get l TX = some o → ∃ y, ρ l = some y := fun l o e => by obtain ⟨o', k1⟩ := hnX l o e; exact hρ l o' k1
        have st2 : St G W0 V.n b tmX [] ⟨nx, TX⟩ .no ⟨evs θ σ2, ρ⟩ w2 arr2 dv2 cs2 := St.le_turn hc o.st hle (fun l y e => o.mv.le.2 l y e) hdn hdom hX (fun i hi => by rw [hσ]; exact (hbJ a _ hj i hi).symm)
        rw [hσ] at st2
        refine ⟨⟨σ, ρ⟩, w2, arr2, dv2, cs2, ⟨⟨Env.le.refl _, st2.hr, Nat.le_refl _, Nat.le_trans hsz o.mv.sz, fun q hq hno => ?_, fun l u b' c h1 h2 => ?_, fun l y e => .inl e⟩, st2, hmd.trans o.md⟩, e.turn hp⟩
        · rw [o.mv.fr q (Nat.lt_of_lt_of_le hq hsz) (fun l u c e1 e2 => by obtain ⟨u', k1⟩ := hnames a _ hj l u e1; exact hno l u' c k1 e2)]
          exact hfr q hq hno
        · obtain ⟨u', k1⟩ := hnX l u h1
          exact .inr ⟨l, u', c, k1, h2⟩
  exact main (μ a0 (evs θ0 σ) + 1) a0 _ w arr dv cs (Nat.lt_succ_self _) hJ0 st0 (Nat.le_refl _) (fun _ _ _ => rfl) (.refl _ _)
/-! ### a call met by a rule -/
def RuleOk (G : Program) (W0 : World) (cf : Cf) (g : Nat) (rule : List AV → Hp → Option (AV × Hp)) : Prop := ∀ (args : List AV) (H : Hp) (v : AV) (H' : Hp), rule args H = some (v, H') → ∀ (E : Env) (w : World) (xs : List Value), cf.ok E.σ → HR G W0 E H.f H.nx.toNat w → VRs E args xs → CallRes G W0 E H w g xs (.ret v H')
noncomputable def overR (g : Nat) (rule : List AV → Hp → Option (AV × Hp)) (call : CallF) : CallF := fun f args H => Bool.rec (call f args H) (Option.rec (call f args H) (fun r => .ret r.1 r.2) (rule args H)) (Nat.beq f g)
theorem overR_ok {g : Nat} {rule : List AV → Hp → Option (AV × Hp)} (hr : RuleOk G W0 cf g rule) {call : CallF} (hc : CallOk G W0 cf call) : CallOk G W0 cf (overR g rule call) := by
  intro f args H E w xs hcf h hx
  unfold overR
  cases hb : Nat.beq f g with
  | false => exact hc f args H E w xs hcf h hx
  | true =>
    have hb := Nat.eq_of_beq_eq_true hb
    subst hb
    cases e : rule args H with
    | none => exact hc f args H E w xs hcf h hx
    | some r => exact hr args H r.1 r.2 e E w xs hcf h hx
/-! ### slices.Clone -/
/-- what slices.Clone of []int does, of a slice that is not empty -/
def CloneOk (G : Program) (g : Nat) (ty : TypeId) : Prop := ∀ (b o n k : Nat) (zs : List Int) (w : World), 0 < n → n * 8 ≤ 140737488355328 → zs.length = n → (∀ j, j < n → w.cell? ⟨b, o + j, none⟩ = some (.int .i64 (zs.getD j 0))) →
  Calls G g #[.slice (some ⟨b, o, none⟩) n k] w fun e w' => ∃ q cap arr fz, e = .returned (.slice (some ⟨q, 0, none⟩) n cap) ∧ n ≤ cap ∧ w.heap.size ≤ q ∧ w'.heap[q]? = some (.cells arr ty fz) ∧ (∀ j, j < n → arr[j]? = some (.int .i64 (zs.getD j 0))) ∧ Below w.heap.size w w'
/-- of one that is empty, but not nil -/
def CloneZ (G : Program) (g : Nat) : Prop := ∀ (x : Addr) (k : Nat) (w : World), Calls G g #[.slice (some x) 0 k] w fun e w' => ∃ y c, e = .returned (.slice (some y) 0 c) ∧ Below w.heap.size w w'
/-- of nil -/
def CloneN (G : Program) (g : Nat) : Prop := ∀ w : World, Calls G g #[.slice none 0 0] w fun e w' => e = .returned (.slice none 0 0) ∧ w' = w
/-- how long the array is -/
noncomputable def garrN (H : Hp) (l : Option P) (a : Nat) : Option SI := match l with
  | some q => match PT.get q H.tab with
    | some (.garr a' n _ _) => match Nat.beq a a' with
      | true => some n
      | false => none
    | _ => none
  | none => forceN (Nat.add 1500 a) (fun j => some (.var j))
noncomputable def rClone (cf : Cf) (ty : TypeId) (args : List AV) (H : Hp) : Option (AV × Hp) := match args with
  | [.gsl l a _ (.lit (.ofNat 0))] => some (.gsl l a (.lit (.ofNat 0)) (.lit (.ofNat 0)), H)
  | [.gsl l a (.lit (.ofNat 0)) len] => match bnd cf.iv len, garrN H l a with
    | some (.ofNat (Nat.succ _), .ofNat hi), some n => match Nat.ble hi 17592186044416, cmpO cf .lss n len with
      | true, some false => some (.gsl (some H.nx) a (.lit (.ofNat 0)) len, ⟨P.next H.nx, PT.put H.nx H.tab (some (.garr a len [] ty))⟩)
      | _, _ => none
    | _, _ => none
  | _ => none
theorem garrN_ok {E : Env} {H : Hp} {nx : Nat} {w : World} (hr : HR G W0 E H.f nx w) {l : Option P} {a : Nat} {n : SI} (h : garrN H l a = some n) {x : Addr} (hg : GA E l a 0 x) : x.spot = none ∧ ∀ j : Nat, (j : Int) < n.ev E.σ → w.cell? ⟨x.block, x.off + j, none⟩ = some (.int .i64 (E.σ (gix a j))) := by
  unfold garrN at h
  split at h
  · rename_i q
    split at h
    · rename_i a' n' tl ty hq
      split at h
      · rename_i ha
        cases h
        have ha := Nat.eq_of_beq_eq_true ha
        subst ha
        cases hg with
        | own hb =>
          rename_i b c
          obtain ⟨b', c', ob, e1, _, hob, hor⟩ := hr.obj q _ hq
          rw [hb] at e1; cases e1
          cases hor with
          | garr hcells _ => exact ⟨rfl, fun j hj => by simp [World.cell?, hob, hcells j hj]⟩
      · cases h
    · cases h
  · rw [forceN_eq] at h
    cases h
    cases hg with
    | ext hlt =>
      refine ⟨rfl, fun j hj => ?_⟩
      obtain ⟨arr, ty, fz, h1, h2⟩ := hr.below.xok.2 a hlt j hj
      have h1 : w.heap[(E.σ (1300 + a)).toNat]? = some (.cells arr ty fz) := by rw [hr.below.block _ (Array.getElem?_eq_some_iff.1 h1).1]; exact h1
      simp [World.cell?, h1, h2]
theorem rClone_ok {g : Nat} {ty : TypeId} (hc : CloneOk G g ty) (hz : CloneZ G g) (hN : CloneN G g) : RuleOk G W0 cf g (rClone cf ty) := by
  intro args H v H' h E w xs hcf hr hx
  unfold rClone at h
  split at h
  · cases h
    cases hx with
    | cons hx hnil =>
      cases hnil
      cases hx with
      | gnil hn =>
        refine Calls.mono (hN w) ?_
        rintro e w' ⟨rfl, rfl⟩
        exact ⟨E, _, rfl, Mv.refl hr, .gnil rfl⟩
      | gsl ho hn hga hxy hk =>
        rename_i x y o n k
        have hn : n = 0 := by have : (n : Int) = 0 := hn; omega
        subst hn
        refine Calls.mono (hz x k w) ?_
        rintro e w' ⟨y', c, rfl, hbl⟩
        cases hga with
        | own hb => exact ⟨E, _, rfl, Mv.below hr hbl, .gsl (o := 0) rfl rfl (.own hb) (fun h => by omega) (Nat.zero_le _)⟩
        | ext hlt => exact ⟨E, _, rfl, Mv.below hr hbl, .gsl (o := 0) rfl rfl (.ext hlt) (fun h => by omega) (Nat.zero_le _)⟩
  · rename_i l a len _
    split at h
    · rename_i lo hi n hbd hn
      split at h
      · rename_i hle hlt
        cases h
        have hle := Nat.le_of_ble_eq_true hle
        have hlt : decide (n.ev E.σ < len.ev E.σ) = false := cmpO_ok hcf hlt
        have hlt := of_decide_eq_false hlt
        obtain ⟨b1, b2⟩ := bnd_ok hcf.2.2.1 _ hbd
        have b1 : ((lo + 1 : Nat) : Int) ≤ len.ev E.σ := b1
        have b2 : len.ev E.σ ≤ (hi : Int) := b2
        cases hx with
        | cons hx hnil =>
          cases hnil
          cases hx with
          | gnil hn' => omega
          | gsl ho hn' hga hxy hk =>
            rename_i x y o m k
            have ho : o = 0 := by have : (o : Int) = 0 := ho; omega
            subst ho
            have := hxy (by omega)
            subst this
            obtain ⟨hsp, hcell⟩ := garrN_ok hr hn hga
            obtain ⟨bb, oo, ss⟩ := x
            have hsp : ss = none := hsp
            subst hsp
            let zs : List Int := (List.range m).map (fun j => E.σ (gix a j))
            have hz : ∀ j, j < m → zs.getD j 0 = E.σ (gix a j) := fun j hj => by simp [zs, List.getD, hj]
            refine Calls.mono (hc bb oo m k zs w (by omega) (by omega) (by simp [zs]) (fun j hj => by rw [hz j hj]; exact hcell j (by omega))) ?_
            rintro e w' ⟨q, cap, arr, fz, rfl, hcap, hq, hat, harr, hbl⟩
            -- the new block has no name yet
            have hfresh : E.ρ H.nx = none := by
              cases hρ : E.ρ H.nx with
              | none => rfl
              | some y => have := hr.dom _ _ hρ; omega
            have hE : E.le (E.add H.nx (q, 0)) := Env.le_add hfresh
            have hto : ({ nx := P.next H.nx, tab := PT.put H.nx H.tab (some (.garr a len [] ty)) } : Hp).nx.toNat = H.nx.toNat + 1 := P.toNat_next _
            have mv0 : Mv G W0 E H.f H.nx.toNat w E H.f H.nx.toNat w' := Mv.below hr hbl
            have hlt' : q < w'.heap.size := (Array.getElem?_eq_some_iff.1 hat).1
            refine ⟨E.add H.nx (q, 0), _, rfl, ?_, .gsl rfl (hn'.trans (by rw [hE.1])) (.own (Env.add_same _ _ _)) (fun _ => rfl) hcap⟩
            have hf : (Hp.mk (P.next H.nx) (PT.put H.nx H.tab (some (.garr a len [] ty)))).f = upd H.f H.nx (some (.garr a len [] ty)) := by
              funext l
              show PT.get l _ = _
              by_cases hl : l = H.nx
              · subst hl; rw [PT.get_put_same, upd_same]
              · rw [PT.get_put_other (fun e => hl e.symm), upd_other _ _ hl]; rfl
            rw [hf]
            refine ⟨hE, ⟨mv0.hr.below, fun l y e => ?_, fun l o e => ?_, fun l l' o o' b c c' e1 e2 e3 e4 => ?_⟩, by omega, hbl.size, mv0.fr, fun l o b c e1 e2 => ?_, fun l y e => ?_⟩
            · by_cases hl : l = H.nx
              · subst hl; omega
              · rw [Env.add_other _ _ hl] at e
                have := hr.dom l y e
                omega
            · by_cases hl : l = H.nx
              · subst hl
                rw [upd_same] at e; cases e
                exact ⟨q, 0, _, Env.add_same _ _ _, Nat.le_trans hr.below.size hq, hat, .garr (fun j hj => by
                  have hj : (j : Int) < len.ev E.σ := hj
                  rw [harr j (by omega), hz j (by omega)]; rfl) (fun m k v _ e => by simp at e)⟩
              · rw [upd_other _ _ hl] at e
                obtain ⟨b, c, ob, k1, k2, k3, k4⟩ := mv0.hr.obj l o e
                exact ⟨b, c, ob, by rw [Env.add_other _ _ hl]; exact k1, k2, k3, k4.mono hE⟩
            · have old : ∀ l o b c, l ≠ H.nx → upd H.f H.nx (some (.garr a len [] ty)) l = some o → (E.add H.nx (q, 0)).ρ l = some (b, c) → b < w.heap.size ∧ H.f l = some o ∧ E.ρ l = some (b, c) := fun l o b c hl h1 h2 => by
                rw [upd_other _ _ hl] at h1
                rw [Env.add_other _ _ hl] at h2
                exact ⟨hr.lt h1 h2, h1, h2⟩
              by_cases hl : l = H.nx
              · by_cases hl' : l' = H.nx
                · rw [hl, hl']
                · subst hl
                  rw [Env.add_same] at e3; cases e3
                  have := (old _ _ _ _ hl' e2 e4).1
                  omega
              · obtain ⟨k1, k2, k3⟩ := old _ _ _ _ hl e1 e3
                by_cases hl' : l' = H.nx
                · subst hl'
                  rw [Env.add_same] at e4; cases e4
                  omega
                · obtain ⟨_, k5, k6⟩ := old _ _ _ _ hl' e2 e4
                  exact hr.inj _ _ _ _ _ _ _ k2 k5 k3 k6
            · by_cases hl : l = H.nx
              · subst hl
                rw [Env.add_same] at e2; cases e2
                exact .inl hq
              · rw [upd_other _ _ hl] at e1
                rw [Env.add_other _ _ hl] at e2
                exact .inr ⟨l, o, c, e1, e2⟩
            · by_cases hl : l = H.nx
              · subst hl; exact .inr (Nat.le_refl _)
              · rw [Env.add_other _ _ hl] at e; exact .inl e
      · cases h
    · cases h
  · cases h
end
end Go.Ai

/- A loop's round reckoned class by class, the outcomes brought together; a function whose loop is so met, within a call. -/
namespace Go.Ai
open Go Go.RowKit
set_option linter.unusedVariables false
noncomputable def exSame : Ex → Ex → Bool
  | .normal, .normal => true
  | .exit i, .exit j => Nat.beq i j
  | .ret, .ret => true
  | _, _ => false
theorem exSame_eq {a b : Ex} (h : exSame a b = true) : a = b ∧ ∀ v, a ≠ .pan v := by
  unfold exSame at h
  split at h
  · exact ⟨rfl, fun v e => by cases e⟩
  · exact ⟨by rw [Nat.eq_of_beq_eq_true h], fun v e => by cases e⟩
  · exact ⟨rfl, fun v e => by cases e⟩
  · cases h
/-- what two tables have in common -/
noncomputable def meetO {α R : Type} (f : α → α → Bool) (v v' : Option α) (K : Option α → R) : R := Option.rec (K none) (fun a => Option.rec (K none) (fun b => Bool.rec (K none) (K (some a)) (f b a)) v') v
noncomputable def interK {α R : Type} (f : α → α → Bool) (t : PT α) : PT α → (PT α → R) → R :=
  PT.rec (fun _ K => K .e) (fun _ v _ ihl ihr t' K => PT.casesOn t' (K .e) (fun l' v' r' => ihl l' (fun L => ihr r' (fun Q => meetO f v v' (fun m => K (.n L m Q)))))) t
theorem meetO_ok {α R : Type} (f : α → α → Bool) (v v' : Option α) : ∃ m, (∀ K : Option α → R, meetO f v v' K = K m) ∧ ∀ o, m = some o → v = some o ∧ ∃ o', v' = some o' ∧ f o' o = true := by
  cases v with
  | none => exact ⟨none, fun _ => rfl, fun o h => by cases h⟩
  | some a =>
    cases v' with
    | none => exact ⟨none, fun _ => rfl, fun o h => by cases h⟩
    | some b =>
      cases h : f b a with
      | false => exact ⟨none, fun K => by show (Bool.rec (K none) (K (some a)) (f b a) : R) = _; rw [h], fun o h => by cases h⟩
      | true => exact ⟨some a, fun K => by show (Bool.rec (K none) (K (some a)) (f b a) : R) = _; rw [h], fun o e => by cases e; exact ⟨rfl, b, rfl, h⟩⟩
theorem interK_ok {α R : Type} (f : α → α → Bool) : ∀ t t' : PT α, ∃ u, (∀ K : PT α → R, interK f t t' K = K u) ∧ ∀ q o, PT.get q u = some o → PT.get q t = some o ∧ ∃ o', PT.get q t' = some o' ∧ f o' o = true := by
  intro t
  induction t with
  | e => exact fun t' => ⟨.e, fun _ => rfl, fun q o h => by rw [PT.get_e] at h; cases h⟩
  | n l v r ihl ihr =>
    intro t'
    cases t' with
    | e => exact ⟨.e, fun _ => rfl, fun q o h => by rw [PT.get_e] at h; cases h⟩
    | n l' v' r' =>
      obtain ⟨L, hL, pL⟩ := ihl l'
      obtain ⟨Q, hQ, pQ⟩ := ihr r'
      obtain ⟨m, hm, pm⟩ := meetO_ok (R := R) f v v'
      refine ⟨.n L m Q, fun K => ?_, fun q o h => ?_⟩
      · show interK f l l' (fun L => interK f r r' (fun Q => meetO f v v' (fun m => K (.n L m Q)))) = _
        rw [hL, hQ, hm]
      · cases q with
        | h => exact pm o h
        | o q => exact pL q o h
        | i q => exact pQ q o h
/-- a round, where a number is told, and where it is told otherwise: what both outcomes say -/
noncomputable def joinB (cf : Cf) (F1 F2 : IH) : IH := fun tm ds H rc => match F1 tm ds H rc with
  | .ok ex tm1 [] H1 .no => match F2 tm ds H rc with
    | .ok ex' tm2 [] H2 .no => match exSame ex ex', P.beq H1.nx H2.nx with
      | true, true => interK (AV.le cf) tm1 tm2 (fun tm => interK (AObj.le cf) H1.tab H2.tab (fun T => .ok ex tm [] ⟨H1.nx, T⟩ .no))
      | _, _ => .err 411
    | .err n => .err n
    | _ => .err 413
  | .ok _ _ _ _ _ => .err 412
  | .err n => .err n
section
variable {G : Program} {W0 : World} {cf cf1 cf2 : Cf} {V : Kp} {x : Code}
theorem CodeOk.weak {n : Nat} {b : Frame} {H : Hp} {E : Env} {w : World} {cs : List Frame} {m : Machine} {k : List Item} {ex : Ex} {tm tm' : PT AV} {H1 : Hp} {T : PT AObj} (hcf : cf.ok E.σ) (hp : ∀ v, ex ≠ .pan v)
    (ht : ∀ q o, PT.get q tm = some o → ∃ o', PT.get q tm' = some o' ∧ AV.le cf o' o = true) (hT : ∀ q o, PT.get q T = some o → ∃ o', PT.get q H1.tab = some o' ∧ AObj.le cf o' o = true) (h : CodeOk G W0 n b H E w cs m k (.ok ex tm' [] H1 .no)) :
    CodeOk G W0 n b H E w cs m k (.ok ex tm [] ⟨H1.nx, T⟩ .no) := by
  obtain ⟨E', w', arr', dv', cs', o, e⟩ := h
  have hσ : E'.σ = E.σ := o.mv.le.1
  have hs : ∀ l u, (Hp.mk H1.nx T).f l = some u → ∃ u', H1.f l = some u' ∧ ObLe E.σ u' u := fun l u hu => by
    obtain ⟨u', q1, q2⟩ := hT l u hu
    exact ⟨u', q1, ole_ok hcf q2⟩
  refine ⟨E', w', arr', dv', cs', ⟨o.mv.weak hs (Nat.le_refl _), ⟨o.st.hr.weak (fun l u hu => by rw [hσ]; exact hs l u hu), o.st.sz, fun i v hv => ?_, o.st.ds, o.st.rc⟩, o.md⟩, e.turn hp⟩
  obtain ⟨v', q1, q2⟩ := ht _ v hv
  obtain ⟨y, q3, q4⟩ := o.st.tr i v' q1
  exact ⟨y, q3, le_ok (by rw [hσ]; exact hcf) q2 q4⟩
theorem CodeOk.sub {n : Nat} {b : Frame} {H : Hp} {E : Env} {w : World} {cs : List Frame} {m : Machine} {k : List Item} {ex : Ex} {tm tm' : PT AV} {H1 : Hp} {T : PT AObj} (hp : ∀ v, ex ≠ .pan v)
    (ht : ∀ q o, PT.get q tm = some o → PT.get q tm' = some o) (hT : ∀ q o, PT.get q T = some o → PT.get q H1.tab = some o) (h : CodeOk G W0 n b H E w cs m k (.ok ex tm' [] H1 .no)) :
    CodeOk G W0 n b H E w cs m k (.ok ex tm [] ⟨H1.nx, T⟩ .no) := by
  obtain ⟨E', w', arr', dv', cs', o, e⟩ := h
  have hs : ∀ l u, (Hp.mk H1.nx T).f l = some u → ∃ u', H1.f l = some u' ∧ ObLe E.σ u' u := fun l u hu => ⟨u, hT l u hu, fun _ _ _ _ _ h => h⟩
  have hσ : E'.σ = E.σ := o.mv.le.1
  refine ⟨E', w', arr', dv', cs', ⟨o.mv.weak hs (Nat.le_refl _), ⟨o.st.hr.weak (fun l u hu => by rw [hσ]; exact hs l u hu), o.st.sz, fun i v hv => o.st.tr i v (ht _ v hv), o.st.ds, o.st.rc⟩, o.md⟩, e.turn hp⟩
theorem joinB_ok {b : Frame} {F1 F2 : IH} (h1 : BodyOk G W0 cf1 V b F1 x) (h2 : BodyOk G W0 cf2 V b F2 x) (hc : ∀ σ, cf.ok σ → cf1.ok σ ∨ cf2.ok σ) : BodyOk G W0 cf V b (joinB cf F1 F2) x := by
  intro tm ds H rc E w arr dv cs k hcf st hks
  have k1 := h1 tm ds H rc E w arr dv cs k
  have k2 := h2 tm ds H rc E w arr dv cs k
  unfold joinB
  split
  · rename_i ex tm1 H1 e1
    split
    · rename_i ex' tm2 H2 e2
      split
      · rename_i g1 g2
        obtain ⟨rfl, hp⟩ := exSame_eq g1
        have hn : H1.nx = H2.nx := (P.beq_iff _ _).1 g2
        obtain ⟨u, hu, pu⟩ := interK_ok (R := CR) (AV.le cf) tm1 tm2
        obtain ⟨T, hT, pT⟩ := interK_ok (R := CR) (AObj.le cf) H1.tab H2.tab
        rw [hu, hT]
        rcases hc _ hcf with h | h
        · have := k1 h st hks
          rw [e1] at this
          exact this.sub hp (fun q o h => (pu q o h).1) (fun q o h => (pT q o h).1)
        · have := k2 h st hks
          rw [e2] at this
          rw [hn]
          exact this.weak hcf hp (fun q o h => (pu q o h).2) (fun q o h => (pT q o h).2)
      · trivial
    · trivial
    · trivial
  · trivial
  · trivial
theorem joinB_keys {F1 F2 : IH} (h : BodyKeys V F1) : BodyKeys V (joinB cf F1 F2) := by
  intro tm ds H rc ex tm' ds' H' rc' hk e
  unfold joinB at e
  split at e
  · rename_i ex1 tm1 H1 e1
    split at e
    · rename_i ex' tm2 H2 e2
      split at e
      · obtain ⟨u, hu, pu⟩ := interK_ok (R := CR) (AV.le cf) tm1 tm2
        obtain ⟨T, hT, pT⟩ := interK_ok (R := CR) (AObj.le cf) H1.tab H2.tab
        rw [hu, hT] at e
        cases e
        exact fun p v hv => h _ _ _ _ _ _ _ _ _ hk e1 p v (pu p v hv).1
      · cases e
    · cases e
    · cases e
  · cases e
  · cases e
/-- rounds, each by its own reckoning -/
noncomputable def hSeq (next : IH → IH) (F : IH) (Fs : List IH) : IH := List.rec (next F) (fun G _ ih tm ds H rc => thenN ih (G tm ds H rc)) Fs
theorem hSeq_keys {next : IH → IH} (hn : ∀ F, BodyKeys V F → BodyKeys V (next F)) {Fs : List IH} (hs : ∀ G ∈ Fs, BodyKeys V G) : ∀ F, BodyKeys V F → BodyKeys V (hSeq next F Fs) := by
  intro F h
  induction Fs with
  | nil => exact hn F h
  | cons G Fs ih =>
    intro tm ds H rc ex tm' ds' H' rc' hk e
    rcases thenN_cases (show thenN (hSeq next F Fs) (G tm ds H rc) = _ from e) with ⟨_, _, _, _, e1, e2⟩ | ⟨_, e1⟩
    · exact ih (fun g hg => hs g (List.mem_cons_of_mem _ hg)) _ _ _ _ _ _ _ _ _ (hs G (List.mem_cons_self ..) _ _ _ _ _ _ _ _ _ hk e1) e2
    · exact hs G (List.mem_cons_self ..) _ _ _ _ _ _ _ _ _ hk e1
theorem hSeq_ok {next : IH → IH} (hn : LhOk G W0 cf V next x) {Fs : List IH} (hs : ∀ F ∈ Fs, (∀ b, BodyOk G W0 cf V b F x) ∧ BodyKeys V F) : LhOk G W0 cf V (fun F => hSeq next F Fs) x := by
  intro b F hF hk
  induction Fs with
  | nil => exact hn b F hF hk
  | cons g Fs ih =>
    intro tm ds H rc E w arr dv cs k hcf st hks
    have hg := hs g (List.mem_cons_self ..)
    exact CodeOk.seqE (cf := cf) (fun _ => rfl) hcf (hg.1 b tm ds H rc E w arr dv cs (.inLoop x :: k) hcf st hks)
      (fun tm ds H' rc E' w' arr dv cs' he hcf' st' => CodeOk.steps (.one st_inLoop) (ih (fun g hg => hs g (List.mem_cons_of_mem _ hg)) tm ds H' rc E' w' arr dv cs' k hcf' st' (hg.2 _ _ _ _ _ _ _ _ _ hks he)))
/-- a call met by what is given -/
noncomputable def overG (g : Nat) (F : List AV → Hp → KR) (call : CallF) : CallF := fun f args H => Bool.rec (call f args H) (F args H) (Nat.beq f g)
theorem overG_ok {g : Nat} {F : List AV → Hp → KR} (hF : ∀ args H E w xs, cf.ok E.σ → HR G W0 E H.f H.nx.toNat w → VRs E args xs → CallRes G W0 E H w g xs (F args H)) {call : CallF} (hc : CallOk G W0 cf call) : CallOk G W0 cf (overG g F call) := by
  intro f args H E w xs hcf h hx
  unfold overG
  cases hb : Nat.beq f g with
  | false => exact hc f args H E w xs hcf h hx
  | true =>
    have hb := Nat.eq_of_beq_eq_true hb
    subst hb
    exact hF args H E w xs hcf h hx
end
end Go.Ai
