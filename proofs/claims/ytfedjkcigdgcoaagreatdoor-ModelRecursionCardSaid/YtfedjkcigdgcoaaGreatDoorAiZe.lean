/- A call whose outcome is shown apart (overM), and a call that is reckoned class by class, its outcomes brought together (overJ). -/
import Derived.Test.YtfedjkcigdgcoaaGreatDoorAiZd
import Derived.Test.YtfedjkcigdgcoaaGreatDoorAiY
namespace Go.Ai
open Go Go.RowKit
set_option linter.unusedVariables false
/-! ### a value below another one: all that it may be, the other may be -/
noncomputable def siLe (cf : Cf) (x y : SI) : Bool := match SI.beq x y with
  | true => true
  | false => match cmpO cf .eql x y with
    | some true => true
    | _ => false
theorem siLe_ok {cf : Cf} {σ : Nat → Int} (hcf : cf.ok σ) {x y : SI} (h : siLe cf x y = true) : x.ev σ = y.ev σ := by
  unfold siLe at h
  split at h
  · rename_i hb; rw [SI.beq_eq hb]
  · split at h
    · rename_i hc
      have := cmpO_ok hcf hc
      simpa [cmpVal] using this
    · cases h
noncomputable def AV.leN (cf : Cf) (n : Nat) : AV → AV → Bool :=
  Nat.rec (fun _ _ => false) (fun _ ih v u => match u with
    | .top => true
    | .int k y => match v with
      | .int k' x => match kbeq k' k with
        | true => siLe cf x y
        | false => false
      | _ => false
    | .tup b => match v with
      | .tup a => listBeq ih a b
      | _ => false
    | .agg b => match v with
      | .agg a => listBeq ih a b
      | _ => false
    | u => AV.same v u) n
noncomputable def AV.le (cf : Cf) (v u : AV) : Bool := AV.leN cf 6 v u
theorem listBeq_vrs {E : Env} {f : AV → AV → Bool} (hf : ∀ {a b : AV} {x : Value}, f a b = true → VR E a x → VR E b x) : ∀ {as bs : List AV} {xs : List Value}, listBeq f as bs = true → VRs E as xs → VRs E bs xs
  | [], [], _, _, h => h
  | [], _ :: _, _, h, _ => by cases h
  | _ :: _, [], _, h, _ => by cases h
  | a :: as, b :: bs, xs, h, hx => by
    have h' : (Bool.rec false (listBeq f as bs) (f a b) : Bool) = true := h
    cases hab : f a b with
    | false => rw [hab] at h'; cases h'
    | true =>
      rw [hab] at h'
      cases hx with
      | cons h1 h2 => exact .cons (hf hab h1) (listBeq_vrs hf h' h2)
theorem leN_succ (cf : Cf) (n : Nat) (v u : AV) : AV.leN cf (n + 1) v u = (match u with
    | .top => true
    | .int k y => match v with
      | .int k' x => match kbeq k' k with
        | true => siLe cf x y
        | false => false
      | _ => false
    | .tup b => match v with
      | .tup a => listBeq (AV.leN cf n) a b
      | _ => false
    | .agg b => match v with
      | .agg a => listBeq (AV.leN cf n) a b
      | _ => false
    | u => AV.same v u) := rfl
theorem leN_ok {cf : Cf} {E : Env} (hcf : cf.ok E.σ) : ∀ (n : Nat) {v u : AV} {x : Value}, AV.leN cf n v u = true → VR E v x → VR E u x := by
  intro n
  induction n with
  | zero => intro v u x h _; cases h
  | succ n ih =>
    intro v u x h hv
    rw [leN_succ] at h
    split at h
    · exact .top x
    · split at h
      · split at h
        · rename_i hk
          have hk := (kbeq_iff _ _).1 hk
          subst hk
          cases hv
          rw [siLe_ok hcf h]
          exact .int _ _
        · cases h
      · cases h
    · split at h
      · cases hv with
        | tup hs => exact .tup (listBeq_vrs (fun h hx => ih h hx) h hs)
      · cases h
    · split at h
      · cases hv with
        | agg hs => exact .agg (listBeq_vrs (fun h hx => ih h hx) h hs)
      · cases h
    · rw [← same_eq h]; exact hv
theorem le_ok {cf : Cf} {E : Env} (hcf : cf.ok E.σ) {v u : AV} {x : Value} (h : AV.le cf v u = true) (hv : VR E v x) : VR E u x := leN_ok hcf 6 h hv
/-! ### blocks -/
noncomputable def AObj.le (cf : Cf) (o u : AObj) : Bool := match o, u with
  | .cells cs ty b, .cells cs' ty' b' => match Nat.beq ty ty', bbeq b b' with
    | true, true => listBeq (AV.le cf) cs cs'
    | _, _ => false
  | .map es c, .map es' c' => match Nat.beq c c' with
    | true => listBeq (fun x y => match AV.le cf x.1 y.1, AV.le cf x.2.1 y.2.1, Nat.beq x.2.2 y.2.2 with | true, true, true => true | _, _, _ => false) es es'
    | false => false
  | .defd, .defd => true
  | .gone, .gone => true
  | .chan a, .chan b => bbeq a b
  | .strIter s p, .strIter s' p' => match Nat.beq p p' with
    | true => listBeq SI.beq s s'
    | false => false
  | .mapIter (some m) a l b, .mapIter (some m') a' l' b' => match P.beq m m', Nat.beq a a', listBeq Nat.beq l l' with
    | true, true, true => Nat.beq b b'
    | _, _, _ => false
  | .mapIter none a l b, .mapIter none a' l' b' => match Nat.beq a a', listBeq Nat.beq l l' with
    | true, true => Nat.beq b b'
    | _, _ => false
  | _, _ => false
theorem listBeq_mrs {cf : Cf} {E : Env} (hcf : cf.ok E.σ) : ∀ {es es' : List (AV × AV × Nat)} {fs : List MapEntry}, listBeq (fun x y => match AV.le cf x.1 y.1, AV.le cf x.2.1 y.2.1, Nat.beq x.2.2 y.2.2 with | true, true, true => true | _, _, _ => false) es es' = true → MRs E es fs → MRs E es' fs
  | [], [], _, _, h => h
  | [], _ :: _, _, h, _ => by cases h
  | _ :: _, [], _, h, _ => by cases h
  | a :: as, b :: bs, xs, h, hx => by
    have h' : (Bool.rec false (listBeq (fun x y => match AV.le cf x.1 y.1, AV.le cf x.2.1 y.2.1, Nat.beq x.2.2 y.2.2 with | true, true, true => true | _, _, _ => false) as bs) (match AV.le cf a.1 b.1, AV.le cf a.2.1 b.2.1, Nat.beq a.2.2 b.2.2 with | true, true, true => true | _, _, _ => false) : Bool) = true := h
    cases hab : (match AV.le cf a.1 b.1, AV.le cf a.2.1 b.2.1, Nat.beq a.2.2 b.2.2 with | true, true, true => true | _, _, _ => false : Bool) with
    | false => rw [hab] at h'; cases h'
    | true =>
      rw [hab] at h'
      split at hab
      · rename_i h1 h2 h3
        cases hx with
        | cons k1 k2 k3 k4 => exact .cons (le_ok hcf h1 k1) (le_ok hcf h2 k2) (by rw [k3]; exact Nat.eq_of_beq_eq_true h3) (listBeq_mrs hcf h' k4)
      · cases hab
def ObLe (σ : Nat → Int) (o u : AObj) : Prop := ∀ (G : Program) (E : Env) (c : Nat) (ob : Obj), E.σ = σ → OR G E c o ob → OR G E c u ob
theorem ole_ok {cf : Cf} {σ : Nat → Int} (hcf : cf.ok σ) {o u : AObj} (h : AObj.le cf o u = true) : ObLe σ o u := by
  intro G E c ob hσ ho
  subst hσ
  unfold AObj.le at h
  split at h
  · split at h
    · rename_i h1 h2
      have h1 := Nat.eq_of_beq_eq_true h1
      have h2 := bbeq_eq h2
      subst h1 h2
      cases ho with
      | cells a b d e f => exact .cells (listBeq_vrs (fun h hx => le_ok hcf h hx) h a) b d e f
    · cases h
  · split at h
    · rename_i h1
      have h1 := Nat.eq_of_beq_eq_true h1
      subst h1
      cases ho with
      | map a => exact .map (listBeq_mrs hcf h a)
    · cases h
  · exact ho
  · exact ho
  · rw [← bbeq_eq h]; exact ho
  · split at h
    · rename_i h1
      rw [← Nat.eq_of_beq_eq_true h1, ← listBeq_eq (fun _ _ h => SI.beq_eq h) h]; exact ho
    · cases h
  · split at h
    · rename_i h1 h2 h3
      rw [← pbeq_eq h1, ← Nat.eq_of_beq_eq_true h2, ← listBeq_eq (fun _ _ h => Nat.eq_of_beq_eq_true h) h3, ← Nat.eq_of_beq_eq_true h]; exact ho
    · cases h
  · split at h
    · rename_i h2 h3
      rw [← Nat.eq_of_beq_eq_true h2, ← listBeq_eq (fun _ _ h => Nat.eq_of_beq_eq_true h) h3, ← Nat.eq_of_beq_eq_true h]; exact ho
    · cases h
  · cases h
section
variable {G : Program} {W0 : World} {E : Env} {nx : Nat} {w : World} {cf : Cf}
/-- blocks that say less -/
theorem HR.weak {H H' : P → Option AObj} (h : HR G W0 E H nx w) (hs : ∀ l o, H' l = some o → ∃ o', H l = some o' ∧ ObLe E.σ o' o) : HR G W0 E H' nx w :=
  ⟨h.below, h.dom, fun l o e => by
    obtain ⟨o', h1, h2⟩ := hs l o e
    obtain ⟨b, c, ob, e1, e2, e3, e4⟩ := h.obj l o' h1
    exact ⟨b, c, ob, e1, e2, e3, h2 _ _ _ _ rfl e4⟩, fun l l' o o' b c c' e1 e2 e3 e4 => by
    obtain ⟨o1, h1, _⟩ := hs l o e1
    obtain ⟨o2, h2, _⟩ := hs l' o' e2
    exact h.inj _ _ _ _ _ _ _ h1 h2 e3 e4⟩
theorem Mv.weak {H H' H'' : P → Option AObj} {nx' nx'' : Nat} {w' : World} {E' : Env} (h : Mv G W0 E H nx w E' H' nx' w') (hs : ∀ l o, H'' l = some o → ∃ o', H' l = some o' ∧ ObLe E.σ o' o) (hle : nx' ≤ nx'') : Mv G W0 E H nx w E' H'' nx'' w' :=
  have h2 := h.hr.weak (fun l o e => by rw [h.le.1]; exact hs l o e)
  ⟨h.le, ⟨h2.below, fun l x e => Nat.lt_of_lt_of_le (h2.dom l x e) hle, h2.obj, h2.inj⟩, Nat.le_trans h.up hle, h.sz, h.fr, fun l o b c e1 e2 => by
    obtain ⟨o', h1, _⟩ := hs l o e1
    exact h.own l o' b c h1 e2, h.nw⟩
/-! ### a call reckoned class by class, the outcomes brought together -/
noncomputable def zipJ (f : AV → AV → AV) (as : List AV) : List AV → List AV :=
  List.rec (fun _ => []) (fun a _ ih bs => List.casesOn bs [] (fun b t => f a b :: ih t)) as
noncomputable def joinN (n : Nat) : AV → AV → AV :=
  Nat.rec (fun _ _ => .top) (fun _ ih a b => match AV.same a b with
    | true => a
    | false => match a, b with
      | .tup as, .tup bs => match Nat.beq (lenL as) (lenL bs) with
        | true => .tup (zipJ ih as bs)
        | false => .top
      | .agg as, .agg bs => match Nat.beq (lenL as) (lenL bs) with
        | true => .agg (zipJ ih as bs)
        | false => .top
      | _, _ => .top) n
theorem zipJ_l {f : AV → AV → AV} (hf : ∀ {a b : AV} {x : Value}, VR E a x → VR E (f a b) x) : ∀ {as bs : List AV} {xs : List Value}, as.length = bs.length → VRs E as xs → VRs E (zipJ f as bs) xs
  | [], [], _, _, h => h
  | [], _ :: _, _, h, _ => by simp at h
  | _ :: _, [], _, h, _ => by simp at h
  | a :: as, b :: bs, xs, h, hx => by
    cases hx with
    | cons h1 h2 => exact .cons (hf h1) (zipJ_l hf (by simpa using h) h2)
theorem zipJ_r {f : AV → AV → AV} (hf : ∀ {a b : AV} {x : Value}, VR E b x → VR E (f a b) x) : ∀ {as bs : List AV} {xs : List Value}, as.length = bs.length → VRs E bs xs → VRs E (zipJ f as bs) xs
  | [], [], _, _, h => h
  | [], _ :: _, _, h, _ => by simp at h
  | _ :: _, [], _, h, _ => by simp at h
  | a :: as, b :: bs, xs, h, hx => by
    cases hx with
    | cons h1 h2 => exact .cons (hf h1) (zipJ_r hf (by simpa using h) h2)
theorem joinN_succ (n : Nat) (a b : AV) : joinN (n + 1) a b = (match AV.same a b with
    | true => a
    | false => match a, b with
      | .tup as, .tup bs => match Nat.beq (lenL as) (lenL bs) with
        | true => .tup (zipJ (joinN n) as bs)
        | false => .top
      | .agg as, .agg bs => match Nat.beq (lenL as) (lenL bs) with
        | true => .agg (zipJ (joinN n) as bs)
        | false => .top
      | _, _ => .top) := rfl
theorem joinN_ok : ∀ (n : Nat), (∀ {a b : AV} {x : Value}, VR E a x → VR E (joinN n a b) x) ∧ (∀ {a b : AV} {x : Value}, VR E b x → VR E (joinN n a b) x) := by
  intro n
  induction n with
  | zero => exact ⟨fun _ => .top _, fun _ => .top _⟩
  | succ n ih =>
    constructor
    · intro a b x h
      rw [joinN_succ]
      split
      · exact h
      · split
        · split
          · rename_i hl
            have hl := Nat.eq_of_beq_eq_true hl
            rw [lenL_eq, lenL_eq] at hl
            cases h with
            | tup hs => exact .tup (zipJ_l ih.1 hl hs)
          · exact .top _
        · split
          · rename_i hl
            have hl := Nat.eq_of_beq_eq_true hl
            rw [lenL_eq, lenL_eq] at hl
            cases h with
            | agg hs => exact .agg (zipJ_l ih.1 hl hs)
          · exact .top _
        · exact .top _
    · intro a b x h
      rw [joinN_succ]
      split
      · rename_i hs
        rw [same_eq hs]; exact h
      · split
        · split
          · rename_i hl
            have hl := Nat.eq_of_beq_eq_true hl
            rw [lenL_eq, lenL_eq] at hl
            cases h with
            | tup hs => exact .tup (zipJ_r ih.2 hl hs)
          · exact .top _
        · split
          · rename_i hl
            have hl := Nat.eq_of_beq_eq_true hl
            rw [lenL_eq, lenL_eq] at hl
            cases h with
            | agg hs => exact .agg (zipJ_r ih.2 hl hs)
          · exact .top _
        · exact .top _
/-- each block of a table lies in another one, saying no less -/
noncomputable def subT (cf : Cf) (t : PT AObj) : PT AObj → Bool :=
  PT.rec (fun _ => true) (fun _ v _ ihl ihr t' => PT.casesOn t' (Option.rec (match ihl .e with | true => ihr .e | false => false) (fun _ => false) v)
    (fun l' v' r' => match (Option.rec true (fun o => Option.rec false (fun o' => AObj.le cf o' o) v') v : Bool) with
      | true => (match ihl l' with | true => ihr r' | false => false)
      | false => false)) t
theorem subT_ok {cf : Cf} {σ : Nat → Int} (hcf : cf.ok σ) : ∀ {t t' : PT AObj}, subT cf t t' = true → ∀ {q : P} {o : AObj}, PT.get q t = some o → ∃ o', PT.get q t' = some o' ∧ ObLe σ o' o := by
  intro t
  induction t with
  | e => intro t' _ q o h; rw [PT.get_e] at h; cases h
  | n l v r ihl ihr =>
    intro t' h q o hq
    cases t' with
    | e =>
      have h' : (Option.rec (match subT cf l .e with | true => subT cf r .e | false => false) (fun _ => false) v : Bool) = true := h
      cases v with
      | some o => cases h'
      | none =>
        have h2 : (match subT cf l .e with | true => subT cf r .e | false => false) = true := h'
        split at h2
        · rename_i hl
          cases q with
          | h => cases hq
          | o q => obtain ⟨o', h1, _⟩ := ihl hl (q := q) (o := o) hq; rw [PT.get_e] at h1; cases h1
          | i q => obtain ⟨o', h1, _⟩ := ihr h2 (q := q) (o := o) hq; rw [PT.get_e] at h1; cases h1
        · cases h2
    | n l' v' r' =>
      have h' : (match (Option.rec true (fun o => Option.rec false (fun o' => AObj.le cf o' o) v') v : Bool) with
      | true => (match subT cf l l' with | true => subT cf r r' | false => false)
      | false => false) = true := h
      split at h'
      · rename_i hv
        split at h'
        · rename_i hl
          cases q with
          | h =>
            have hq' : v = some o := hq
            subst hq'
            cases v' with
            | none => cases hv
            | some o' => exact ⟨o', rfl, ole_ok hcf hv⟩
          | o q => exact ihl hl (q := q) (o := o) hq
          | i q => exact ihr h' (q := q) (o := o) hq
        · cases h'
      · cases h'
/-- loops are left aside: what a call does not see it does not turn -/
def noLoop (v : Option AObj) : Option AObj := match v with
  | some (.loop ..) => none
  | v => v
noncomputable def filtF (t : PT AObj) : PT AObj := PT.rec .e (fun _ v _ l r => .n l (noLoop v) r) t
noncomputable def filtK {R : Type} (t : PT AObj) : (PT AObj → R) → R := PT.rec (fun k => k .e) (fun _ v _ ihl ihr k => ihl (fun l => ihr (fun r => Option.rec (k (.n l none r)) (fun o => k (.n l (some o) r)) (noLoop v)))) t
theorem filtK_eq {R : Type} : ∀ (t : PT AObj) (k : PT AObj → R), filtK t k = k (filtF t)
  | .e, k => rfl
  | .n l v r, k => by
    show filtK l (fun l => filtK r (fun r => Option.rec (k (.n l none r)) (fun o => k (.n l (some o) r)) (noLoop v))) = k (.n (filtF l) (noLoop v) (filtF r))
    rw [filtK_eq l, filtK_eq r]
    cases noLoop v <;> rfl
theorem filtF_get : ∀ {t : PT AObj} {q : P} {o : AObj}, PT.get q (filtF t) = some o → PT.get q t = some o
  | .e, q, o, h => by rw [show filtF .e = PT.e from rfl, PT.get_e] at h; cases h
  | .n l v r, q, o, h => by
    have h' : PT.get q (.n (filtF l) (noLoop v) (filtF r)) = some o := h
    cases q with
    | h =>
      have h2 : noLoop v = some o := h'
      show v = some o
      unfold noLoop at h2
      split at h2
      · cases h2
      · exact h2
    | o q => exact filtF_get (t := l) (q := q) h'
    | i q => exact filtF_get (t := r) (q := q) h'
theorem Mv.unloop {H : Hp} {E' : Env} {w' : World} {nx' : Nat} {H1 : P → Option AObj} (hr : HR G W0 E H.f nx w) (mv : Mv G W0 E (fun l => PT.get l (filtF H.tab)) nx w E' H1 nx' w') (hs : ∀ l o, PT.get l (filtF H.tab) = some o → ∃ o', H1 l = some o' ∧ ObLe E.σ o' o) : Mv G W0 E H.f nx w E' H.f nx' w' := by
  classical
  have mv2 := mv.weak hs (Nat.le_refl _)
  have mvU := Mv.frame hr (fun l o h => filtF_get h) mv2 (fun l => PT.get l (filtF H.tab) = none) (fun l h => h)
  refine mvU.drop (fun l o hl => ?_)
  by_cases hX : PT.get l (filtF H.tab) = none
  · rw [if_pos hX]; exact hl
  · rw [if_neg hX]
    cases h0 : PT.get l (filtF H.tab) with
    | none => exact absurd h0 hX
    | some o' =>
      have := filtF_get h0
      rw [show H.f l = PT.get l H.tab from rfl, this] at hl
      exact hl
noncomputable def P.ble (p q : P) : Bool := Nat.ble p.toNat q.toNat
noncomputable def maxP (p q : P) : P := Bool.rec p q (P.ble p q)
theorem maxP_l (p q : P) : p.toNat ≤ (maxP p q).toNat := by
  unfold maxP
  cases h : P.ble p q with
  | false => exact Nat.le_refl _
  | true => exact Nat.le_of_ble_eq_true h
theorem maxP_r (p q : P) : q.toNat ≤ (maxP p q).toNat := by
  unfold maxP
  cases h : P.ble p q with
  | true => exact Nat.le_refl _
  | false =>
    have : ¬ p.toNat ≤ q.toNat := fun hle => by
      have := Nat.ble_eq_true_of_le hle
      rw [show P.ble p q = Nat.ble p.toNat q.toNat from rfl, this] at h; cases h
    show q.toNat ≤ p.toNat
    omega
noncomputable def joinA (a : Option (AV × P)) (v : AV) (p : P) : AV × P := match a with
  | none => (v, p)
  | some (u, q) => (joinN 6 u v, maxP q p)
noncomputable def joinK (cf : Cf) (T : PT AObj) (H : Hp) (rs : List KR) : Option (AV × P) → KR :=
  List.rec (fun a => match a with | some (u, p) => .ret u ⟨p, H.tab⟩ | none => .err 301) (fun r _ ih a => match r with
    | .ret v H' => match subT cf T H'.tab with
      | true => ih (some (joinA a v H'.nx))
      | false => .err 302
    | .pan _ _ => .err 303
    | .err k => .err k) rs
theorem joinK_cons (cf : Cf) (T : PT AObj) (H : Hp) (r : KR) (rs : List KR) (a : Option (AV × P)) : joinK cf T H (r :: rs) a = (match r with
    | .ret v H' => match subT cf T H'.tab with
      | true => joinK cf T H rs (some (joinA a v H'.nx))
      | false => .err 302
    | .pan _ _ => .err 303
    | .err k => .err k) := rfl
theorem joinK_acc {cf : Cf} {T : PT AObj} {H : Hp} {v : AV} {p : P} : ∀ (rs : List KR) (a : Option (AV × P)) {u : AV} {H' : Hp}, joinK cf T H rs a = .ret u H' → H'.tab = H.tab ∧ ∀ u0 q0, a = some (u0, q0) → (∀ {E : Env} {x : Value}, VR E u0 x → VR E u x) ∧ q0.toNat ≤ H'.nx.toNat
  | [], a, u, H', h => by
    cases a with
    | none => cases h
    | some a =>
      cases h
      exact ⟨rfl, fun u0 q0 e => by cases e; exact ⟨fun h => h, Nat.le_refl _⟩⟩
  | r :: rs, a, u, H', h => by
    have h' := h
    rw [joinK_cons] at h'
    clear h
    split at h'
    · split at h'
      · obtain ⟨h1, h2⟩ := joinK_acc (cf := cf) (T := T) (H := H) (v := v) (p := p) rs _ h'
        refine ⟨h1, fun u0 q0 e => ?_⟩
        subst e
        obtain ⟨k1, k2⟩ := h2 _ _ rfl
        exact ⟨fun h => k1 ((joinN_ok 6).1 h), Nat.le_trans (maxP_l _ _) k2⟩
      · cases h'
    · cases h'
    · cases h'
theorem joinK_mem {cf : Cf} {T : PT AObj} {H : Hp} : ∀ {rs : List KR} {a : Option (AV × P)} {u : AV} {H' : Hp} {r : KR}, joinK cf T H rs a = .ret u H' → r ∈ rs → ∃ v H1, r = .ret v H1 ∧ subT cf T H1.tab = true ∧ (∀ {E : Env} {x : Value}, VR E v x → VR E u x) ∧ H1.nx.toNat ≤ H'.nx.toNat
  | [], a, u, H', r, h, hm => by cases hm
  | r0 :: rs, a, u, H', r, h, hm => by
    have h' := h
    rw [joinK_cons] at h'
    clear h
    split at h'
    · rename_i v1 H1
      split at h'
      · rename_i hs
        rcases List.mem_cons.1 hm with rfl | hm
        · obtain ⟨_, h2⟩ := joinK_acc (v := u) (p := H'.nx) rs _ h'
          obtain ⟨k1, k2⟩ := h2 _ _ rfl
          refine ⟨v1, H1, rfl, hs, fun h => k1 ?_, Nat.le_trans ?_ k2⟩
          · cases a with
            | none => exact h
            | some a => exact (joinN_ok 6).2 h
          · cases a with
            | none => exact Nat.le_refl _
            | some a => exact maxP_r _ _
        · exact joinK_mem h' hm
      · cases h'
    · cases h'
    · cases h'
theorem joinK_tab {cf : Cf} {T : PT AObj} {H : Hp} {rs : List KR} {a : Option (AV × P)} {u : AV} {H' : Hp} (h : joinK cf T H rs a = .ret u H') : H'.tab = H.tab := (joinK_acc (v := u) (p := H'.nx) rs a h).1
theorem joinK_pan {cf : Cf} {T : PT AObj} {H : Hp} : ∀ {rs : List KR} {a : Option (AV × P)} {v : AV} {H' : Hp}, joinK cf T H rs a ≠ .pan v H'
  | [], a, v, H', h => by
    cases a with
    | none => cases h
    | some a => cases h
  | r :: rs, a, v, H', h => by
    have h' := h
    rw [joinK_cons] at h'
    clear h
    split at h'
    · split at h'
      · exact joinK_pan h'
      · cases h'
    · cases h'
    · cases h'
/-- pieces of a range -/
noncomputable def pieces (hi : Int) (cuts : List Int) : Int → List (Int × Int) := List.rec (fun lo => [(lo, hi)]) (fun c _ ih lo => (lo, c - 1) :: ih c) cuts
theorem pieces_ok {hi n : Int} (h2 : n ≤ hi) : ∀ (cuts : List Int) {lo : Int}, lo ≤ n → ∃ a b, (a, b) ∈ pieces hi cuts lo ∧ a ≤ n ∧ n ≤ b
  | [], lo, h => ⟨lo, hi, List.mem_cons_self .., h, h2⟩
  | c :: cs, lo, h => by
    by_cases hc : n < c
    · exact ⟨lo, c - 1, List.mem_cons_self .., h, by omega⟩
    · obtain ⟨a, b, h1, h3⟩ := pieces_ok h2 cs (lo := c) (by omega)
      exact ⟨a, b, List.mem_cons_of_mem _ h1, h3⟩
noncomputable def addIv (cf : Cf) (e : SI) (lo hi : Int) : Cf := ⟨cf.rw, cf.cmp, (e, lo, hi) :: cf.iv, cf.oth, cf.gl⟩
theorem addIv_ok {σ : Nat → Int} (h : cf.ok σ) {e : SI} {lo hi : Int} (h1 : lo ≤ e.ev σ) (h2 : e.ev σ ≤ hi) : (addIv cf e lo hi).ok σ :=
  ⟨h.1, h.2.1, fun a l u hm => by
    rcases List.mem_cons.1 hm with e1 | hm
    · cases e1; exact ⟨h1, h2⟩
    · exact h.2.2.1 a l u hm, h.2.2.2⟩
/-- the first unknown number within, of those that are to be cut -/
noncomputable def findE (p : SI → Bool) (n : Nat) : List AV → Option SI :=
  Nat.rec (fun _ => none) (fun _ rec l => List.rec none (fun a _ ih => match a with
    | .int _ e => (match e with
      | .lit _ => ih
      | e => Bool.rec ih (some e) (p e))
    | .agg cs => Option.rec ih some (rec cs)
    | _ => ih) l) n
noncomputable def inner (cuts : List Int) (lo hi : Int) : List Int := List.rec [] (fun c _ ih => match ltI lo c, ltI hi c with
  | true, false => c :: ih
  | _, _ => ih) cuts
noncomputable def cutsE (cf : Cf) (cuts : List Int) (e : SI) : Bool := match bnd cf.iv e with
  | some (lo, hi) => (match inner cuts lo hi with | [] => false | _ => true)
  | none => false
noncomputable def overJ (cf : Cf) (g : Nat) (cuts : List Int) (calls : SI → Int → Int → CallF) (call : CallF) : CallF := fun f args H => Bool.rec (call f args H) (match findE (cutsE cf cuts) 3 args with
  | some e => match bnd cf.iv e with
    | some (lo, hi) => filtK H.tab (fun T => joinK cf T H (mapL (fun x => calls e x.1 x.2 f args ⟨H.nx, T⟩) (pieces hi (inner cuts lo hi) lo)) none)
    | none => call f args H
  | none => call f args H) (Nat.beq f g)
theorem overJ_ok {g : Nat} {cuts : List Int} {calls : SI → Int → Int → CallF} (hcs : ∀ e lo hi, CallOk G W0 (addIv cf e lo hi) (calls e lo hi)) {call : CallF} (hc : CallOk G W0 cf call) : CallOk G W0 cf (overJ cf g cuts calls call) := by
  intro f args H E w xs hcf hr hx
  unfold overJ
  cases hb : Nat.beq f g with
  | false => exact hc f args H E w xs hcf hr hx
  | true =>
    simp only
    split
    · rename_i e _
      split
      · rename_i lo hi hbd
        obtain ⟨h1, h2⟩ := bnd_ok hcf.2.2.1 e hbd
        obtain ⟨a, b, hm, k1, k2⟩ := pieces_ok h2 (inner cuts lo hi) h1
        rw [filtK_eq]
        have hr0 : HR G W0 E (Hp.mk H.nx (filtF H.tab)).f H.nx.toNat w := hr.drop (fun l o h => filtF_get h)
        have hcall := hcs e a b f args ⟨H.nx, filtF H.tab⟩ E w xs (addIv_ok hcf k1 k2) hr0 hx
        have hmem : calls e a b f args ⟨H.nx, filtF H.tab⟩ ∈ mapL (fun x => calls e x.1 x.2 f args ⟨H.nx, filtF H.tab⟩) (pieces hi (inner cuts lo hi) lo) := by
          rw [mapL_eq]
          exact List.mem_map.2 ⟨(a, b), hm, rfl⟩
        cases hj : joinK cf (filtF H.tab) H (mapL (fun x => calls e x.1 x.2 f args ⟨H.nx, filtF H.tab⟩) (pieces hi (inner cuts lo hi) lo)) none with
        | err k => trivial
        | pan v H' => exact (joinK_pan hj).elim
        | ret u H' =>
          obtain ⟨v, H1, hr1, hs, hv, hn⟩ := joinK_mem hj hmem
          have ht := joinK_tab hj
          rw [hr1] at hcall
          refine Calls.mono hcall ?_
          rintro e w' ⟨E', x, rfl, mv, hvx⟩
          have mv1 : Mv G W0 E H.f H.nx.toNat w E' H.f H1.nx.toNat w' := Mv.unloop hr mv (fun l o h => subT_ok hcf hs h)
          refine ⟨E', x, rfl, mv1.weak (fun l o hl => ?_) hn, hv hvx⟩
          have hl' : PT.get l H'.tab = some o := hl
          rw [ht] at hl'
          exact ⟨o, hl', fun _ _ _ _ _ h => h⟩
      · exact hc f args H E w xs hcf hr hx
    · exact hc f args H E w xs hcf hr hx
/-- the same where what is cut is told -/
noncomputable def splitL (leaf : Cf → KR) (es : List (SI × List Int)) : Cf → List KR :=
  List.rec (fun cf => [leaf cf]) (fun x _ ih cf => match bnd cf.iv x.1 with
    | some (lo, hi) => List.rec [] (fun y _ rest => ih (addIv cf x.1 y.1 y.2) ++ rest) (pieces hi (inner x.2 lo hi) lo)
    | none => ih cf) es
theorem splitL_ok {leaf : Cf → KR} {σ : Nat → Int} : ∀ (es : List (SI × List Int)) (cf : Cf), cf.ok σ → ∃ cf', cf'.ok σ ∧ cf'.rw = cf.rw ∧ cf'.gl = cf.gl ∧ leaf cf' ∈ splitL leaf es cf
  | [], cf, h => ⟨cf, h, rfl, rfl, List.mem_cons_self ..⟩
  | x :: es, cf, h => by
    have e : splitL leaf (x :: es) cf = (match bnd cf.iv x.1 with
      | some (lo, hi) => List.rec [] (fun y _ rest => splitL leaf es (addIv cf x.1 y.1 y.2) ++ rest) (pieces hi (inner x.2 lo hi) lo)
      | none => splitL leaf es cf) := rfl
    rw [e]
    split
    · rename_i lo hi hbd
      obtain ⟨h1, h2⟩ := bnd_ok h.2.2.1 x.1 hbd
      obtain ⟨a, b, hm, k1, k2⟩ := pieces_ok h2 (inner x.2 lo hi) h1
      obtain ⟨cf', g1, g2, g3, g4⟩ := splitL_ok (leaf := leaf) es (addIv cf x.1 a b) (addIv_ok h k1 k2)
      refine ⟨cf', g1, g2, g3, ?_⟩
      have go : ∀ ps : List (Int × Int), (a, b) ∈ ps → leaf cf' ∈ (List.rec [] (fun y _ rest => splitL leaf es (addIv cf x.1 y.1 y.2) ++ rest) ps : List KR) := by
        intro ps
        induction ps with
        | nil => intro hm; cases hm
        | cons y ps ih =>
          intro hm
          show leaf cf' ∈ splitL leaf es (addIv cf x.1 y.1 y.2) ++ _
          rcases List.mem_cons.1 hm with rfl | hm
          · exact List.mem_append_left _ g4
          · exact List.mem_append_right _ (ih hm)
      exact go _ hm
    · exact splitL_ok es cf h
noncomputable def overS (cf : Cf) (g : Nat) (es : List (SI × List Int)) (calls : Cf → CallF) (call : CallF) : CallF := fun f args H => Bool.rec (call f args H) (filtK H.tab (fun T => joinK cf T H (splitL (fun cf => calls cf f args ⟨H.nx, T⟩) es cf) none)) (Nat.beq f g)
theorem overS_ok {g : Nat} {es : List (SI × List Int)} {calls : Cf → CallF} (hcs : ∀ cf', cf'.rw = cf.rw → cf'.gl = cf.gl → CallOk G W0 cf' (calls cf')) {call : CallF} (hc : CallOk G W0 cf call) : CallOk G W0 cf (overS cf g es calls call) := by
  intro f args H E w xs hcf hr hx
  unfold overS
  cases hb : Nat.beq f g with
  | false => exact hc f args H E w xs hcf hr hx
  | true =>
    simp only
    rw [filtK_eq]
    have hr0 : HR G W0 E (Hp.mk H.nx (filtF H.tab)).f H.nx.toNat w := hr.drop (fun l o h => filtF_get h)
    obtain ⟨cf', g1, g2, g3, hmem⟩ := splitL_ok (leaf := fun cf => calls cf f args ⟨H.nx, filtF H.tab⟩) es cf hcf
    have hcall := hcs cf' g2 g3 f args ⟨H.nx, filtF H.tab⟩ E w xs g1 hr0 hx
    cases hj : joinK cf (filtF H.tab) H (splitL (fun cf => calls cf f args ⟨H.nx, filtF H.tab⟩) es cf) none with
    | err k => trivial
    | pan v H' => exact (joinK_pan hj).elim
    | ret u H' =>
      obtain ⟨v, H1, hr1, hs, hv, hn⟩ := joinK_mem hj hmem
      have ht := joinK_tab hj
      rw [hr1] at hcall
      refine Calls.mono hcall ?_
      rintro e w' ⟨E', x, rfl, mv, hvx⟩
      have mv1 : Mv G W0 E H.f H.nx.toNat w E' H.f H1.nx.toNat w' := Mv.unloop hr mv (fun l o h => subT_ok hcf hs h)
      refine ⟨E', x, rfl, mv1.weak (fun l o hl => ?_) hn, hv hvx⟩
      have hl' : PT.get l H'.tab = some o := hl
      rw [ht] at hl'
      exact ⟨o, hl', fun _ _ _ _ _ h => h⟩
/-! ### a call as it is written down: what it gets, the blocks that are there, the next name; the next name behind it, what it gives; the blocks stay -/
structure Fm where
  g : Nat
  args : List AV
  T0 : PT AObj
  nx0 : P
  nx1 : P
  v : AV
/-- what the call must come to -/
noncomputable def outOk (cf : Cf) (m : Fm) (r : KR) : Bool := match r with
  | .ret v H' => match AV.le cf v m.v, P.ble H'.nx m.nx1, subT cf m.T0 H'.tab with
    | true, true, true => true
    | _, _, _ => false
  | _ => false
def FmOk (G : Program) (W0 : World) (m : Fm) : Prop := ∀ E w xs, HR G W0 E (Hp.mk m.nx0 m.T0).f m.nx0.toNat w → VRs E m.args xs → CallRes G W0 E ⟨m.nx0, m.T0⟩ w m.g xs (.ret m.v ⟨m.nx1, m.T0⟩)
theorem fm_case {m : Fm} {call : CallF} {E : Env} (hcf : cf.ok E.σ) {w : World} {xs : List Value} (hc : CallRes G W0 E ⟨m.nx0, m.T0⟩ w m.g xs (call m.g m.args ⟨m.nx0, m.T0⟩)) (h : outOk cf m (call m.g m.args ⟨m.nx0, m.T0⟩) = true) : CallRes G W0 E ⟨m.nx0, m.T0⟩ w m.g xs (.ret m.v ⟨m.nx1, m.T0⟩) := by
  revert hc
  unfold outOk at h
  split at h
  · rename_i v H' hr
    rw [hr]
    intro hc
    split at h
    · rename_i h1 h2 h3
      refine Calls.mono hc ?_
      rintro e w' ⟨E', x, rfl, mv, hv⟩
      refine ⟨E', x, rfl, mv.weak (fun l o hl => subT_ok hcf h3 hl) (Nat.le_of_ble_eq_true h2), le_ok (by rw [mv.le.1]; exact hcf) h1 hv⟩
    · cases h
  · cases h
/-- each block of a table lies in another one, saying just as much -/
noncomputable def eqT (cf : Cf) (t : PT AObj) : PT AObj → Bool :=
  PT.rec (fun _ => true) (fun _ v _ ihl ihr t' => PT.casesOn t' (Option.rec (match ihl .e with | true => ihr .e | false => false) (fun _ => false) v)
    (fun l' v' r' => match (Option.rec true (fun o => Option.rec false (fun o' => match AObj.le cf o' o with | true => AObj.le cf o o' | false => false) v') v : Bool) with
      | true => (match ihl l' with | true => ihr r' | false => false)
      | false => false)) t
theorem eqT_ok {cf : Cf} {σ : Nat → Int} (hcf : cf.ok σ) : ∀ {t t' : PT AObj}, eqT cf t t' = true → ∀ {q : P} {o : AObj}, PT.get q t = some o → ∃ o', PT.get q t' = some o' ∧ ObLe σ o' o ∧ ObLe σ o o' := by
  intro t
  induction t with
  | e => intro t' _ q o h; rw [PT.get_e] at h; cases h
  | n l v r ihl ihr =>
    intro t' h q o hq
    cases t' with
    | e =>
      have h' : (Option.rec (match eqT cf l .e with | true => eqT cf r .e | false => false) (fun _ => false) v : Bool) = true := h
      cases v with
      | some o => cases h'
      | none =>
        have h2 : (match eqT cf l .e with | true => eqT cf r .e | false => false) = true := h'
        split at h2
        · rename_i hl
          cases q with
          | h => cases hq
          | o q => obtain ⟨o', h1, _⟩ := ihl hl (q := q) (o := o) hq; rw [PT.get_e] at h1; cases h1
          | i q => obtain ⟨o', h1, _⟩ := ihr h2 (q := q) (o := o) hq; rw [PT.get_e] at h1; cases h1
        · cases h2
    | n l' v' r' =>
      have h' : (match (Option.rec true (fun o => Option.rec false (fun o' => match AObj.le cf o' o with | true => AObj.le cf o o' | false => false) v') v : Bool) with
      | true => (match eqT cf l l' with | true => eqT cf r r' | false => false)
      | false => false) = true := h
      split at h'
      · rename_i hv
        split at h'
        · rename_i hl
          cases q with
          | h =>
            have hq' : v = some o := hq
            subst hq'
            cases v' with
            | none => cases hv
            | some o' =>
              have hv' : (match AObj.le cf o' o with | true => AObj.le cf o o' | false => false) = true := hv
              split at hv'
              · rename_i h1; exact ⟨o', rfl, ole_ok hcf h1, ole_ok hcf hv'⟩
              · cases hv'
          | o q => exact ihl hl (q := q) (o := o) hq
          | i q => exact ihr h' (q := q) (o := o) hq
        · cases h'
      · cases h'
noncomputable def overM (cf : Cf) (m : Fm) (call : CallF) : CallF := fun f args H => Bool.rec (call f args H) (match listBeq (AV.le cf) args m.args, P.beq H.nx m.nx0, eqT cf m.T0 H.tab with
  | true, true, true => .ret m.v ⟨m.nx1, H.tab⟩
  | _, _, _ => call f args H) (Nat.beq f m.g)
/-- the same, of some numbers alone -/
def FmOkC (G : Program) (W0 : World) (Pr : (Nat → Int) → Prop) (m : Fm) : Prop := ∀ E w xs, Pr E.σ → HR G W0 E (Hp.mk m.nx0 m.T0).f m.nx0.toNat w → VRs E m.args xs → CallRes G W0 E ⟨m.nx0, m.T0⟩ w m.g xs (.ret m.v ⟨m.nx1, m.T0⟩)
theorem overM_okC {Pr : (Nat → Int) → Prop} {m : Fm} (hm : FmOkC G W0 Pr m) (hp : ∀ σ, cf.ok σ → Pr σ) {call : CallF} (hc : CallOk G W0 cf call) : CallOk G W0 cf (overM cf m call) := by
  intro f args H E w xs hcf hr hx
  unfold overM
  cases hb : Nat.beq f m.g with
  | false => exact hc f args H E w xs hcf hr hx
  | true =>
    simp only
    split
    · rename_i h1 h2 h3
      have hf := Nat.eq_of_beq_eq_true hb
      subst hf
      have hx' := listBeq_vrs (fun h hx => le_ok hcf h hx) h1 hx
      have hn := (P.beq_iff _ _).1 h2
      have sub : ∀ l o, PT.get l m.T0 = some o → ∃ o', H.f l = some o' ∧ ObLe E.σ o' o ∧ ObLe E.σ o o' := fun l o hl => eqT_ok hcf h3 hl
      -- the heap with the row's blocks said as the row says them
      let U : P → Option AObj := fun l => match PT.get l m.T0 with | some o => some o | none => H.f l
      have hU0 : ∀ l o, PT.get l m.T0 = some o → U l = some o := fun l o h => by simp only [U, h]
      have hU1 : ∀ l, PT.get l m.T0 = none → U l = H.f l := fun l h => by simp only [U, h]
      have hU : HR G W0 E U H.nx.toNat w := hr.weak (fun l o hl => by
        cases h0 : PT.get l m.T0 with
        | some o' =>
          rw [hU0 _ _ h0] at hl; cases hl
          obtain ⟨o', h1, h2, _⟩ := sub l _ h0
          exact ⟨o', h1, h2⟩
        | none => rw [hU1 _ h0] at hl; exact ⟨o, hl, fun _ _ _ _ _ h => h⟩)
      rw [hn] at hU
      have hT : HR G W0 E (Hp.mk m.nx0 m.T0).f m.nx0.toNat w := hU.drop hU0
      refine Calls.mono (hm E w xs (hp _ hcf) hT hx') ?_
      rintro e w' ⟨E', x, rfl, mv, hv⟩
      classical
      have mvU := Mv.frame hU hU0 mv (fun l => PT.get l m.T0 = none) (fun l h => h)
      have mv2 : Mv G W0 E U m.nx0.toNat w E' H.f m.nx1.toNat w' := mvU.weak (fun l o hl => by
        cases h0 : PT.get l m.T0 with
        | some o' =>
          obtain ⟨o2, k1, _, k3⟩ := sub l o' h0
          rw [k1] at hl; cases hl
          exact ⟨o', by rw [if_neg (fun h => by cases h)]; exact h0, k3⟩
        | none => exact ⟨o, by rw [if_pos rfl]; exact (hU1 l h0).trans hl, fun _ _ _ _ _ h => h⟩) (Nat.le_refl _)
      refine ⟨E', x, rfl, ⟨mv2.le, mv2.hr, by rw [hn]; exact mv2.up, mv2.sz, ?_, ?_, ?_⟩, hv⟩
      · intro b hb' hno
        refine mv2.fr b hb' (fun l o c hl e => ?_)
        cases h0 : PT.get l m.T0 with
        | some o' => obtain ⟨o2, k1, _⟩ := sub l o' h0; exact hno l o2 c k1 e
        | none => rw [hU1 _ h0] at hl; exact hno l o c hl e
      · intro l o b c hl e
        rcases mv2.own l o b c hl e with hge | ⟨l0, o0, c0, k0, e0⟩
        · exact .inl hge
        · cases h0 : PT.get l0 m.T0 with
          | some o' => obtain ⟨o2, k1, _⟩ := sub l0 o' h0; exact .inr ⟨l0, o2, c0, k1, e0⟩
          | none => rw [hU1 _ h0] at k0; exact .inr ⟨l0, o0, c0, k0, e0⟩
      · intro l x e
        rw [hn]; exact mv2.nw l x e
    · exact hc f args H E w xs hcf hr hx
theorem overM_ok {m : Fm} (hm : FmOk G W0 m) {call : CallF} (hc : CallOk G W0 cf call) : CallOk G W0 cf (overM cf m call) :=
  overM_okC (Pr := fun _ => True) (fun E w xs _ => hm E w xs) (fun _ _ => trivial) hc
/-! ### a call that makes blocks, as it is written down -/
structure Nw where
  g : Nat
  args : List AV
  T0 : PT AObj
  nx0 : P
  N : List (P × AObj)
  nx1 : P
  v : AV
/-- where one number alone may stand, it is written -/
noncomputable def simEK {R : Type} (cf : Cf) (e : SI) (K : SI → R) : R := match e with
  | .lit n => K (.lit n)
  | e => singK cf e K
noncomputable def simE (cf : Cf) (e : SI) : SI := simEK cf e id
theorem simEK_eq {R : Type} (cf : Cf) (e : SI) (K : SI → R) : simEK cf e K = K (simE cf e) := by
  cases e with
  | lit n => rfl
  | _ => exact singK_nat _ _ _
theorem simE_ok {cf : Cf} {σ : Nat → Int} (hcf : cf.ok σ) (e : SI) : (simE cf e).ev σ = e.ev σ := by
  have main : ∀ e, (singK cf e (id : SI → SI)).ev σ = e.ev σ := fun e => by
    obtain ⟨c, h1, h2⟩ := singK_ok hcf e (id : SI → SI)
    rw [h1]; exact h2
  cases e with
  | lit n => rfl
  | _ => exact main _
noncomputable def simV (cf : Cf) (v : AV) : AV := match v with
  | .int k e => .int k (simE cf e)
  | v => v
theorem simV_ok {cf : Cf} {E : Env} (hcf : cf.ok E.σ) {v : AV} {x : Value} (h : VR E v x) : VR E (simV cf v) x := by
  unfold simV
  split
  · cases h
    rw [← simE_ok hcf]
    exact .int _ _
  · exact h
noncomputable def simLK {R : Type} (cf : Cf) (cs : List AV) : (List AV → R) → R := List.rec (fun K => K []) (fun v _ ih K => match v with
  | .int k e => simEK cf e (fun e => ih (fun t => K (.int k e :: t)))
  | v => ih (fun t => K (v :: t))) cs
theorem simLK_eq {R : Type} (cf : Cf) : ∀ (cs : List AV) (K : List AV → R), simLK cf cs K = K (mapL (simV cf) cs)
  | [], K => rfl
  | v :: cs, K => by
    have ih := simLK_eq (R := R) cf cs
    have e : simLK cf (v :: cs) K = (match v with
      | .int k e => simEK cf e (fun e => simLK cf cs (fun t => K (.int k e :: t)))
      | v => simLK cf cs (fun t => K (v :: t))) := rfl
    have e2 : K (mapL (simV cf) (v :: cs)) = K (simV cf v :: mapL (simV cf) cs) := rfl
    rw [e, e2]
    cases v with
    | int k q => exact (simEK_eq cf q _).trans (ih _)
    | _ => exact ih _
noncomputable def simO (cf : Cf) (o : AObj) : AObj := match o with
  | .cells cs ty opn => .cells (mapL (simV cf) cs) ty opn
  | o => o
theorem sim_vrs {cf : Cf} {E : Env} (hcf : cf.ok E.σ) : ∀ {cs : List AV} {vs : List Value}, VRs E cs vs → VRs E (mapL (simV cf) cs) vs
  | _, _, .nil => .nil
  | _, _, .cons h hs => .cons (simV_ok hcf h) (sim_vrs hcf hs)
theorem simO_ok {cf : Cf} {σ : Nat → Int} (hcf : cf.ok σ) (o : AObj) : ObLe σ o (simO cf o) := by
  intro G E c ob hσ h
  subst hσ
  unfold simO
  split
  · cases h with
    | cells a b d e f => exact .cells (sim_vrs hcf a) b d e f
  · exact h
noncomputable def simOK {R : Type} (cf : Cf) (o : AObj) (K : AObj → R) : R := match o with
  | .cells cs ty opn => simLK cf cs (fun cs => K (.cells cs ty opn))
  | o => K o
theorem simOK_eq {R : Type} (cf : Cf) (o : AObj) (K : AObj → R) : simOK cf o K = K (simO cf o) := by
  cases o with
  | cells cs ty opn => exact simLK_eq cf _ _
  | _ => rfl
noncomputable def layN (N : List (P × AObj)) (t : PT AObj) : PT AObj := List.rec t (fun x _ ih => PT.put x.1 ih (some x.2)) N
noncomputable def layNK {R : Type} (cf : Cf) (N : List (P × AObj)) (t : PT AObj) : (PT AObj → R) → R := List.rec (fun K => K t) (fun x _ ih K => simOK cf x.2 (fun o => ih (fun t => PT.putK x.1 t (some o) K))) N
noncomputable def simN (cf : Cf) (N : List (P × AObj)) : List (P × AObj) := mapL (fun x => (x.1, simO cf x.2)) N
theorem layNK_eq {R : Type} (cf : Cf) (t : PT AObj) : ∀ (N : List (P × AObj)) (K : PT AObj → R), layNK cf N t K = K (layN (simN cf N) t)
  | [], K => rfl
  | x :: N, K => by
    show simOK cf x.2 (fun o => layNK cf N t (fun t => PT.putK x.1 t (some o) K)) = _
    rw [simOK_eq, layNK_eq cf t N, PT.putK_eq]; rfl
theorem layN_get (cf : Cf) (q : P) : ∀ (N : List (P × AObj)), (∃ o, (q, o) ∈ N ∧ (∀ t, PT.get q (layN N t) = some o) ∧ ∀ t, PT.get q (layN (simN cf N) t) = some (simO cf o)) ∨ ((∀ o, (q, o) ∉ N) ∧ (∀ t, PT.get q (layN N t) = PT.get q t) ∧ ∀ t, PT.get q (layN (simN cf N) t) = PT.get q t)
  | [] => .inr ⟨(fun _ h => by cases h), (fun _ => rfl), (fun _ => rfl)⟩
  | x :: N => by
    have hg : ∀ t, PT.get q (layN (x :: N) t) = PT.get q (PT.put x.1 (layN N t) (some x.2)) := fun _ => rfl
    have hs : ∀ t, PT.get q (layN (simN cf (x :: N)) t) = PT.get q (PT.put x.1 (layN (simN cf N) t) (some (simO cf x.2))) := fun _ => rfl
    by_cases e : x.1 = q
    · subst e
      exact .inl ⟨x.2, List.mem_cons_self, (fun t => by rw [hg, PT.get_put_same]), (fun t => by rw [hs, PT.get_put_same])⟩
    · rcases layN_get cf q N with ⟨o, h1, h2, h3⟩ | ⟨h1, h2, h3⟩
      · exact .inl ⟨o, List.mem_cons_of_mem _ h1, (fun t => by rw [hg, PT.get_put_other e]; exact h2 t), (fun t => by rw [hs, PT.get_put_other e]; exact h3 t)⟩
      · refine .inr ⟨fun o h => ?_, (fun t => by rw [hg, PT.get_put_other e]; exact h2 t), (fun t => by rw [hs, PT.get_put_other e]; exact h3 t)⟩
        rcases List.mem_cons.1 h with h | h
        · exact e (congrArg Prod.fst h).symm
        · exact h1 o h
/-- what the call must come to -/
noncomputable def outOkN (cf : Cf) (m : Nw) (r : KR) : Bool := match r with
  | .ret v H' => match AV.le cf v m.v, P.ble H'.nx m.nx1, subT cf m.T0 H'.tab, allL (fun x => Bool.rec false (Option.rec false (fun o => AObj.le cf o x.2) (PT.get x.1 H'.tab)) (P.ble m.nx0 x.1)) m.N with
    | true, true, true, true => true
    | _, _, _, _ => false
  | _ => false
def NwOk (G : Program) (W0 : World) (Pr : (Nat → Int) → Prop) (m : Nw) : Prop := (∀ x ∈ m.N, m.nx0.toNat ≤ x.1.toNat) ∧ ∀ E w xs, Pr E.σ → HR G W0 E (Hp.mk m.nx0 m.T0).f m.nx0.toNat w → VRs E m.args xs → CallRes G W0 E ⟨m.nx0, m.T0⟩ w m.g xs (.ret m.v ⟨m.nx1, layN m.N m.T0⟩)
theorem nw_names {m : Nw} {r : KR} (h : outOkN cf m r = true) : ∀ x ∈ m.N, m.nx0.toNat ≤ x.1.toNat := by
  unfold outOkN at h
  split at h
  · split at h
    · rename_i h4
      intro x hx
      have := allL_mem' h4 x hx
      cases hb : P.ble m.nx0 x.1 with
      | false => rw [hb] at this; cases this
      | true => exact Nat.le_of_ble_eq_true hb
    · cases h
  · cases h
theorem nw_case {m : Nw} {call : CallF} {E : Env} (hcf : cf.ok E.σ) {w : World} {xs : List Value} (hc : CallRes G W0 E ⟨m.nx0, m.T0⟩ w m.g xs (call m.g m.args ⟨m.nx0, m.T0⟩)) (h : outOkN cf m (call m.g m.args ⟨m.nx0, m.T0⟩) = true) : CallRes G W0 E ⟨m.nx0, m.T0⟩ w m.g xs (.ret m.v ⟨m.nx1, layN m.N m.T0⟩) := by
  revert hc
  unfold outOkN at h
  split at h
  · rename_i v H' hr
    rw [hr]
    intro hc
    split at h
    · rename_i h1 h2 h3 h4
      refine Calls.mono hc ?_
      rintro e w' ⟨E', x, rfl, mv, hv⟩
      refine ⟨E', x, rfl, mv.weak (fun l o hl => ?_) (Nat.le_of_ble_eq_true h2), le_ok (by rw [mv.le.1]; exact hcf) h1 hv⟩
      have hl' : PT.get l (layN m.N m.T0) = some o := hl
      rcases layN_get cf l m.N with ⟨o', k1, k2, _⟩ | ⟨_, k2, _⟩
      · rw [k2] at hl'; cases hl'
        have := allL_mem' h4 _ k1
        cases hb : P.ble m.nx0 l with
        | false => simp only [hb] at this; cases this
        | true =>
          simp only [hb] at this
          cases hg : PT.get l H'.tab with
          | none => simp only [hg] at this; cases this
          | some o2 => simp only [hg] at this; exact ⟨o2, hg, ole_ok hcf this⟩
      · rw [k2] at hl'
        exact subT_ok hcf h3 hl'
    · cases h
  · cases h
noncomputable def overN (cf : Cf) (m : Nw) (call : CallF) : CallF := fun f args H => Bool.rec (call f args H) (match listBeq (AV.le cf) args m.args, P.beq H.nx m.nx0, eqT cf m.T0 H.tab with
  | true, true, true => layNK cf m.N H.tab (fun t => .ret m.v ⟨m.nx1, t⟩)
  | _, _, _ => call f args H) (Nat.beq f m.g)
theorem overN_ok {Pr : (Nat → Int) → Prop} {m : Nw} (hm : NwOk G W0 Pr m) (hp : ∀ σ, cf.ok σ → Pr σ) {call : CallF} (hc : CallOk G W0 cf call) : CallOk G W0 cf (overN cf m call) := by
  intro f args H E w xs hcf hr hx
  unfold overN
  cases hb : Nat.beq f m.g with
  | false => exact hc f args H E w xs hcf hr hx
  | true =>
    simp only
    split
    · rename_i h1 h2 h3
      have hf := Nat.eq_of_beq_eq_true hb
      subst hf
      have hx' := listBeq_vrs (fun h hx => le_ok hcf h hx) h1 hx
      have hn := (P.beq_iff _ _).1 h2
      rw [layNK_eq]
      have sub : ∀ l o, PT.get l m.T0 = some o → ∃ o', H.f l = some o' ∧ ObLe E.σ o' o ∧ ObLe E.σ o o' := fun l o hl => eqT_ok hcf h3 hl
      let U : P → Option AObj := fun l => match PT.get l m.T0 with | some o => some o | none => H.f l
      have hU0 : ∀ l o, PT.get l m.T0 = some o → U l = some o := fun l o h => by simp only [U, h]
      have hU1 : ∀ l, PT.get l m.T0 = none → U l = H.f l := fun l h => by simp only [U, h]
      have hU : HR G W0 E U H.nx.toNat w := hr.weak (fun l o hl => by
        cases h0 : PT.get l m.T0 with
        | some o' =>
          rw [hU0 _ _ h0] at hl; cases hl
          obtain ⟨o', h1, h2, _⟩ := sub l _ h0
          exact ⟨o', h1, h2⟩
        | none => rw [hU1 _ h0] at hl; exact ⟨o, hl, fun _ _ _ _ _ h => h⟩)
      rw [hn] at hU
      have hT : HR G W0 E (Hp.mk m.nx0 m.T0).f m.nx0.toNat w := hU.drop hU0
      refine Calls.mono (hm.2 E w xs (hp _ hcf) hT hx') ?_
      rintro e w' ⟨E', x, rfl, mv, hv⟩
      classical
      have mvU := Mv.frame hU hU0 mv (fun l => PT.get l m.T0 = none ∧ ∀ o, (l, o) ∉ m.N) (fun l h => h.1)
      have mv2 : Mv G W0 E U m.nx0.toNat w E' (Hp.mk m.nx1 (layN (simN cf m.N) H.tab)).f m.nx1.toNat w' := mvU.weak (fun l o hl => by
        have hl' : PT.get l (layN (simN cf m.N) H.tab) = some o := hl
        rcases layN_get cf l m.N with ⟨o1, k1, k2, k3⟩ | ⟨k1, k2, k3⟩
        · rw [k3] at hl'; cases hl'
          exact ⟨o1, by rw [if_neg (fun h => h.2 _ k1)]; exact k2 _, simO_ok hcf o1⟩
        · rw [k3] at hl'
          cases h0 : PT.get l m.T0 with
          | some o' =>
            obtain ⟨o2, j1, _, j3⟩ := sub l o' h0
            have hh : H.f l = some o := hl'
            rw [j1] at hh; cases hh
            exact ⟨o', by rw [if_neg (fun h => by cases h.1)]; exact (k2 _).trans h0, j3⟩
          | none => exact ⟨o, by rw [if_pos ⟨rfl, k1⟩]; exact (hU1 l h0).trans hl', fun _ _ _ _ _ h => h⟩) (Nat.le_refl _)
      refine ⟨E', x, rfl, ⟨mv2.le, mv2.hr, by rw [hn]; exact mv2.up, mv2.sz, ?_, ?_, ?_⟩, hv⟩
      · intro b hb' hno
        refine mv2.fr b hb' (fun l o c hl e => ?_)
        cases h0 : PT.get l m.T0 with
        | some o' => obtain ⟨o2, k1, _⟩ := sub l o' h0; exact hno l o2 c k1 e
        | none => rw [hU1 _ h0] at hl; exact hno l o c hl e
      · intro l o b c hl e
        rcases mv2.own l o b c hl e with hge | ⟨l0, o0, c0, k0, e0⟩
        · exact .inl hge
        · cases h0 : PT.get l0 m.T0 with
          | some o' => obtain ⟨o2, k1, _⟩ := sub l0 o' h0; exact .inr ⟨l0, o2, c0, k1, e0⟩
          | none => rw [hU1 _ h0] at k0; exact .inr ⟨l0, o0, c0, k0, e0⟩
      · intro l x e
        rw [hn]; exact mv2.nw l x e
    · exact hc f args H E w xs hcf hr hx
/-! the blocks that values lead to -/
noncomputable def namesV (n : Nat) : AV → List P := Nat.rec (fun _ => []) (fun _ ih v => match v with
  | .ptr l _ => [l]
  | .sl l _ _ _ => [l]
  | .map l => [l]
  | .chan l => [l]
  | .iter l => [l]
  | .iface _ v => ih v
  | .agg cs => List.rec [] (fun a _ r => ih a ++ r) cs
  | .tup cs => List.rec [] (fun a _ r => ih a ++ r) cs
  | .fn _ a b => List.rec (List.rec [] (fun a _ r => ih a ++ r) b) (fun a _ r => ih a ++ r) a
  | _ => []) n
noncomputable def namesO (o : AObj) : List P := match o with
  | .cells cs _ _ => List.rec [] (fun a _ r => namesV 6 a ++ r) cs
  | .map es _ => List.rec [] (fun a _ r => namesV 6 a.1 ++ (namesV 6 a.2.1 ++ r)) es
  | _ => []
noncomputable def reach (tab : PT AObj) (fuel : Nat) : List P → PT AObj → (PT AObj → PT AObj) → PT AObj :=
  Nat.rec (fun _ acc k => k acc) (fun _ ih work acc k => List.casesOn work (k acc) (fun l rest => Option.rec (Option.rec (ih rest acc k) (fun o => PT.putK l acc (some o) (fun acc => ih (namesO o ++ rest) acc k)) (PT.get l tab)) (fun _ => ih rest acc k) (PT.get l acc))) fuel
noncomputable def reachV (r : KR → Hp) (q : KR) (args : List AV) : PT AObj := reach (r q).tab 5000 (List.rec [] (fun a _ r => namesV 6 a ++ r) args) .e (fun t => t)
/-! where a run stands when it comes to a function -/
noncomputable def stopAt (g : Nat) (call : CallF) : CallF := fun f args H => Bool.rec (call f args H) (.pan (.tup args) H) (Nat.beq f g)
noncomputable def stopFrom (g : Nat) (n : P) (call : CallF) : CallF := fun f args H => Bool.rec (call f args H) (Bool.rec (call f args H) (.pan (.tup args) H) (P.ble n H.nx)) (Nat.beq f g)
noncomputable def argsOf (r : KR) : List AV := match r with
  | .pan (.tup l) _ => l
  | _ => []
noncomputable def hpOf (r : KR) : Hp := match r with
  | .pan _ H => H
  | _ => ⟨.h, .e⟩
end
end Go.Ai
