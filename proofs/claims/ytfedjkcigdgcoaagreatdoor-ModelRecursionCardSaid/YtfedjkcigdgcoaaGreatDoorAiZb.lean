/- Compiled regions: rows of trees with what they do. -/
import Derived.Test.YtfedjkcigdgcoaaGreatDoorAiZa
namespace Go.Ai
open Go Go.RowKit
set_option linter.unusedVariables false
abbrev Dst := Option (Nat × P)
/-- what is done with values -/
inductive KE where
  | call (f : FuncId)
  | callv
  | store (t : TypeId)
  | app (t xt : TypeId)
  | alloc (t : TypeId)
  | box (t : TypeId)
  | bld (t : TypeId) (ix : List Nat)
  | bsl (t : TypeId) (n : Nat) (ix : List Nat)
  | cpy (t : TypeId)
  | mput (t : TypeId)
  | mksl (t : TypeId)
  | mkmap
  | del (t : TypeId)
  | clo (f : FuncId) (n : Nat)
  | cvs (s d : TypeId)
inductive Sg where
  | put (t : Nat) (p : P) (e : CE)
  | eff (d : Dst) (k : KE) (args : List CE)
noncomputable def zipL {α β : Type} (a : List α) : List β → List (α × β) := List.rec (fun _ => []) (fun x _ ih b => List.casesOn b [] (fun y t => (x, y) :: ih t)) a
section
variable (G : Program) (cf : Cf)
noncomputable def callvK (vs : List AV) : K3 := match vs with
  | f :: args => match f with
    | .fn (.func f) first cap => match hasBody G f with
      | true => .call f ((first ++ args) ++ cap)
      | false => extK G f ((first ++ args) ++ cap)
    | .fn (.yield l) first _ => .yield l (first ++ args)
    | _ => .err 22
  | [] => .err 22
noncomputable def two (n : Nat) (F : AV → AV → K3) (vs : List AV) : K3 := match vs with
  | [a, b] => F a b
  | _ => .err n
noncomputable def onev (F : AV → K3) (vs : List AV) : K3 := match vs with
  | [a] => F a
  | _ => .err 20
noncomputable def effK (k : KE) (vs : List AV) (H : Hp) : K3 :=
  KE.rec (motive := fun _ => K3) (fun f => .call f vs) (callvK G vs) (fun t => two 20 (fun p v => storeK G t p v H (K3.ofU 7)) vs) (fun t xt => two 25 (fun s x => appendK G t xt s x H (K3.ofW 24)) vs)
    (fun t => K3.ofP 14 (allocO G t)) (fun t => onev (fun v => K3.ofP 13 (boxO t v)) vs) (fun t ix => K3.ofR 10 (buildO G t (zipL ix vs))) (fun t n ix => K3.ofA 11 (buildSlO G t n (zipL ix vs)))
    (fun t => two 27 (fun d s => copyK G t d s H (K3.ofW 26)) vs) (fun t => match vs with | [m, k, v] => mapPutK cf G t m k v H (K3.ofU 42) | _ => .err 42) (fun t => two 20 (fun a b => K3.ofA 41 (makeO G t a b)) vs) (.al (.map [] 0) .map)
    (fun t => two 29 (fun m k => mapDelK cf G t m k H (K3.ofW 28)) vs) (fun f n => .rd (.fn (.func f) (takeL n vs) (dropL n vs))) (fun s d => onev (fun v => cvtK G cf s d v H) vs) k
noncomputable def putD (d : Dst) (tm : PT AV) (v : AV) (F : PT AV → CR) : CR := Option.rec (F tm) (fun p => PT.putK p.2 tm (some v) F) d
noncomputable def endD (d : Dst) (ih : IH) (tm : PT AV) (ds : List AD) (rc : RC) : KR → CR := KR.rec (fun v H => putD d tm v (fun tm => ih tm ds H rc)) (fun v H => .ok (.pan v) tm ds H rc) (fun k => .err k)
noncomputable def effC (call : CallF) (rnd : RndF) (d : Dst) (ih : IH) (tm : PT AV) (ds : List AD) (H : Hp) (rc : RC) : K3 → CR :=
  K3.rec (fun v => putD d tm v (fun tm => ih tm ds H rc)) (fun ob mk => P.nextK H.nx (fun nx' => PT.putK H.nx H.tab (some ob) (fun t' => putD d tm (mk H.nx) (fun tm => ih tm ds ⟨nx', t'⟩ rc))))
    (fun v H => putD d tm v (fun tm => ih tm ds H rc)) (fun H => putD d tm (.tup []) (fun tm => ih tm ds H rc)) (fun f args => endD d ih tm ds rc (call f args H)) (fun l args => endD d ih tm ds rc (rnd l args H)) (fun _ _ _ => .err 202) (.err 203)
    (fun v => .ok (.pan v) tm ds H rc) (fun _ => .err 216) (fun k => .err k)
noncomputable def cevsK {R : Type} (bad : R) (tab : PT AObj) (tm : PT AV) (es : List CE) : (List AV → R) → R :=
  List.rec (motive := fun _ => (List AV → R) → R) (fun K => K []) (fun e _ ih K => cevK G cf bad tab tm e (fun v => ih (fun vs => K (v :: vs)))) es
noncomputable def sgK (call : CallF) (rnd : RndF) (s : Sg) (ih : IH) (tm : PT AV) (ds : List AD) (H : Hp) (rc : RC) : CR :=
  Sg.rec (motive := fun _ => CR) (fun t p e => cevK G cf (.err 200) H.tab tm e (fun v => PT.putK p tm (some v) (fun tm => ih tm ds H rc)))
    (fun d k args => cevsK G cf (.err 201) H.tab tm args (fun vs => effC call rnd d ih tm ds H rc (effK G cf k vs H))) s
noncomputable def sgsK (call : CallF) (rnd : RndF) (ss : List Sg) (F : IH) : IH := List.rec F (fun s _ ih => sgK G cf call rnd s ih) ss
/-- the same where an order is open: no block is made, nothing is thrown -/
noncomputable def endE (d : Dst) (ih : IH) (tm : PT AV) (ds : List AD) (rc : RC) : KR → CR := KR.rec (fun v H => putD d tm v (fun tm => ih tm ds H rc)) (fun _ _ => .err 211) (fun k => .err k)
noncomputable def effE (call : CallF) (d : Dst) (ih : IH) (tm : PT AV) (ds : List AD) (H : Hp) (rc : RC) : K3 → CR :=
  K3.rec (fun v => putD d tm v (fun tm => ih tm ds H rc)) (fun _ _ => .err 210) (fun v H => putD d tm v (fun tm => ih tm ds H rc)) (fun H => putD d tm (.tup []) (fun tm => ih tm ds H rc)) (fun f args => endE d ih tm ds rc (call f args H))
    (fun _ _ => .err 212) (fun _ _ _ => .err 213) (.err 214) (fun _ => .err 215) (fun _ => .err 217) (fun k => .err k)
noncomputable def seK (call : CallF) (s : Sg) (ih : IH) (tm : PT AV) (ds : List AD) (H : Hp) (rc : RC) : CR :=
  Sg.rec (motive := fun _ => CR) (fun t p e => cevK G cf (.err 200) H.tab tm e (fun v => PT.putK p tm (some v) (fun tm => ih tm ds H rc)))
    (fun d k args => cevsK G cf (.err 201) H.tab tm args (fun vs => effE call d ih tm ds H rc (effK G cf k vs H))) s
noncomputable def sesK (call : CallF) (ss : List Sg) (F : IH) : IH := List.rec F (fun s _ ih => seK G cf call s ih) ss
noncomputable def cevs (tab : PT AObj) (tm : PT AV) (es : List CE) : Option (List AV) := cevsK G cf none tab tm es some
theorem cevsK_eq (tab : PT AObj) (tm : PT AV) : ∀ (es : List CE) {R : Type} (bad : R) (K : List AV → R), cevsK G cf bad tab tm es K = match cevs G cf tab tm es with | some vs => K vs | none => bad := by
  intro es
  induction es with
  | nil => intro R bad K; rfl
  | cons e es ih =>
    intro R bad K
    show cevK G cf bad tab tm e (fun v => cevsK G cf bad tab tm es (fun vs => K (v :: vs))) = match (cevK G cf none tab tm e (fun v => cevsK G cf none tab tm es (fun vs => some (v :: vs)))) with | some vs => K vs | none => bad
    rw [cevK_eq, cevK_eq]
    cases cev G cf tab tm e with
    | none => rfl
    | some v =>
      show cevsK G cf bad tab tm es (fun vs => K (v :: vs)) = match (cevsK G cf none tab tm es (fun vs => some (v :: vs))) with | some vs => K vs | none => bad
      rw [ih, ih]
      cases cevs G cf tab tm es <;> rfl
end
/-! ### which operations they stand for -/
noncomputable def allIs (rs : List Root) (xs : List Operand) : Bool := match rs, xs with
  | [], [] => true
  | r :: rs, x :: xs => r.is x && allIs rs xs
  | _, _ => false
def natsBeq (a b : List Nat) : Bool := match a, b with
  | [], [] => true
  | x :: a, y :: b => Nat.beq x y && natsBeq a b
  | _, _ => false
theorem natsBeq_eq : ∀ {a b : List Nat}, natsBeq a b = true → a = b
  | [], [], _ => rfl
  | x :: a, y :: b, h => by
    simp only [natsBeq, Bool.and_eq_true] at h
    rw [Nat.eq_of_beq_eq_true h.1, natsBeq_eq h.2]
  | [], _ :: _, h => by simp [natsBeq] at h
  | _ :: _, [], h => by simp [natsBeq] at h
noncomputable def chkE (G : Program) (k : KE) (rs : List Root) (op : Op) : Bool := match k, op with
  | .call f, .call c => match c.callee with
    | .value (.func g) => Nat.beq f g && hasBody G f && allIs rs c.args.toList
    | _ => false
  | .callv, .call c => match c.callee, rs with
    | .value x, r :: rs => r.is x && allIs rs c.args.toList
    | _, _ => false
  | .store t, .store t' a v => Nat.beq t t' && allIs rs [a, v]
  | .app t xt, .call c => match c.callee, c.argTypes.toList with
    | .builtin .append, [u, v] => Nat.beq t u && Nat.beq xt v && allIs rs c.args.toList
    | _, _ => false
  | .alloc t, .alloc t' => Nat.beq t t'
  | .box t, .box t' x => Nat.beq t t' && allIs rs [x]
  | .bld t ix, .build t' ps => Nat.beq t t' && natsBeq ix (ps.toList.map (·.1)) && allIs rs (ps.toList.map (·.2))
  | .bsl t n ix, .buildSlice t' n' ps => Nat.beq t t' && Nat.beq n n' && natsBeq ix (ps.toList.map (·.1)) && allIs rs (ps.toList.map (·.2))
  | .cpy t, .call c => match c.callee, c.argTypes.toList with
    | .builtin .copy, [u, _] => Nat.beq t u && allIs rs c.args.toList
    | _, _ => false
  | .mput t, .mapUpdate t' m k x => Nat.beq t t' && allIs rs [m, k, x]
  | .mksl t, .makeSlice t' a b => Nat.beq t t' && allIs rs [a, b]
  | .mkmap, .makeMap _ none => true
  | .del t, .call c => match c.callee, c.argTypes.toList with
    | .builtin .delete, [u, _] => Nat.beq t u && allIs rs c.args.toList
    | _, _ => false
  | .cvs s d, .convert s' d' x => Nat.beq s s' && Nat.beq d d' && allIs rs [x]
  | .clo f n, .makeFunc (.func g) a b => Nat.beq f g && Nat.beq n a.toList.length && allIs rs (a.toList ++ b.toList)
  | _, _ => false
def dOk (V : Kp) (d : Dst) (dst : Option Nat) : Bool := match d, dst with
  | some (t, p), some u => Nat.beq t u && Nat.beq p.toNat t && V.has t && Nat.ble (Nat.succ t) V.n
  | none, some u => !V.has u && Nat.ble (Nat.succ u) V.n
  | none, none => true
  | some _, none => false
noncomputable def mats (V : Kp) : List CE → Nat → List Oper → Option (List Root × Nat × List Oper)
  | [], i, l => some ([], i, l)
  | e :: es, i, l => match mat V e false none i l with
    | some (r, i, l) => match mats V es i l with
      | some (rs, i, l) => some (r :: rs, i, l)
      | none => none
    | none => none
noncomputable def matS (G : Program) (V : Kp) (s : Sg) (i : Nat) (l : List Oper) : Option (Nat × List Oper) := match s with
  | .put t p e => match mat V e true none i l with
    | some (.tmp u, i, l) => match Nat.beq u t && Nat.beq p.toNat t with
      | true => some (i, l)
      | false => none
    | _ => none
  | .eff d k args => match mats V args i l with
    | some (rs, i, o :: l) => match gbeq o.guard none && chkE G k rs o.op && dOk V d o.dst with
      | true => some (Nat.succ i, l)
      | false => none
    | _ => none
noncomputable def matSs (G : Program) (V : Kp) : List Sg → Nat → List Oper → Option (Nat × List Oper)
  | [], i, l => some (i, l)
  | s :: ss, i, l => match matS G V s i l with
    | some (i, l) => matSs G V ss i l
    | none => none
section
variable {G : Program} {cf : Cf} {V : Kp} {ops : List Oper} {call : CallF} {rnd : RndF} {ds : List AD} {H : Hp} {rc : RC}
def Keys (V : Kp) (tm : PT AV) : Prop := ∀ p v, PT.get p tm = some v → V.has p.toNat = true
theorem RootV.keepA (hs : SSA ops) {i i1 i2 : Nat} {l1 : List Oper} {r : Root} {tm tm' : PT AV} {v : AV} (h : RootV tm r v) (f1 : MF V ops false i i1 l1 r) (f2 : ∀ j, i1 ≤ j → j < i2 → ∃ t, dstAt ops j = some t ∧ V.has t = false) (hf : Frm ops i1 i2 tm tm') : RootV tm' r v := by
  cases r with
  | lit u => exact h
  | tmp t =>
    refine (hf t (fun j a b e => ?_)).trans h
    rcases f1.rt with ⟨_, _, ⟨_, h1⟩ | ⟨u, h1, h2⟩⟩ | ⟨_, u, h1, h2, _⟩
    · cases h1
    · cases h1
      obtain ⟨z, h3, h4⟩ := f2 j a b
      rw [e] at h3; cases h3
      rw [h4] at h2; cases h2
    · cases h1
      have := hs _ _ _ h2 e
      have := f1.le
      omega
theorem Sub.keepA {i i' : Nat} {tm tmO tmO' : PT AV} (h : Sub V tm tmO) (f : ∀ j, i ≤ j → j < i' → ∃ t, dstAt ops j = some t ∧ V.has t = false) (hf : Frm ops i i' tmO tmO') : Sub V tm tmO' := by
  intro t v ht hg
  refine (hf t (fun j a b e => ?_)).trans (h t v ht hg)
  obtain ⟨z, h3, h4⟩ := f j a b
  rw [e] at h3; cases h3
  rw [h4] at ht; cases ht
inductive RVs (tm : PT AV) : List Root → List AV → Prop
  | nil : RVs tm [] []
  | cons {r : Root} {v : AV} {rs : List Root} {vs : List AV} (h : RootV tm r v) (hs : RVs tm rs vs) : RVs tm (r :: rs) (v :: vs)
theorem RVs.ev {tm : PT AV} : ∀ {rs : List Root} {vs : List AV} {xs : List Operand}, RVs tm rs vs → allIs rs xs = true → mapO (evO tm) xs = some vs
  | _, _, [], .nil, _ => rfl
  | _, _, x :: xs, .cons h hs, e => by
    simp only [allIs, Bool.and_eq_true] at e
    show (Option.casesOn (evO tm x) none (fun b => Option.casesOn (mapO (evO tm) xs) none (fun bs => some (b :: bs))) : Option (List AV)) = _
    rw [h.is e.1, hs.ev e.2]
  | _, _, x :: xs, .nil, e => by simp [allIs] at e
  | _, _, [], .cons _ _, e => by simp [allIs] at e
theorem mats_ok (hs : SSA ops) {tm : PT AV} : ∀ (es : List CE) {i i' : Nat} {l l' : List Oper} {rs : List Root} {tmO : PT AV} {vs : List AV}, mats V es i l = some (rs, i', l') → ops.drop i = l → Sub V tm tmO → cevs G cf H.tab tm es = some vs →
    ops.drop i' = l' ∧ i ≤ i' ∧ (∀ j, i ≤ j → j < i' → ∃ t, dstAt ops j = some t ∧ V.has t = false) ∧
    ∃ tmO', PRun G cf V.n ops H l tmO l' tmO' ∧ Frm ops i i' tmO tmO' ∧ RVs tmO' rs vs := by
  intro es
  induction es with
  | nil =>
    intro i i' l l' rs tmO vs h hd hsub hv
    cases h; cases hv
    exact ⟨hd, Nat.le_refl _, fun j _ _ => by omega, tmO, .refl _ _, .refl _ _, .nil⟩
  | cons e es ih =>
    intro i i' l l' rs tmO vs h hd hsub hv
    have hv1 : okK none (fun v => cevsK G cf none H.tab tm es (fun vs => some (v :: vs))) (cev G cf H.tab tm e) = some vs := (cevK_eq G cf H.tab tm e none _).symm.trans hv
    cases hc : cev G cf H.tab tm e with
    | none => rw [hc] at hv1; cases hv1
    | some v =>
      rw [hc] at hv1
      have hv2 : (match cevs G cf H.tab tm es with | some ws => some (v :: ws) | none => none) = some vs := (cevsK_eq G cf H.tab tm es none _).symm.trans hv1
      cases hcs : cevs G cf H.tab tm es with
      | none => rw [hcs] at hv2; cases hv2
      | some ws =>
        rw [hcs] at hv2
        cases hv2
        unfold mats at h
        split at h
        · rename_i r1 i1 l1 h1
          have f1 := mat_facts e h1 hd
          obtain ⟨tm1, e1, fr1, hr1⟩ := mat_ok (G := G) (cf := cf) (H := H) hs e h1 hd hsub trivial hc
          split at h
          · rename_i rs2 i2 l2 h2
            cases h
            obtain ⟨d2, le2, al2, tm2, e2, fr2, hr2⟩ := ih h2 f1.dr (hsub.keep f1 fr1) hcs
            exact ⟨d2, Nat.le_trans f1.le le2, all_trans f1.all al2, tm2, e1.trans e2, fr1.trans fr2 f1.le le2, .cons (hr1.keepA hs f1 al2 fr2) hr2⟩
          · cases h
        · cases h
theorem parts_zip {ev : Operand → Option AV} : ∀ {ps : List (Nat × Operand)} {ix : List Nat} {vs : List AV}, ix = ps.map (·.1) → mapO ev (ps.map (·.2)) = some vs → partsO ev ps = some (zipL ix vs)
  | [], ix, vs, h1, h2 => by subst h1; cases h2; rfl
  | (n, x) :: ps, ix, vs, h1, h2 => by
    subst h1
    obtain ⟨b, bs, e1, e2, rfl⟩ := mapO_cons _ _ _ h2
    have := parts_zip (ps := ps) rfl e2
    show (Option.casesOn (match ev x with | some v => some (n, v) | none => none) none (fun b => Option.casesOn (partsO ev ps) none (fun bs => some (b :: bs))) : Option (List (Nat × AV))) = some ((n, b) :: zipL (ps.map (·.1)) bs)
    rw [e1, this]
theorem mapO_one {ev : Operand → Option AV} {x : Operand} {vs : List AV} (h : mapO ev [x] = some vs) : ∃ a, vs = [a] ∧ ev x = some a := by
  obtain ⟨b, bs, e1, e2, rfl⟩ := mapO_cons _ _ _ h
  cases e2
  exact ⟨b, rfl, e1⟩
theorem mapO_two {ev : Operand → Option AV} {x y : Operand} {vs : List AV} (h : mapO ev [x, y] = some vs) : ∃ a b, vs = [a, b] ∧ ev x = some a ∧ ev y = some b := by
  obtain ⟨b, bs, e1, e2, rfl⟩ := mapO_cons _ _ _ h
  obtain ⟨c, rfl, e3⟩ := mapO_one e2
  exact ⟨b, c, rfl, e1, e3⟩
theorem mapO_three {ev : Operand → Option AV} {x y z : Operand} {vs : List AV} (h : mapO ev [x, y, z] = some vs) : ∃ a b c, vs = [a, b, c] ∧ ev x = some a ∧ ev y = some b ∧ ev z = some c := by
  obtain ⟨b, bs, e1, e2, rfl⟩ := mapO_cons _ _ _ h
  obtain ⟨c, d, rfl, e3, e4⟩ := mapO_two e2
  exact ⟨b, c, d, rfl, e1, e3, e4⟩
theorem mapO_app {ev : Operand → Option AV} : ∀ {xs ys : List Operand} {vs : List AV}, mapO ev (xs ++ ys) = some vs → mapO ev xs = some (takeL xs.length vs) ∧ mapO ev ys = some (dropL xs.length vs)
  | [], ys, vs, h => by rw [takeL_eq, dropL_eq]; simpa using ⟨rfl, h⟩
  | x :: xs, ys, vs, h => by
    obtain ⟨b, bs, e1, e2, rfl⟩ := mapO_cons _ _ _ h
    obtain ⟨h1, h2⟩ := mapO_app (xs := xs) e2
    rw [takeL_eq] at h1 ⊢
    rw [dropL_eq] at h2 ⊢
    refine ⟨?_, by simpa using h2⟩
    show (Option.casesOn (ev x) none (fun b => Option.casesOn (mapO ev xs) none (fun bs => some (b :: bs))) : Option (List AV)) = _
    rw [e1, h1]; rfl
theorem chkE_ok {k : KE} {rs : List Root} {o : Oper} {tm : PT AV} {vs : List AV} (h : chkE G k rs o.op = true) (hr : RVs tm rs vs) : opK G cf o (evO tm) H = effK G cf k vs H := by
  unfold chkE at h
  unfold opK
  split at h
  · rename_i f c ho
    split at h
    · rename_i g hc
      simp only [Bool.and_eq_true] at h
      have h1 := Nat.eq_of_beq_eq_true h.1.1
      subst h1
      have hm := hr.ev h.2
      simp only [ho, callK, hm, hc, evO, h.1.2]
      simp [effK]
    · cases h
  · rename_i c ho
    split at h
    · rename_i x r rs hc
      simp only [Bool.and_eq_true] at h
      cases hr with
      | cons hr1 hr2 =>
        have hm := hr2.ev h.2
        have hx := hr1.is h.1
        rename_i v vs
        simp only [ho, callK, hm, hc, hx]
        cases v with
        | fn f a b => cases f <;> rfl
        | _ => rfl
    · cases h
  · rename_i t t' a v ho
    simp only [Bool.and_eq_true] at h
    have h1 := Nat.eq_of_beq_eq_true h.1
    subst h1
    obtain ⟨p, q, rfl, e1, e2⟩ := mapO_two (hr.ev h.2)
    simp only [ho, e1, e2]; rfl
  · rename_i t xt c ho
    split at h
    · rename_i u v h1 h2
      simp only [Bool.and_eq_true] at h
      have h3 := Nat.eq_of_beq_eq_true h.1.1
      have h4 := Nat.eq_of_beq_eq_true h.1.2
      subst h3 h4
      have hm := hr.ev h.2
      simp only [ho, callK, hm, h1, h2]
      match vs with
      | [] => rfl
      | [a] => rfl
      | [a, b] => rfl
      | a :: b :: c :: l => rfl
    · cases h
  · rename_i t t' ho
    have h1 := Nat.eq_of_beq_eq_true h
    subst h1
    simp only [ho]; rfl
  · rename_i t t' x ho
    simp only [Bool.and_eq_true] at h
    have h1 := Nat.eq_of_beq_eq_true h.1
    subst h1
    obtain ⟨p, rfl, e1⟩ := mapO_one (hr.ev h.2)
    simp only [ho, e1]; rfl
  · rename_i t ix t' ps ho
    simp only [Bool.and_eq_true] at h
    have h1 := Nat.eq_of_beq_eq_true h.1.1
    subst h1
    have hp := parts_zip (natsBeq_eq h.1.2) (hr.ev h.2)
    simp only [ho, hp]; rfl
  · rename_i t n ix t' n' ps ho
    simp only [Bool.and_eq_true] at h
    have h1 := Nat.eq_of_beq_eq_true h.1.1.1
    have h2 := Nat.eq_of_beq_eq_true h.1.1.2
    subst h1 h2
    have hp := parts_zip (natsBeq_eq h.1.2) (hr.ev h.2)
    simp only [ho, hp]; rfl
  · rename_i t c ho
    split at h
    · rename_i u v h1 h2
      simp only [Bool.and_eq_true] at h
      have h3 := Nat.eq_of_beq_eq_true h.1
      subst h3
      have hm := hr.ev h.2
      simp only [ho, callK, hm, h1, h2]
      match vs with
      | [] => rfl
      | [a] => rfl
      | [a, b] => rfl
      | a :: b :: c :: l => rfl
    · cases h
  · rename_i t t' m kk x ho
    simp only [Bool.and_eq_true] at h
    have h1 := Nat.eq_of_beq_eq_true h.1
    subst h1
    obtain ⟨p, q, s, rfl, e1, e2, e3⟩ := mapO_three (hr.ev h.2)
    simp only [ho, e1, e2, e3]; rfl
  · rename_i t t' a b ho
    simp only [Bool.and_eq_true] at h
    have h1 := Nat.eq_of_beq_eq_true h.1
    subst h1
    obtain ⟨p, q, rfl, e1, e2⟩ := mapO_two (hr.ev h.2)
    simp only [ho, e1, e2]; rfl
  · rename_i t ho
    simp only [ho]; rfl
  · rename_i t c ho
    split at h
    · rename_i u v h1 h2
      simp only [Bool.and_eq_true] at h
      have h3 := Nat.eq_of_beq_eq_true h.1
      subst h3
      have hm := hr.ev h.2
      simp only [ho, callK, hm, h1, h2]
      match vs with
      | [] => rfl
      | [a] => rfl
      | [a, b] => rfl
      | a :: b :: c :: l => rfl
    · cases h
  · rename_i s d s' d' x ho
    simp only [Bool.and_eq_true] at h
    have h1 := Nat.eq_of_beq_eq_true h.1.1
    have h2 := Nat.eq_of_beq_eq_true h.1.2
    subst h1 h2
    obtain ⟨p, rfl, e1⟩ := mapO_one (hr.ev h.2)
    simp only [ho, e1]; rfl
  · rename_i f n g a b ho
    simp only [Bool.and_eq_true] at h
    have h1 := Nat.eq_of_beq_eq_true h.1.1
    have h2 := Nat.eq_of_beq_eq_true h.1.2
    subst h1 h2
    obtain ⟨e1, e2⟩ := mapO_app (hr.ev h.2)
    simp only [ho, e1, e2]; rfl
  · cases h
/-- how a row of trees and the row of the text go on together -/
inductive SegO (G : Program) (cf : Cf) (call : CallF) (rnd : RndF) (V : Kp) (ops : List Oper) (F : IH) (ds : List AD) (rc : RC) (l' : List Oper) : CR → CR → Prop
  | err (k : Nat) (rO : CR) : SegO G cf call rnd V ops F ds rc l' (.err k) rO
  | pan (v : AV) {tm' tmO' : PT AV} {H' : Hp} (h : Sub V tm' tmO') (hk : Keys V tm') : SegO G cf call rnd V ops F ds rc l' (.ok (.pan v) tm' ds H' rc) (.ok (.pan v) tmO' ds H' rc)
  | go {tm' tmO' : PT AV} {H' : Hp} (h : Sub V tm' tmO') (hk : Keys V tm') : SegO G cf call rnd V ops F ds rc l' (F tm' ds H' rc) (regK G cf call rnd V.n ops l' tmO' ds H' rc)
theorem Keys.put {tm : PT AV} (h : Keys V tm) {p : P} (hp : V.has p.toNat = true) (v : AV) : Keys V (PT.put p tm (some v)) := by
  intro q u e
  by_cases hq : p = q
  · subst hq; exact hp
  · rw [PT.get_put_other hq] at e; exact h q u e
theorem putD_ok {d : Dst} {dst : Option Nat} {tm tmO : PT AV} (h : dOk V d dst = true) (hsub : Sub V tm tmO) (hk : Keys V tm) (v : AV) :
    ∃ tm' tmO', (∀ F : PT AV → CR, putD d tm v F = F tm') ∧ (∀ K : Option (PT AV) → CR, putT V.n dst tmO v K = K (some tmO')) ∧ Sub V tm' tmO' ∧ Keys V tm' ∧ putF V.n dst tmO v = some tmO' := by
  unfold dOk at h
  split at h
  · rename_i t p u
    simp only [Bool.and_eq_true] at h
    have h1 := Nat.eq_of_beq_eq_true h.1.1.1
    have h2 := Nat.eq_of_beq_eq_true h.1.1.2
    subst h1
    have hp : p = P.of t := by rw [← h2, P.of_toNat]
    refine ⟨PT.put p tm (some v), PT.put (P.of t) tmO (some v), fun F => PT.putK_eq _ _ _ _, fun K => putT_lt h.2 _ _ _, ?_, hk.put (by rw [h2]; exact h.1.2) v, by simp only [putF, h.2]⟩
    subst hp
    intro t' w ht hg
    by_cases he : t = t'
    · subst he
      rw [PT.get_put_same] at hg ⊢
      exact hg
    · rw [PT.get_put_other (fun e => he (P.of_inj e))] at hg ⊢
      exact hsub t' w ht hg
  · rename_i u
    simp only [Bool.and_eq_true] at h
    refine ⟨tm, PT.put (P.of u) tmO (some v), fun F => rfl, fun K => putT_lt h.2 _ _ _, ?_, hk, by simp only [putF, h.2]⟩
    intro t' w ht hg
    have he : u ≠ t' := fun e => by subst e; rw [ht] at h; simp at h
    rw [PT.get_put_other (fun e => he (P.of_inj e))]
    exact hsub t' w ht hg
  · exact ⟨tm, tmO, fun F => rfl, fun K => by rw [putT_eq]; rfl, hsub, hk, rfl⟩
  · cases h
theorem put_ok (hs : SSA ops) {t : Nat} {p : P} {e : CE} {F : IH} {i i' : Nat} {l l' : List Oper} {tm tmO : PT AV} (h : matS G V (.put t p e) i l = some (i', l')) (hd : ops.drop i = l) (hsub : Sub V tm tmO) (hk : Keys V tm) :
    ops.drop i' = l' ∧ ((∃ k, sgK G cf call rnd (.put t p e) F tm ds H rc = .err k) ∨ ∃ tm' tmO', sgK G cf call rnd (.put t p e) F tm ds H rc = F tm' ds H rc ∧ PRun G cf V.n ops H l tmO l' tmO' ∧ Sub V tm' tmO' ∧ Keys V tm') := by
  unfold matS at h
  simp only at h
  split at h
  · rename_i u i1 l1 hm
    split at h
    · rename_i hc
      cases h
      simp only [Bool.and_eq_true] at hc
      have h1 := Nat.eq_of_beq_eq_true hc.1
      have h2 := Nat.eq_of_beq_eq_true hc.2
      subst h1
      have hp : p = P.of u := by rw [← h2, P.of_toNat]
      have f := mat_facts e hm hd
      refine ⟨f.dr, ?_⟩
      have he : sgK G cf call rnd (.put u p e) F tm ds H rc = okK (.err 200) (fun v => PT.putK p tm (some v) (fun tm => F tm ds H rc)) (cev G cf H.tab tm e) := cevK_eq G cf H.tab tm e _ _
      rw [he]
      cases hv : cev G cf H.tab tm e with
      | none => exact .inl ⟨_, rfl⟩
      | some v =>
        obtain ⟨tmO', e1, fr, hr⟩ := mat_ok (G := G) (cf := cf) (H := H) hs e hm hd hsub trivial hv
        have hrt : i < i' ∧ dstAt ops (i' - 1) = some u ∧ V.has u = true := by
          rcases f.rt with ⟨_, e, _⟩ | ⟨a, z, b, c, d⟩
          · cases e
          · cases b; exact ⟨a, c, d⟩
        refine .inr ⟨PT.put p tm (some v), tmO', PT.putK_eq _ _ _ _, e1, ?_, hk.put (by rw [h2]; exact hrt.2.2) v⟩
        subst hp
        intro t' w ht hg
        by_cases hh : u = t'
        · subst hh
          rw [PT.get_put_same] at hg
          cases hg
          exact hr
        · rw [PT.get_put_other (fun e => hh (P.of_inj e))] at hg
          refine (fr t' (fun j a b e => ?_)).trans (hsub t' w ht hg)
          obtain ⟨z, hz, hz2⟩ := f.ds j a b
          rw [e] at hz; cases hz
          by_cases hj : j + 1 < i'
          · rw [hz2 hj] at ht; cases ht
          · have : i' - 1 = j := by omega
            rw [this] at hrt
            rw [e] at hrt
            exact hh (Option.some.inj hrt.2.1).symm
    · cases h
  · cases h
theorem sg_ok (hs : SSA ops) {s : Sg} {F : IH} {i i' : Nat} {l l' : List Oper} {tm tmO : PT AV} (h : matS G V s i l = some (i', l')) (hd : ops.drop i = l) (hsub : Sub V tm tmO) (hk : Keys V tm) :
    ops.drop i' = l' ∧ SegO G cf call rnd V ops F ds rc l' (sgK G cf call rnd s F tm ds H rc) (regK G cf call rnd V.n ops l tmO ds H rc) := by
  cases s with
  | put t p e =>
    obtain ⟨h1, h2⟩ := put_ok (G := G) (cf := cf) (call := call) (rnd := rnd) (ds := ds) (H := H) (rc := rc) (F := F) hs h hd hsub hk
    refine ⟨h1, ?_⟩
    rcases h2 with ⟨k, e⟩ | ⟨tm', tmO', e, hp, h3, h4⟩
    · rw [e]; exact .err _ _
    · rw [e, hp.regK]; exact .go h3 h4
  | eff d k args =>
    unfold matS at h
    simp only at h
    split at h
    · rename_i rs i1 o l1 hm
      split at h
      · rename_i hc
        cases h
        simp only [Bool.and_eq_true] at hc
        have hg := gbeq_eq hc.1.1
        have he : sgK G cf call rnd (.eff d k args) F tm ds H rc = (match cevs G cf H.tab tm args with | some vs => effC call rnd d F tm ds H rc (effK G cf k vs H) | none => .err 201) := cevsK_eq G cf H.tab tm args _ _
        rw [he]
        cases hv : cevs G cf H.tab tm args with
        | none =>
          refine ⟨?_, .err _ _⟩
          have : ∀ (es : List CE) {i i' : Nat} {l l' : List Oper} {rs : List Root}, mats V es i l = some (rs, i', l') → ops.drop i = l → ops.drop i' = l' := by
            intro es
            induction es with
            | nil => intro i i' l l' rs h hd; cases h; exact hd
            | cons e es ih =>
              intro i i' l l' rs h hd
              unfold mats at h
              split at h
              · rename_i h1
                split at h
                · rename_i h2
                  cases h
                  exact ih h2 (mat_facts e h1 hd).dr
                · cases h
              · cases h
          exact (drop_cons (this args hm hd)).2
        | some vs =>
          obtain ⟨d2, le2, al2, tm2, e2, fr2, hr2⟩ := mats_ok (G := G) (cf := cf) (H := H) hs args hm hd hsub hv
          have hsub2 := hsub.keepA al2 fr2
          refine ⟨(drop_cons d2).2, ?_⟩
          rw [e2.regK, regK_cons, GdT.want (i := i1) (by rw [hg]; trivial), chkE_ok (cf := cf) hc.1.2 hr2]
          have put := fun v => putD_ok hc.2 hsub2 hk v
          show SegO G cf call rnd V ops F ds rc l' (effC call rnd d F tm ds H rc (effK G cf k vs H)) _
          cases effK G cf k vs H with
          | rd v =>
            obtain ⟨a, b, p1, p2, p3, p4, _⟩ := put v
            show SegO G cf call rnd V ops F ds rc l' (putD d tm v (fun tm => F tm ds H rc)) _
            rw [p1]; simp only [p2]; exact .go p3 p4
          | al ob mk =>
            obtain ⟨a, b, p1, p2, p3, p4, _⟩ := put (mk H.nx)
            show SegO G cf call rnd V ops F ds rc l' (P.nextK H.nx (fun nx' => PT.putK H.nx H.tab (some ob) (fun t' => putD d tm (mk H.nx) (fun tm => F tm ds ⟨nx', t'⟩ rc)))) _
            simp only [P.nextK_eq, PT.putK_eq, p1, p2]
            exact .go p3 p4
          | wv v H' =>
            obtain ⟨a, b, p1, p2, p3, p4, _⟩ := put v
            show SegO G cf call rnd V ops F ds rc l' (putD d tm v (fun tm => F tm ds H' rc)) _
            rw [p1]; simp only [p2]; exact .go p3 p4
          | wu H' =>
            obtain ⟨a, b, p1, p2, p3, p4, _⟩ := put (.tup [])
            show SegO G cf call rnd V ops F ds rc l' (putD d tm (.tup []) (fun tm => F tm ds H' rc)) _
            rw [p1]; simp only [p2]; exact .go p3 p4
          | call f xs =>
            show SegO G cf call rnd V ops F ds rc l' (endD d F tm ds rc (call f xs H)) _
            simp only
            cases call f xs H with
            | ret v H' =>
              obtain ⟨a, b, p1, p2, p3, p4, _⟩ := put v
              show SegO G cf call rnd V ops F ds rc l' (putD d tm v (fun tm => F tm ds H' rc)) _
              rw [p1]; simp only [p2]; exact .go p3 p4
            | pan v H' => exact .pan v hsub2 hk
            | err k => exact .err _ _
          | yield l xs =>
            show SegO G cf call rnd V ops F ds rc l' (endD d F tm ds rc (rnd l xs H)) _
            simp only
            cases rnd l xs H with
            | ret v H' =>
              obtain ⟨a, b, p1, p2, p3, p4, _⟩ := put v
              show SegO G cf call rnd V ops F ds rc l' (putD d tm v (fun tm => F tm ds H' rc)) _
              rw [p1]; simp only [p2]; exact .go p3 p4
            | pan v H' => exact .pan v hsub2 hk
            | err k => exact .err _ _
          | defer f a c => exact .err _ _
          | recover => exact .err _ _
          | pan v => exact .pan v hsub2 hk
          | sel v => exact .err _ _
          | err k => exact .err _ _
      · cases h
    · cases h
theorem sgs_ok (hs : SSA ops) {F : IH} : ∀ (ss : List Sg) {i i' : Nat} {l l' : List Oper} {tm tmO : PT AV} {H : Hp}, matSs G V ss i l = some (i', l') → ops.drop i = l → Sub V tm tmO → Keys V tm →
    ops.drop i' = l' ∧ SegO G cf call rnd V ops F ds rc l' (sgsK G cf call rnd ss F tm ds H rc) (regK G cf call rnd V.n ops l tmO ds H rc) := by
  intro ss
  induction ss with
  | nil =>
    intro i i' l l' tm tmO H h hd hsub hk
    cases h
    exact ⟨hd, .go hsub hk⟩
  | cons s ss ih =>
    intro i i' l l' tm tmO H h hd hsub hk
    unfold matSs at h
    split at h
    · rename_i i1 l1 h1
      obtain ⟨d1, o1⟩ := sg_ok (G := G) (cf := cf) (call := call) (rnd := rnd) (ds := ds) (H := H) (rc := rc) (F := sgsK G cf call rnd ss F) hs h1 hd hsub hk
      have fin := fun {tm tmO H} => ih (tm := tm) (tmO := tmO) (H := H) h d1
      change ops.drop i' = l' ∧ SegO G cf call rnd V ops F ds rc l' (sgK G cf call rnd s (sgsK G cf call rnd ss F) tm ds H rc) _
      generalize hX : sgK G cf call rnd s (sgsK G cf call rnd ss F) tm ds H rc = X at o1
      generalize hY : regK G cf call rnd V.n ops l tmO ds H rc = Y at o1
      have hdrop : ∀ (ss : List Sg) {i i' : Nat} {l l' : List Oper}, matSs G V ss i l = some (i', l') → ops.drop i = l → ops.drop i' = l' := fun ss => by
        induction ss with
        | nil => intro i i' l l' h hd; cases h; exact hd
        | cons s ss ih2 =>
          intro i i' l l' h hd
          unfold matSs at h
          split at h
          · rename_i h1
            exact ih2 h (sg_ok (G := G) (cf := cf) (call := call) (rnd := rnd) (ds := ds) (H := H) (rc := rc) (F := F) (tm := .e) (tmO := .e) hs h1 hd (fun _ _ _ e => by rw [PT.get_e] at e; cases e) (fun _ _ e => by rw [PT.get_e] at e; cases e)).1
          · cases h
      cases o1 with
      | err k => exact ⟨hdrop ss h d1, .err _ _⟩
      | pan v h k => exact ⟨hdrop ss ‹_› d1, .pan v h k⟩
      | go h2 k2 => exact fin h2 k2
    · cases h
/-! ### an order that is open: what writes, too -/
inductive WrT (G : Program) (cf : Cf) (call : CallF) (o : Oper) (tm : PT AV) (H : Hp) : AV → Hp → Prop
  | wv {v : AV} {H' : Hp} (h : opK G cf o (evO tm) H = .wv v H') : WrT G cf call o tm H v H'
  | wu {H' : Hp} (h : opK G cf o (evO tm) H = .wu H') : WrT G cf call o tm H (.tup []) H'
  | call {f : FuncId} {args : List AV} {v : AV} {H' : Hp} (h : opK G cf o (evO tm) H = .call f args) (hc : call f args H = .ret v H') : WrT G cf call o tm H v H'
inductive TRun (G : Program) (cf : Cf) (call : CallF) (n : Nat) (ops : List Oper) : List Oper → PT AV → Hp → List Oper → PT AV → Hp → Prop
  | refl (l : List Oper) (tm : PT AV) (H : Hp) : TRun G cf call n ops l tm H l tm H
  | rd {o : Oper} {l l' : List Oper} {tm tm1 tm' : PT AV} {H H' : Hp} {v : AV} (hw : wantO ops o tm = some true) (hop : opK G cf o (evO tm) H = .rd v) (hp : putF n o.dst tm v = some tm1) (h : TRun G cf call n ops l tm1 H l' tm' H') : TRun G cf call n ops (o :: l) tm H l' tm' H'
  | skip {o : Oper} {l l' : List Oper} {tm tm1 tm' : PT AV} {H H' : Hp} (hw : wantO ops o tm = some false) (hp : putF n o.dst tm (.tup []) = some tm1) (h : TRun G cf call n ops l tm1 H l' tm' H') : TRun G cf call n ops (o :: l) tm H l' tm' H'
  | wr {o : Oper} {l l' : List Oper} {tm tm1 tm' : PT AV} {H H1 H' : Hp} {v : AV} (hw : wantO ops o tm = some true) (hr : WrT G cf call o tm H v H1) (hp : putF n o.dst tm v = some tm1) (h : TRun G cf call n ops l tm1 H1 l' tm' H') : TRun G cf call n ops (o :: l) tm H l' tm' H'
theorem TRun.trans {n : Nat} {l l1 l2 : List Oper} {tm tm1 tm2 : PT AV} {H H1 H2 : Hp} (h : TRun G cf call n ops l tm H l1 tm1 H1) (k : TRun G cf call n ops l1 tm1 H1 l2 tm2 H2) : TRun G cf call n ops l tm H l2 tm2 H2 := by
  induction h with
  | refl => exact k
  | rd hw hop hp _ ih => exact .rd hw hop hp (ih k)
  | skip hw hp _ ih => exact .skip hw hp (ih k)
  | wr hw hr hp _ ih => exact .wr hw hr hp (ih k)
theorem PRun.trun {n : Nat} {l l' : List Oper} {tm tm' : PT AV} {H : Hp} (h : PRun G cf n ops H l tm l' tm') : TRun G cf call n ops l tm H l' tm' H := by
  induction h with
  | refl => exact .refl _ _ _
  | rd hw hop hd hn _ ih => exact .rd hw hop (by rw [hd]; simp only [putF, hn]) ih
  | skip hw hd hn _ ih => exact .skip hw (by rw [hd]; simp only [putF, hn]) ih
theorem se_ok (hs : SSA ops) {s : Sg} {F : IH} {i i' : Nat} {l l' : List Oper} {tm tmO : PT AV} (h : matS G V s i l = some (i', l')) (hd : ops.drop i = l) (hsub : Sub V tm tmO) (hk : Keys V tm) :
    (∃ k, seK G cf call s F tm ds H rc = .err k) ∨ ∃ tm' H' tmO', seK G cf call s F tm ds H rc = F tm' ds H' rc ∧ TRun G cf call V.n ops l tmO H l' tmO' H' ∧ Sub V tm' tmO' ∧ Keys V tm' := by
  cases s with
  | put t p e =>
    obtain ⟨_, h2⟩ := put_ok (G := G) (cf := cf) (call := call) (rnd := fun _ _ _ => .err 0) (ds := ds) (H := H) (rc := rc) (F := F) hs h hd hsub hk
    rcases h2 with ⟨k, e⟩ | ⟨tm', tmO', e, hp, h3, h4⟩
    · exact .inl ⟨k, e⟩
    · exact .inr ⟨tm', H, tmO', e, hp.trun, h3, h4⟩
  | eff d k args =>
    unfold matS at h
    simp only at h
    split at h
    · rename_i rs i1 o l1 hm
      split at h
      · rename_i hc
        cases h
        simp only [Bool.and_eq_true] at hc
        have hg := gbeq_eq hc.1.1
        have he : seK G cf call (.eff d k args) F tm ds H rc = (match cevs G cf H.tab tm args with | some vs => effE call d F tm ds H rc (effK G cf k vs H) | none => .err 201) := cevsK_eq G cf H.tab tm args _ _
        rw [he]
        cases hv : cevs G cf H.tab tm args with
        | none => exact .inl ⟨_, rfl⟩
        | some vs =>
          obtain ⟨d2, le2, al2, tm2, e2, fr2, hr2⟩ := mats_ok (G := G) (cf := cf) (H := H) hs args hm hd hsub hv
          have hsub2 := hsub.keepA al2 fr2
          have hw : wantO ops o tm2 = some true := GdT.want (i := i1) (by rw [hg]; trivial)
          have hop := chkE_ok (cf := cf) (H := H) hc.1.2 hr2
          have put := fun v => putD_ok hc.2 hsub2 hk v
          show (∃ q, effE call d F tm ds H rc (effK G cf k vs H) = .err q) ∨ ∃ tm' H' tmO', effE call d F tm ds H rc (effK G cf k vs H) = F tm' ds H' rc ∧ _
          cases hq : effK G cf k vs H with
          | rd v =>
            obtain ⟨a, b, p1, _, p3, p4, p5⟩ := put v
            exact .inr ⟨a, H, b, p1 (fun tm => F tm ds H rc), e2.trun.trans (.rd hw (hop.trans hq) p5 (.refl _ _ _)), p3, p4⟩
          | wv v H' =>
            obtain ⟨a, b, p1, _, p3, p4, p5⟩ := put v
            exact .inr ⟨a, H', b, p1 (fun tm => F tm ds H' rc), e2.trun.trans (.wr hw (.wv (hop.trans hq)) p5 (.refl _ _ _)), p3, p4⟩
          | wu H' =>
            obtain ⟨a, b, p1, _, p3, p4, p5⟩ := put (.tup [])
            exact .inr ⟨a, H', b, p1 (fun tm => F tm ds H' rc), e2.trun.trans (.wr hw (.wu (hop.trans hq)) p5 (.refl _ _ _)), p3, p4⟩
          | call f xs =>
            show (∃ q, endE d F tm ds rc (call f xs H) = .err q) ∨ ∃ tm' H' tmO', endE d F tm ds rc (call f xs H) = F tm' ds H' rc ∧ _
            cases hcl : call f xs H with
            | ret v H' =>
              obtain ⟨a, b, p1, _, p3, p4, p5⟩ := put v
              exact .inr ⟨a, H', b, p1 (fun tm => F tm ds H' rc), e2.trun.trans (.wr hw (.call (hop.trans hq) hcl) p5 (.refl _ _ _)), p3, p4⟩
            | pan v H' => exact .inl ⟨_, rfl⟩
            | err k => exact .inl ⟨_, rfl⟩
          | al ob mk => exact .inl ⟨_, rfl⟩
          | yield l xs => exact .inl ⟨_, rfl⟩
          | defer f a c => exact .inl ⟨_, rfl⟩
          | recover => exact .inl ⟨_, rfl⟩
          | pan v => exact .inl ⟨_, rfl⟩
          | sel v => exact .inl ⟨_, rfl⟩
          | err k => exact .inl ⟨_, rfl⟩
      · cases h
    · cases h
theorem ses_ok (hs : SSA ops) {F : IH} : ∀ (ss : List Sg) {i i' : Nat} {l l' : List Oper} {tm tmO : PT AV} {H : Hp}, matSs G V ss i l = some (i', l') → ops.drop i = l → Sub V tm tmO → Keys V tm →
    (∃ k, sesK G cf call ss F tm ds H rc = .err k) ∨ ∃ tm' H' tmO', sesK G cf call ss F tm ds H rc = F tm' ds H' rc ∧ TRun G cf call V.n ops l tmO H l' tmO' H' ∧ Sub V tm' tmO' ∧ Keys V tm' := by
  intro ss
  induction ss with
  | nil =>
    intro i i' l l' tm tmO H h hd hsub hk
    cases h
    exact .inr ⟨tm, H, tmO, rfl, .refl _ _ _, hsub, hk⟩
  | cons s ss ih =>
    intro i i' l l' tm tmO H h hd hsub hk
    unfold matSs at h
    split at h
    · rename_i i1 l1 h1
      have d1 := (sg_ok (G := G) (cf := cf) (call := call) (rnd := fun _ _ _ => .err 0) (ds := ds) (H := H) (rc := rc) (F := F) hs h1 hd hsub hk).1
      change (∃ k, seK G cf call s (sesK G cf call ss F) tm ds H rc = .err k) ∨ ∃ tm' H' tmO', seK G cf call s (sesK G cf call ss F) tm ds H rc = F tm' ds H' rc ∧ _
      rcases se_ok (G := G) (cf := cf) (call := call) (ds := ds) (H := H) (rc := rc) (F := sesK G cf call ss F) hs h1 hd hsub hk with ⟨k, e⟩ | ⟨tm1, H1, tmO1, e, r1, s1, k1⟩
      · exact .inl ⟨k, e⟩
      · rcases ih h d1 s1 k1 (H := H1) with ⟨k, e2⟩ | ⟨tm2, H2, tmO2, e2, r2, s2, k2⟩
        · exact .inl ⟨k, e.trans e2⟩
        · exact .inr ⟨tm2, H2, tmO2, e.trans e2, r1.trans r2, s2, k2⟩
    · cases h
end
end Go.Ai
