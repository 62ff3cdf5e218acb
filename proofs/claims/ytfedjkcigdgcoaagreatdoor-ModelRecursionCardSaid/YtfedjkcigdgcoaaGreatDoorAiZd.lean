/- Compiled code, frames, calls: sound. -/
import Derived.Test.YtfedjkcigdgcoaaGreatDoorAiZc
namespace Go.Ai
open Go Go.RowKit
set_option linter.unusedVariables false
section
variable {G : Program} {W0 : World} {cf : Cf} {V : Kp} {call : CallF} {rnd : RndF}
theorem sgsK_keys {ops : List Oper} (hs : SSA ops) {ss : List Sg} {F : IH} {i' : Nat} {l' : List Oper} {tm : PT AV} {ds : List AD} {H : Hp} {rc : RC} {ex : Ex} {tm' : PT AV} {ds' : List AD} {H' : Hp} {rc' : RC} (h : matSs G V ss 0 ops = some (i', l')) (hk : Keys V tm)
    (hF : ∀ tm1 ds1 H1 rc1, Keys V tm1 → F tm1 ds1 H1 rc1 = .ok ex tm' ds' H' rc' → Keys V tm') (he : sgsK G cf call rnd ss F tm ds H rc = .ok ex tm' ds' H' rc') : Keys V tm' := by
  obtain ⟨_, o⟩ := sgs_ok (G := G) (cf := cf) (call := call) (rnd := rnd) (F := F) (ds := ds) (rc := rc) (H := H) hs ss h rfl (Sub.refl tm) hk
  rw [he] at o
  generalize hX : (CR.ok ex tm' ds' H' rc') = X at o
  generalize hY : regK G cf call rnd V.n ops ops tm ds H rc = Y at o
  cases o with
  | err k => cases hX
  | pan v h1 h2 => cases hX; exact h2
  | go h1 h2 => exact hF _ _ _ _ h2 hX.symm
theorem condV_cases {a b : CR} {v : AV} {ex : Ex} {tm' : PT AV} {ds' : List AD} {H' : Hp} {rc' : RC} (h : condV a b v = .ok ex tm' ds' H' rc') : (v = .bool true ∧ a = .ok ex tm' ds' H' rc') ∨ (v = .bool false ∧ b = .ok ex tm' ds' H' rc') := by
  unfold condV at h
  split at h
  · rename_i r
    cases r with
    | true => exact .inl ⟨rfl, h⟩
    | false => exact .inr ⟨rfl, h⟩
  · cases h
theorem mCond_cases {e : CE} {iha ihb : Code → IH} {c : Code} {tm : PT AV} {ds : List AD} {H : Hp} {rc : RC} {ex : Ex} {tm' : PT AV} {ds' : List AD} {H' : Hp} {rc' : RC} (h : mCond G cf e iha ihb c tm ds H rc = .ok ex tm' ds' H' rc') :
    iha (thnC c) tm ds H rc = .ok ex tm' ds' H' rc' ∨ ihb (elsC c) tm ds H rc = .ok ex tm' ds' H' rc' := by
  unfold mCond at h
  rw [cevK_eq] at h
  cases hv : cev G cf H.tab tm e with
  | none => rw [hv] at h; cases h
  | some v =>
    rw [hv] at h
    rcases condV_cases (show condV _ _ v = _ from h) with ⟨_, h⟩ | ⟨_, h⟩
    · exact .inl h
    · exact .inr h
theorem thenN_cases {F : IH} {r : CR} {ex : Ex} {tm' : PT AV} {ds' : List AD} {H' : Hp} {rc' : RC} (h : thenN F r = .ok ex tm' ds' H' rc') : (∃ tm ds H rc, r = .ok .normal tm ds H rc ∧ F tm ds H rc = .ok ex tm' ds' H' rc') ∨ (ex ≠ .normal ∧ r = .ok ex tm' ds' H' rc') := by
  unfold thenN at h
  split at h
  · exact .inl ⟨_, _, _, _, rfl, h⟩
  · rename_i hn
    refine .inr ⟨fun e => ?_, h⟩
    subst e
    exact hn _ _ _ _ h
theorem chk_reg {ss : List Sg} {c : Code} (h : chkC G V (.reg ss) c = true) : ∃ id ops, c = .region id ops false ∧ SSA ops.toList ∧ ∃ i, matSs G V ss 0 ops.toList = some (i, []) := by
  cases c with
  | region id ops draw =>
    have h' : (!draw && ssaF ops.toList [] && (match matSs G V ss 0 ops.toList with | some (_, []) => true | _ => false)) = true := h
    simp only [Bool.and_eq_true, Bool.not_eq_true'] at h'
    obtain ⟨⟨h1, h2⟩, h3⟩ := h'
    subst h1
    refine ⟨id, ops, rfl, (ssaF_ok h2).2, ?_⟩
    split at h3
    · rename_i i hm; exact ⟨i, hm⟩
    · cases h3
  | _ => exact absurd h (by simp [chkC])
theorem chk_seq {a b : CC} {c : Code} (h : chkC G V (.seq a b) c = true) : ∃ x y, c = .seq x y ∧ chkC G V a x = true ∧ chkC G V b y = true := by
  cases c with
  | seq x y =>
    have h' : (chkC G V a x && chkC G V b y) = true := h
    simp only [Bool.and_eq_true] at h'
    exact ⟨x, y, rfl, h'.1, h'.2⟩
  | _ => exact absurd h (by simp [chkC])
theorem chk_cond {e : CE} {a b : CC} {c : Code} (h : chkC G V (.cond e a b) c = true) : ∃ o x y r i, c = .cond o x y ∧ mat V e false none 0 [] = some (r, i, []) ∧ r.is o = true ∧ chkC G V a x = true ∧ chkC G V b y = true := by
  cases c with
  | cond o x y =>
    have h' : ((match mat V e false none 0 [] with | some (r, _, []) => r.is o | _ => false) && (chkC G V a x && chkC G V b y)) = true := h
    simp only [Bool.and_eq_true] at h'
    have h'' := h'.1
    split at h''
    · rename_i r i hm
      exact ⟨o, x, y, r, i, rfl, hm, h'', h'.2.1, h'.2.2⟩
    · cases h''
  | _ => exact absurd h (by simp [chkC])
theorem chk_condR {ss : List Sg} {e : CE} {a b : CC} {c : Code} (h : chkC G V (.condR ss e a b) c = true) :
    ∃ id ops o x y i l r i', c = .seq (.region id ops false) (.cond o x y) ∧ SSA ops.toList ∧ matSs G V ss 0 ops.toList = some (i, l) ∧ mat V e false none i l = some (r, i', []) ∧ r.is o = true ∧ chkC G V a x = true ∧ chkC G V b y = true := by
  cases c with
  | seq p q =>
    cases p with
    | region id ops draw =>
      cases q with
      | cond o x y =>
        have h' : (!draw && ssaF ops.toList [] && (match matSs G V ss 0 ops.toList with
          | some (i, l) => (match mat V e false none i l with | some (r, _, []) => r.is o | _ => false)
          | none => false) && (chkC G V a x && chkC G V b y)) = true := h
        simp only [Bool.and_eq_true, Bool.not_eq_true'] at h'
        obtain ⟨⟨⟨h1, h2⟩, h3⟩, h4, h5⟩ := h'
        subst h1
        split at h3
        · rename_i i l hm
          split at h3
          · rename_i r i' h6
            exact ⟨id, ops, o, x, y, i, l, r, i', rfl, (ssaF_ok h2).2, hm, h6, h3, h4, h5⟩
          · cases h3
        · cases h3
      | _ => exact absurd h (by simp [chkC])
    | _ => exact absurd h (by simp [chkC])
  | _ => exact absurd h (by simp [chkC])
theorem chk_block {id : Nat} {cc : CC} {c : Code} (h : chkC G V (.block id cc) c = true) : ∃ x, c = .block id x ∧ chkC G V cc x = true := by
  cases c with
  | block id' x =>
    have h' : (Nat.beq id id' && chkC G V cc x) = true := h
    simp only [Bool.and_eq_true] at h'
    rw [Nat.eq_of_beq_eq_true h'.1]
    exact ⟨x, rfl, h'.2⟩
  | _ => exact absurd h (by simp [chkC])
theorem chk_loop {cc : CC} {c : Code} (h : chkC G V (.loop cc) c = true) : ∃ x, c = .loop x ∧ chkC G V cc x = true := by
  cases c with
  | loop x => exact ⟨x, rfl, h⟩
  | _ => exact absurd h (by simp [chkC])
theorem chk_exit {id : Nat} {c : Code} (h : chkC G V (.exit id) c = true) : c = .exit id := by
  cases c with
  | exit id' =>
    have h' : Nat.beq id id' = true := h
    rw [Nat.eq_of_beq_eq_true h']
  | _ => exact absurd h (by simp [chkC])
theorem chk_ret {c : Code} (h : chkC G V .ret c = true) : c = .ret := by
  cases c with
  | ret => rfl
  | _ => exact absurd h (by simp [chkC])
theorem chk_skip {c : Code} (h : chkC G V .skip c = true) : c = .skip := by
  cases c with
  | skip => rfl
  | _ => exact absurd h (by simp [chkC])
theorem chk_old {c : Code} (h : chkC G V .old c = true) : ∃ id ops draw, c = .region id ops draw := by
  cases c with
  | region id ops draw => exact ⟨_, _, _, rfl⟩
  | _ => exact absurd h (by simp [chkC])
theorem matched_ {ss : List Sg} {ops : List Oper} (h : (match matSs G V ss 0 ops with | some (_, []) => true | _ => false) = true) : ∃ i, matSs G V ss 0 ops = some (i, []) := by
  split at h
  · rename_i i hm; exact ⟨i, hm⟩
  · cases h
theorem chk_oldD {as : List Nat} {c : Code} (h : chkC G V (.oldD as) c = true) : ∃ id ops, c = .region id ops true ∧ as = ancs ops.toList [] ∧ regStatic ops.toList (ancs ops.toList []) = true ∧ keptAll V ops.toList = true := by
  cases c with
  | region id ops draw =>
    have h' : (draw && natsBeq as (ancs ops.toList []) && regStatic ops.toList (ancs ops.toList []) && keptAll V ops.toList) = true := h
    simp only [Bool.and_eq_true] at h'
    obtain ⟨⟨⟨h1, h2⟩, h3⟩, h4⟩ := h'
    subst h1
    exact ⟨id, ops, rfl, natsBeq_eq h2, h3, h4⟩
  | _ => exact absurd h (by simp [chkC])
theorem chk_regD {m : Nat} {ss : List Sg} {c : Code} (h : chkC G V (.regD m ss) c = true) : ∃ id ops, c = .region id ops true ∧ m = ops.toList.length ∧ isPuts ss = true ∧ regStatic ops.toList (ancs ops.toList []) = true ∧ SSA ops.toList ∧ ∃ i, matSs G V ss 0 ops.toList = some (i, []) := by
  cases c with
  | region id ops draw =>
    have h' : (draw && Nat.beq m ops.toList.length && isPuts ss && regStatic ops.toList (ancs ops.toList []) && ssaF ops.toList [] && (match matSs G V ss 0 ops.toList with | some (_, []) => true | _ => false)) = true := h
    simp only [Bool.and_eq_true] at h'
    obtain ⟨⟨⟨⟨⟨h1, h2⟩, h3⟩, h4⟩, h5⟩, h6⟩ := h'
    subst h1
    exact ⟨id, ops, rfl, Nat.eq_of_beq_eq_true h2, h3, h4, (ssaF_ok h5).2, matched_ h6⟩
  | _ => exact absurd h (by simp [chkC])
theorem chk_regE {m : Nat} {ss : List Sg} {c : Code} (h : chkC G V (.regE m ss) c = true) : ∃ id ops, c = .region id ops true ∧ m = ops.toList.length ∧ ordB (ancs ops.toList []) ops.toList 0 = true ∧ regStatic ops.toList (ancs ops.toList []) = true ∧ SSA ops.toList ∧ ∃ i, matSs G V ss 0 ops.toList = some (i, []) := by
  cases c with
  | region id ops draw =>
    have h' : (draw && Nat.beq m ops.toList.length && ordB (ancs ops.toList []) ops.toList 0 && regStatic ops.toList (ancs ops.toList []) && ssaF ops.toList [] && (match matSs G V ss 0 ops.toList with | some (_, []) => true | _ => false)) = true := h
    simp only [Bool.and_eq_true] at h'
    obtain ⟨⟨⟨⟨⟨h1, h2⟩, h3⟩, h4⟩, h5⟩, h6⟩ := h'
    subst h1
    exact ⟨id, ops, rfl, Nat.eq_of_beq_eq_true h2, h3, h4, (ssaF_ok h5).2, matched_ h6⟩
  | _ => exact absurd h (by simp [chkC])
theorem chk_condD {m : Nat} {ss : List Sg} {e : CE} {a b : CC} {c : Code} (h : chkC G V (.condD m ss e a b) c = true) :
    ∃ id ops o x y i l r i', c = .seq (.region id ops true) (.cond o x y) ∧ m = ops.toList.length ∧ isPuts ss = true ∧ regStatic ops.toList (ancs ops.toList []) = true ∧ SSA ops.toList ∧ matSs G V ss 0 ops.toList = some (i, l) ∧ mat V e false none i l = some (r, i', []) ∧ r.is o = true ∧ chkC G V a x = true ∧ chkC G V b y = true := by
  cases c with
  | seq p q =>
    cases p with
    | region id ops draw =>
      cases q with
      | cond o x y =>
        have h' : (draw && Nat.beq m ops.toList.length && isPuts ss && regStatic ops.toList (ancs ops.toList []) && ssaF ops.toList [] && (match matSs G V ss 0 ops.toList with
          | some (i, l) => (match mat V e false none i l with | some (r, _, []) => r.is o | _ => false)
          | none => false) && (chkC G V a x && chkC G V b y)) = true := h
        simp only [Bool.and_eq_true] at h'
        obtain ⟨⟨⟨⟨⟨⟨h1, h2⟩, h3⟩, h4⟩, h5⟩, h6⟩, h7, h8⟩ := h'
        subst h1
        split at h6
        · rename_i i l hm
          split at h6
          · rename_i r i' h9
            exact ⟨id, ops, o, x, y, i, l, r, i', rfl, Nat.eq_of_beq_eq_true h2, h3, h4, (ssaF_ok h5).2, hm, h9, h6, h7, h8⟩
          · cases h6
        · cases h6
      | _ => exact absurd h (by simp [chkC])
    | _ => exact absurd h (by simp [chkC])
  | _ => exact absurd h (by simp [chkC])
theorem codeC_keys {n fuel : Nat} : ∀ (cc : CC) (c : Code), chkC G V cc c = true → ∀ {tm : PT AV} {ds : List AD} {H : Hp} {rc : RC} {ex : Ex} {tm' : PT AV} {ds' : List AD} {H' : Hp} {rc' : RC}, Keys V tm → codeC G cf call rnd n fuel cc c tm ds H rc = .ok ex tm' ds' H' rc' → Keys V tm' := by
  intro cc
  induction cc with
  | skip => intro c hc tm ds H rc ex tm' ds' H' rc' hk h; cases h; exact hk
  | exit id => intro c hc tm ds H rc ex tm' ds' H' rc' hk h; cases h; exact hk
  | ret => intro c hc tm ds H rc ex tm' ds' H' rc' hk h; cases h; exact hk
  | old => intro c hc tm ds H rc ex tm' ds' H' rc' hk h; exact oldR_keys hc hk h
  | oldD as =>
    intro c hc tm ds H rc ex tm' ds' H' rc' hk h
    obtain ⟨id, ops, rfl, _, _, hd⟩ := chk_oldD hc
    exact drawK_keys (all_dst hd) hk h
  | regD m ss =>
    intro c hc tm ds H rc ex tm' ds' H' rc' hk h
    obtain ⟨id, ops, rfl, rfl, _, _, hs, i, hm⟩ := chk_regD hc
    change nxK ops.toList.length (fun nx => mReg G cf call rnd ss tm ds ⟨nx, H.tab⟩ rc) H.nx = _ at h
    rw [nxK_eq] at h
    exact sgsK_keys hs hm hk (fun _ _ _ _ k e => by cases e; exact k) h
  | regE m ss =>
    intro c hc tm ds H rc ex tm' ds' H' rc' hk h
    obtain ⟨id, ops, rfl, rfl, _, _, hs, i, hm⟩ := chk_regE hc
    change fbE (nxK ops.toList.length (fun nx => sesK G cf call ss (fun tm ds H rc => .ok .normal tm ds H rc) tm ds ⟨nx, H.tab⟩ rc) H.nx) (regionK G cf call rnd n ops.toList true tm ds H rc) = _ at h
    rw [nxK_eq] at h
    rcases ses_ok (G := G) (cf := cf) (call := call) (F := fun tm ds H rc => .ok .normal tm ds H rc) (ds := ds) (rc := rc) (H := ⟨nxF ops.toList H.nx, H.tab⟩) hs ss hm rfl (Sub.refl tm) hk with ⟨k, e⟩ | ⟨tm1, H1, tmO, e, _, _, k1⟩
    · rw [e] at h
      rcases fbE_cases (k := k) (s := regionK G cf call rnd n ops.toList true tm ds H rc) with ⟨z, hz⟩ | ⟨v, tm2, ds2, H2, rc2, e1, e2⟩
      · rw [hz] at h; cases h
      · rw [e2] at h; cases h
        simp only [regionK] at e1
        split at e1
        · exact drawK_pan hk e1
        · cases e1
    · rw [e] at h; cases h; exact k1
  | condD m ss e a b iha ihb =>
    intro c hc tm ds H rc ex tm' ds' H' rc' hk h
    obtain ⟨id, ops, o, x, y, i, l, r, i', rfl, rfl, _, _, hs, hm, _, _, h1, h2⟩ := chk_condD hc
    change nxK ops.toList.length (fun nx => sgsK G cf call rnd ss (mCond G cf e (codeC G cf call rnd n fuel a) (codeC G cf call rnd n fuel b) (.cond o x y)) tm ds ⟨nx, H.tab⟩ rc) H.nx = _ at h
    rw [nxK_eq] at h
    refine sgsK_keys hs hm hk (fun tm1 ds1 H1 rc1 k e => ?_) h
    rcases mCond_cases e with h | h
    · exact iha x h1 k h
    · exact ihb y h2 k h
  | reg ss =>
    intro c hc tm ds H rc ex tm' ds' H' rc' hk h
    obtain ⟨id, ops, rfl, hs, i, hm⟩ := chk_reg hc
    exact sgsK_keys hs hm hk (fun _ _ _ _ k e => by cases e; exact k) h
  | seq a b iha ihb =>
    intro c hc tm ds H rc ex tm' ds' H' rc' hk h
    obtain ⟨x, y, rfl, h1, h2⟩ := chk_seq hc
    rcases thenN_cases (show thenN (codeC G cf call rnd n fuel b y) (codeC G cf call rnd n fuel a x tm ds H rc) = _ from h) with ⟨_, _, _, _, e1, e2⟩ | ⟨_, e1⟩
    · exact ihb y h2 (iha x h1 hk e1) e2
    · exact iha x h1 hk e1
  | cond e a b iha ihb =>
    intro c hc tm ds H rc ex tm' ds' H' rc' hk h
    obtain ⟨o, x, y, r, i, rfl, _, _, h1, h2⟩ := chk_cond hc
    rcases mCond_cases (show mCond G cf e (codeC G cf call rnd n fuel a) (codeC G cf call rnd n fuel b) (.cond o x y) tm ds H rc = _ from h) with h | h
    · exact iha x h1 hk h
    · exact ihb y h2 hk h
  | condR ss e a b iha ihb =>
    intro c hc tm ds H rc ex tm' ds' H' rc' hk h
    obtain ⟨id, ops, o, x, y, i, l, r, i', rfl, hs, hm, _, _, h1, h2⟩ := chk_condR hc
    refine sgsK_keys hs hm hk (fun tm1 ds1 H1 rc1 k e => ?_) (show sgsK G cf call rnd ss (mCond G cf e (codeC G cf call rnd n fuel a) (codeC G cf call rnd n fuel b) (.cond o x y)) tm ds H rc = _ from h)
    rcases mCond_cases e with h | h
    · exact iha x h1 k h
    · exact ihb y h2 k h
  | block id c ih =>
    intro c hc tm ds H rc ex tm' ds' H' rc' hk h
    obtain ⟨x, rfl, h1⟩ := chk_block hc
    change blockN id (codeC G cf call rnd n fuel _ x tm ds H rc) = _ at h
    unfold blockN at h
    split at h
    · rename_i j tm1 ds1 H1 rc1 e
      split at h
      · cases h; exact ih x h1 hk e
      · cases h; exact ih x h1 hk e
    · exact ih x h1 hk h
  | loop cc ih =>
    intro c hc tm ds H rc ex tm' ds' H' rc' hk h
    obtain ⟨x, rfl, h1⟩ := chk_loop hc
    change loopC (codeC G cf call rnd n fuel cc x) fuel tm ds H rc = _ at h
    have main : ∀ k {tm : PT AV} {ds : List AD} {H : Hp} {rc : RC}, Keys V tm → loopC (codeC G cf call rnd n fuel cc x) k tm ds H rc = .ok ex tm' ds' H' rc' → Keys V tm' := by
      intro k
      induction k with
      | zero => intro tm ds H rc hk h; cases h
      | succ k ihk =>
        intro tm ds H rc hk h
        rcases thenN_cases (show thenN (loopC (codeC G cf call rnd n fuel cc x) k) (codeC G cf call rnd n fuel cc x tm ds H rc) = _ from h) with ⟨_, _, _, _, e1, e2⟩ | ⟨_, e1⟩
        · exact ihk (ih x h1 hk e1) e2
        · exact ih x h1 hk e1
    exact main fuel hk h
/-- as CodeOk.seq, with what is known of the first part's outcome -/
theorem CodeOk.seqE {n : Nat} {b : Frame} {H : Hp} {E : Env} {w : World} {cs : List Frame} {m : Machine} {x : Item} {k : List Item} {r : CR} {F : IH} (hx : ∀ id, exitTo id (x :: k) = exitTo id k)
    (hcf : cf.ok E.σ) (h : CodeOk G W0 n b H E w cs m (x :: k) r)
    (next : ∀ tm ds H' rc E' w' arr dv cs', r = .ok .normal tm ds H' rc → cf.ok E'.σ → St G W0 n b tm ds H' rc E' w' arr dv cs' → CodeOk G W0 n b H' E' w' cs' (lone (Fr b arr (x :: k) dv) cs' w') k (F tm ds H' rc)) :
    CodeOk G W0 n b H E w cs m k (thenN F r) := by
  cases r with
  | err => trivial
  | ok ex tm' ds' H' rc' =>
    obtain ⟨E', w', arr', dv', cs', o, e⟩ := h
    cases ex with
    | normal => exact CodeOk.then o e (next _ _ _ _ _ _ _ _ _ rfl (by rw [o.mv.le.1]; exact hcf) o.st)
    | exit id => exact ⟨E', w', arr', dv', cs', o, e.pass (by simp) (fun _ _ => hx _)⟩
    | ret => exact ⟨E', w', arr', dv', cs', o, e.pass (by simp) (fun _ _ => hx _)⟩
    | pan v => exact ⟨E', w', arr', dv', cs', o, e.pass (by simp) (fun _ _ => hx _)⟩
theorem sub_ok {n : Nat} {b : Frame} {H : Hp} {E : Env} {w : World} {cs : List Frame} {m : Machine} {k : List Item} {ex : Ex} {tm tmO : PT AV} {ds : List AD} {H' : Hp} {rc : RC} (h : CodeOk G W0 n b H E w cs m k (.ok ex tmO ds H' rc)) (hs : Sub V tm tmO) (hk : Keys V tm) : CodeOk G W0 n b H E w cs m k (.ok ex tm ds H' rc) := by
  obtain ⟨E', w', arr', dv', cs', o, e⟩ := h
  exact ⟨E', w', arr', dv', cs', ⟨o.mv, o.st.sub hs hk, o.md⟩, e⟩
theorem bool_eval {E : Env} {x : Value} {t : Bool} (h : VR E (.bool t) x) : x = .bool t := by cases h; rfl
theorem region_ok [GlOk cf.gl W0] (hcall : CallOk G W0 cf call) (hrnd : RndOk G W0 cf rnd) (hdraw : DrawOk G W0 cf call) {b : Frame} {id : Nat} {ops : Array Oper} {draw : Bool} {n : Nat} {tm : PT AV} {ds : List AD} {H : Hp} {rc : RC} {E : Env} {w : World} {arr : Array Value} {dv : List Deferred} {cs : List Frame} {k : List Item}
    (hcf : cf.ok E.σ) (st : St G W0 n b tm ds H rc E w arr dv cs) : CodeOk G W0 n b H E w cs (lone (Fr b arr (.code (.region id ops draw) :: k) dv) cs w) k (regionK G cf call rnd n ops.toList draw tm ds H rc) := by
  cases draw with
  | false =>
    have := regK_ok hcall hrnd (ops := ops) ops.toList 0 (by simp) tm ds H rc E w arr dv cs k hcf st
    refine CodeOk.steps (.one ?_) this
    have hs := st_region (P := G) (b := b) (arr := arr) (ds := dv) (k := k) (cs := cs) (w := w) (ops := ops) (id := id)
    rw [List.range_eq_range'] at hs
    simpa using hs
  | true =>
    simp only [regionK]
    split
    · rename_i hs
      exact hdraw n b id ops tm ds H rc E w arr dv cs k hcf st hs
    · trivial
theorem codeC_ok [GlOk cf.gl W0] (hcall : CallOk G W0 cf call) (hrnd : RndOk G W0 cf rnd) (hdraw : DrawOk G W0 cf call) {b : Frame} {fuel : Nat} : ∀ (cc : CC) (c : Code), chkC G V cc c = true → ∀ (tm : PT AV) (ds : List AD) (H : Hp) (rc : RC) (E : Env) (w : World) (arr : Array Value) (dv : List Deferred) (cs : List Frame) (k : List Item),
    cf.ok E.σ → St G W0 V.n b tm ds H rc E w arr dv cs → Keys V tm →
    CodeOk G W0 V.n b H E w cs (lone (Fr b arr (.code c :: k) dv) cs w) k (codeC G cf call rnd V.n fuel cc c tm ds H rc) := by
  -- a condition, its value reckoned
  have condOk : ∀ {e : CE} {a b' : CC} {o : Operand} {x y : Code} {tm tmO : PT AV} {ds : List AD} {H : Hp} {rc : RC} {E : Env} {w : World} {arr : Array Value} {dv : List Deferred} {cs : List Frame} {k : List Item},
      (∀ v, cev G cf H.tab tm e = some v → ∃ tmO', St G W0 V.n b tmO' ds H rc E w arr dv cs ∧ evO tmO' o = some v) →
      (CodeOk G W0 V.n b H E w cs (lone (Fr b arr (.code x :: k) dv) cs w) k (codeC G cf call rnd V.n fuel a x tm ds H rc)) →
      (CodeOk G W0 V.n b H E w cs (lone (Fr b arr (.code y :: k) dv) cs w) k (codeC G cf call rnd V.n fuel b' y tm ds H rc)) →
      CodeOk G W0 V.n b H E w cs (lone (Fr b arr (.code (.cond o x y) :: k) dv) cs w) k (mCond G cf e (codeC G cf call rnd V.n fuel a) (codeC G cf call rnd V.n fuel b') (.cond o x y) tm ds H rc) := by
    intro e a b' o x y tm tmO ds H rc E w arr dv cs k hv ha hb
    unfold mCond
    rw [cevK_eq]
    cases hc : cev G cf H.tab tm e with
    | none => trivial
    | some v =>
      obtain ⟨tmO', st, ho⟩ := hv v hc
      have hev := evO_ok (a := ⟨arr, dv⟩) st.tr o v ho
      show CodeOk G W0 V.n b H E w cs _ k (condV (codeC G cf call rnd V.n fuel a x tm ds H rc) (codeC G cf call rnd V.n fuel b' y tm ds H rc) v)
      unfold condV
      split
      · rename_i r
        cases r with
        | true => exact CodeOk.steps (.one (st_cond (t := true) (bool_eval hev))) ha
        | false => exact CodeOk.steps (.one (st_cond (t := false) (bool_eval hev))) hb
      · trivial
  intro cc
  induction cc with
  | skip =>
    intro c hc tm ds H rc E w arr dv cs k hcf st hk
    rw [chk_skip hc]
    exact ⟨E, w, arr, dv, cs, ⟨Mv.refl st.hr, st, .refl _ _⟩, .one st_skip⟩
  | exit id =>
    intro c hc tm ds H rc E w arr dv cs k hcf st hk
    rw [chk_exit hc]
    exact ⟨E, w, arr, dv, cs, ⟨Mv.refl st.hr, st, .refl _ _⟩, [], rfl, .refl _ _⟩
  | ret =>
    intro c hc tm ds H rc E w arr dv cs k hcf st hk
    rw [chk_ret hc]
    exact ⟨E, w, arr, dv, cs, ⟨Mv.refl st.hr, st, .refl _ _⟩, k, .refl _ _⟩
  | old =>
    intro c hc tm ds H rc E w arr dv cs k hcf st hk
    obtain ⟨id, ops, draw, rfl⟩ := chk_old hc
    exact region_ok hcall hrnd hdraw hcf st
  | oldD as =>
    intro c hc tm ds H rc E w arr dv cs k hcf st hk
    obtain ⟨id, ops, rfl, rfl, hst, _⟩ := chk_oldD hc
    exact hdraw V.n b id ops tm ds H rc E w arr dv cs k hcf st hst
  | regD m ss =>
    intro c hc tm ds H rc E w arr dv cs k hcf st hk
    obtain ⟨id, ops, rfl, rfl, hp, hst, hs, i, hm⟩ := chk_regD hc
    change CodeOk G W0 V.n b H E w cs _ k (nxK ops.toList.length (fun nx => sgsK G cf call rnd ss (fun tm ds H rc => .ok .normal tm ds H rc) tm ds ⟨nx, H.tab⟩ rc) H.nx)
    rw [nxK_eq]
    obtain ⟨_, o⟩ := puts_ok (G := G) (cf := cf) (call := call) (rnd := rnd) (F := fun tm ds H rc => .ok .normal tm ds H rc) (ds := ds) (rc := rc) (H := ⟨nxF ops.toList H.nx, H.tab⟩) hs ss hp hm rfl (Sub.refl tm) hk
    rcases o with ⟨e, he⟩ | ⟨tm', tmO', he, pr, h1, h2⟩
    · rw [he]; trivial
    · rw [he]
      have h := hdraw V.n b id ops tm ds H rc E w arr dv cs k hcf st hst
      rw [prun_draw pr] at h
      exact sub_ok h h1 h2
  | regE m ss =>
    intro c hc tm ds H rc E w arr dv cs k hcf st hk
    obtain ⟨id, ops, rfl, rfl, hord, hst, hs, i, hm⟩ := chk_regE hc
    change CodeOk G W0 V.n b H E w cs _ k (fbE (nxK ops.toList.length (fun nx => sesK G cf call ss (fun tm ds H rc => .ok .normal tm ds H rc) tm ds ⟨nx, H.tab⟩ rc) H.nx) (regionK G cf call rnd V.n ops.toList true tm ds H rc))
    rw [nxK_eq]
    rcases ses_ok (G := G) (cf := cf) (call := call) (F := fun tm ds H rc => .ok .normal tm ds H rc) (ds := ds) (rc := rc) (H := ⟨nxF ops.toList H.nx, H.tab⟩) hs ss hm rfl (Sub.refl tm) hk with ⟨e, he⟩ | ⟨tm', H', tmO', he, tr, h1, h2⟩
    · rw [he]
      rcases fbE_cases (k := e) (s := regionK G cf call rnd V.n ops.toList true tm ds H rc) with ⟨z, hz⟩ | ⟨v, tm2, ds2, H2, rc2, e1, e2⟩
      · rw [hz]; trivial
      · rw [e2, ← e1]
        exact region_ok hcall hrnd hdraw hcf st
    · rw [he]
      change CodeOk G W0 V.n b H E w cs _ k (CR.ok .normal tm' ds H' rc)
      have h := hdraw V.n b id ops tm ds H rc E w arr dv cs k hcf st hst
      rw [draw_ord hord tr] at h
      exact sub_ok h h1 h2
  | condD m ss e a b' iha ihb =>
    intro c hc tm ds H rc E w arr dv cs k hcf st hk
    obtain ⟨id, ops, oo, x, y, i, l, r, i', rfl, rfl, hp, hst, hs, hm, hme, hr, h1, h2⟩ := chk_condD hc
    refine CodeOk.steps (.one st_seq) ?_
    change CodeOk G W0 V.n b H E w cs _ k (nxK ops.toList.length (fun nx => sgsK G cf call rnd ss (mCond G cf e (codeC G cf call rnd V.n fuel a) (codeC G cf call rnd V.n fuel b') (.cond oo x y)) tm ds ⟨nx, H.tab⟩ rc) H.nx)
    rw [nxK_eq]
    obtain ⟨hd, o⟩ := puts_ok (G := G) (cf := cf) (call := call) (rnd := rnd) (F := mCond G cf e (codeC G cf call rnd V.n fuel a) (codeC G cf call rnd V.n fuel b') (.cond oo x y)) (ds := ds) (rc := rc) (H := ⟨nxF ops.toList H.nx, H.tab⟩) hs ss hp hm rfl (Sub.refl tm) hk
    rcases o with ⟨z, he⟩ | ⟨tm', tmO', he, pr, g1, g2⟩
    · rw [he]; trivial
    · rw [he]
      cases hv : cev G cf H.tab tm' e with
      | none =>
        have : mCond G cf e (codeC G cf call rnd V.n fuel a) (codeC G cf call rnd V.n fuel b') (.cond oo x y) tm' ds ⟨nxF ops.toList H.nx, H.tab⟩ rc = .err 204 := by
          unfold mCond; rw [cevK_eq, hv]; rfl
        rw [this]; trivial
      | some v =>
        obtain ⟨tm2, e2, fr2, hr2⟩ := mat_ok (G := G) (cf := cf) (H := ⟨nxF ops.toList H.nx, H.tab⟩) hs e hme hd g1 trivial hv
        have h := hdraw V.n b id ops tm ds H rc E w arr dv cs (.code (.cond oo x y) :: k) hcf st hst
        rw [prun_draw (pr.trans e2)] at h
        obtain ⟨E', w', arr', dv', cs', o, en⟩ := h
        have hcf' : cf.ok E'.σ := by rw [o.mv.le.1]; exact hcf
        have st' : St G W0 V.n b tm' ds ⟨nxF ops.toList H.nx, H.tab⟩ rc E' w' arr' dv' cs' := o.st.sub (g1.keepA (mat_facts e hme hd).all fr2) g2
        refine CodeOk.then o en ?_
        exact condOk (tmO := tm2) (fun u hu => ⟨tm2, o.st, by rw [show cev G cf H.tab tm' e = some v from hv] at hu; cases hu; exact hr2.is hr⟩) (iha x h1 tm' ds ⟨nxF ops.toList H.nx, H.tab⟩ rc E' w' arr' dv' cs' k hcf' st' g2) (ihb y h2 tm' ds ⟨nxF ops.toList H.nx, H.tab⟩ rc E' w' arr' dv' cs' k hcf' st' g2)
  | reg ss =>
    intro c hc tm ds H rc E w arr dv cs k hcf st hk
    obtain ⟨id, ops, rfl, hs, i, hm⟩ := chk_reg hc
    obtain ⟨_, o⟩ := sgs_ok (G := G) (cf := cf) (call := call) (rnd := rnd) (F := fun tm ds H rc => .ok .normal tm ds H rc) (ds := ds) (rc := rc) (H := H) hs ss hm rfl (Sub.refl tm) hk
    have h := region_ok hcall hrnd hdraw (id := id) (ops := ops) (draw := false) (k := k) hcf st
    change CodeOk G W0 V.n b H E w cs _ k (sgsK G cf call rnd ss (fun tm ds H rc => .ok .normal tm ds H rc) tm ds H rc)
    change CodeOk G W0 V.n b H E w cs _ k (regK G cf call rnd V.n ops.toList ops.toList tm ds H rc) at h
    generalize hX : sgsK G cf call rnd ss (fun tm ds H rc => .ok .normal tm ds H rc) tm ds H rc = X at o
    generalize hY : regK G cf call rnd V.n ops.toList ops.toList tm ds H rc = Y at o h
    cases o with
    | err k => trivial
    | pan v h1 h2 => exact sub_ok h h1 h2
    | go h1 h2 => exact sub_ok h h1 h2
  | seq a b' iha ihb =>
    intro c hc tm ds H rc E w arr dv cs k hcf st hk
    obtain ⟨x, y, rfl, h1, h2⟩ := chk_seq hc
    exact CodeOk.steps (.one st_seq) (CodeOk.seqE (cf := cf) (fun _ => rfl) hcf (iha x h1 tm ds H rc E w arr dv cs (.code y :: k) hcf st hk)
      (fun tm ds H' rc E' w' arr dv cs' he hcf' st' => ihb y h2 tm ds H' rc E' w' arr dv cs' k hcf' st' (codeC_keys a x h1 hk he)))
  | cond e a b' iha ihb =>
    intro c hc tm ds H rc E w arr dv cs k hcf st hk
    obtain ⟨o, x, y, r, i, rfl, hm, hr, h1, h2⟩ := chk_cond hc
    refine condOk (tmO := tm) (fun v hv => ?_) (iha x h1 tm ds H rc E w arr dv cs k hcf st hk) (ihb y h2 tm ds H rc E w arr dv cs k hcf st hk)
    obtain ⟨tmO', _, fr, hro⟩ := mat_ok (G := G) (cf := cf) (H := H) (ops := []) (fun j j' t h => by simp [dstAt] at h) e hm rfl (Sub.refl tm) trivial hv
    have hsame : ∀ t, PT.get (P.of t) tmO' = PT.get (P.of t) tm := fun t => fr t (fun j _ _ h => by simp [dstAt] at h)
    exact ⟨tmO', ⟨st.hr, st.sz, fun i v e => st.tr i v ((hsame i).symm.trans e), st.ds, st.rc⟩, hro.is hr⟩
  | condR ss e a b' iha ihb =>
    intro c hc tm ds H rc E w arr dv cs k hcf st hk
    obtain ⟨id, ops, oo, x, y, i, l, r, i', rfl, hs, hm, hme, hr, h1, h2⟩ := chk_condR hc
    refine CodeOk.steps (.one st_seq) ?_
    obtain ⟨hd, o⟩ := sgs_ok (G := G) (cf := cf) (call := call) (rnd := rnd) (F := mCond G cf e (codeC G cf call rnd V.n fuel a) (codeC G cf call rnd V.n fuel b') (.cond oo x y)) (ds := ds) (rc := rc) (H := H) hs ss hm rfl (Sub.refl tm) hk
    have h := region_ok hcall hrnd hdraw (id := id) (ops := ops) (draw := false) (k := .code (.cond oo x y) :: k) hcf st
    change CodeOk G W0 V.n b H E w cs _ k (sgsK G cf call rnd ss (mCond G cf e (codeC G cf call rnd V.n fuel a) (codeC G cf call rnd V.n fuel b') (.cond oo x y)) tm ds H rc)
    change CodeOk G W0 V.n b H E w cs _ _ (regK G cf call rnd V.n ops.toList ops.toList tm ds H rc) at h
    generalize hX : sgsK G cf call rnd ss (mCond G cf e (codeC G cf call rnd V.n fuel a) (codeC G cf call rnd V.n fuel b') (.cond oo x y)) tm ds H rc = X at o
    generalize hY : regK G cf call rnd V.n ops.toList ops.toList tm ds H rc = Y at o h
    cases o with
    | err k => trivial
    | pan v g1 g2 =>
      obtain ⟨E', w', arr', dv', cs', o, e⟩ := sub_ok h g1 g2
      exact ⟨E', w', arr', dv', cs', o, e.pass (by simp) (fun _ h => by cases h)⟩
    | go g1 g2 =>
      rename_i tm' tmO' H'
      cases hv : cev G cf H'.tab tm' e with
      | none =>
        have : mCond G cf e (codeC G cf call rnd V.n fuel a) (codeC G cf call rnd V.n fuel b') (.cond oo x y) tm' ds H' rc = .err 204 := by
          unfold mCond; rw [cevK_eq, hv]; rfl
        rw [this]; trivial
      | some v =>
        obtain ⟨tm2, e2, fr2, hr2⟩ := mat_ok (G := G) (cf := cf) (H := H') hs e hme hd g1 trivial hv
        rw [e2.regK] at h
        obtain ⟨E', w', arr', dv', cs', o, en⟩ := h
        have hcf' : cf.ok E'.σ := by rw [o.mv.le.1]; exact hcf
        have st' : St G W0 V.n b tm' ds H' rc E' w' arr' dv' cs' := o.st.sub (g1.keepA (mat_facts e hme hd).all fr2) g2
        refine CodeOk.then o en ?_
        exact condOk (tmO := tm2) (fun u hu => ⟨tm2, o.st, by rw [hv] at hu; cases hu; exact hr2.is hr⟩) (iha x h1 tm' ds H' rc E' w' arr' dv' cs' k hcf' st' g2) (ihb y h2 tm' ds H' rc E' w' arr' dv' cs' k hcf' st' g2)
  | block id cc ih =>
    intro c hc tm ds H rc E w arr dv cs k hcf st hk
    obtain ⟨x, rfl, h1⟩ := chk_block hc
    refine CodeOk.steps (.one st_block) ?_
    have h := ih x h1 tm ds H rc E w arr dv cs (.inBlock id :: k) hcf st hk
    change CodeOk G W0 V.n b H E w cs _ k (blockN id (codeC G cf call rnd V.n fuel cc x tm ds H rc))
    generalize codeC G cf call rnd V.n fuel cc x tm ds H rc = r at h
    cases r with
    | err => trivial
    | ok ex tm' ds' H' rc' =>
      obtain ⟨E', w', arr', dv', cs', o, e⟩ := h
      cases ex with
      | normal => exact ⟨E', w', arr', dv', cs', o, Steps.trans e (.one st_inBlock)⟩
      | ret => exact ⟨E', w', arr', dv', cs', o, e.pass (by simp) (fun _ h => by cases h)⟩
      | pan v => exact ⟨E', w', arr', dv', cs', o, e.pass (by simp) (fun _ h => by cases h)⟩
      | exit j =>
        simp only [blockN]
        cases hj : Nat.beq j id with
        | true =>
          have hj := Nat.eq_of_beq_eq_true hj
          subst hj
          obtain ⟨l, e1, s⟩ := e
          refine ⟨E', w', arr', dv', cs', o, Steps.trans s (.one (st_exit ?_))⟩
          rw [e1]; simp [exitTo]
        | false =>
          have hj := Nat.ne_of_beq_eq_false hj
          refine ⟨E', w', arr', dv', cs', o, e.pass (by simp) (fun i hi => ?_)⟩
          cases hi
          have : (id == j) = false := by simp; exact fun h => hj h.symm
          simp [exitTo, this]
  | loop cc ih =>
    intro c hc tm ds H rc E w arr dv cs k hcf st hk
    obtain ⟨x, rfl, h1⟩ := chk_loop hc
    have main : ∀ (m : Nat) (tm : PT AV) (ds : List AD) (H : Hp) (rc : RC) (E : Env) (w : World) (arr : Array Value) (dv : List Deferred) (cs : List Frame) (k : List Item),
        cf.ok E.σ → St G W0 V.n b tm ds H rc E w arr dv cs → Keys V tm →
        CodeOk G W0 V.n b H E w cs (lone (Fr b arr (.code x :: .inLoop x :: k) dv) cs w) k (loopC (codeC G cf call rnd V.n fuel cc x) m tm ds H rc) := by
      intro m
      induction m with
      | zero => intros; trivial
      | succ m ihm =>
        intro tm ds H rc E w arr dv cs k hcf st hk
        exact CodeOk.seqE (cf := cf) (fun _ => rfl) hcf (ih x h1 tm ds H rc E w arr dv cs (.inLoop x :: k) hcf st hk)
          (fun tm ds H' rc E' w' arr dv cs' he hcf' st' => CodeOk.steps (.one st_inLoop) (ihm tm ds H' rc E' w' arr dv cs' k hcf' st' (codeC_keys cc x h1 hk he)))
    exact CodeOk.steps (.one st_loop) (main fuel tm ds H rc E w arr dv cs k hcf st hk)
end
/-! ### frames -/
structure CFn where
  V : Kp
  code : CC
noncomputable def okF (G : Program) (f : Nat) (x : CFn) : Bool := match G.funcs[f]? with
  | some fn => match fn.body with
    | some c => Nat.beq x.V.n fn.ntmps && chkC G x.V x.code c
    | none => false
  | none => false
def TabOk (G : Program) (T : PT CFn) : Prop := ∀ f x, PT.get (P.of f) T = some x → okF G f x = true
section
variable (G : Program) (cf : Cf) (call : CallF) (rnd : RndF) (fuel : Nat)
noncomputable def afterC (f : FuncId) (fn : Func) : CR → KR
  | .ok .normal tm ds H _ => leaveK G cf call rnd fuel fn tm ds .ret H
  | .ok .ret tm ds H _ => leaveK G cf call rnd fuel fn tm ds .ret H
  | .ok (.pan v) tm ds H _ => leaveK G cf call rnd fuel fn tm ds (.pan v) H
  | .ok (.exit _) _ _ _ _ => .err 94
  | .err k => .err (Bool.rec (k + 1000 * (f + 1)) k (Nat.ble 1000 k))
noncomputable def frameB (x : CFn) (f : FuncId) (args : List AV) (H : Hp) (fn : Func) (c : Code) : KR :=
  Bool.rec (.err 95) (afterC G cf call rnd fuel f fn (codeC G cf call rnd x.V.n fuel x.code c (argsT args 0 .e) [] H .no)) (Nat.ble (lenL args) x.V.m && Nat.ble (lenL args) x.V.n)
noncomputable def frameC1 (x : CFn) (f : FuncId) (args : List AV) (H : Hp) : KR := match G.funcs[f]? with
  | some fn => match fn.body with
    | some c => frameB G cf call rnd fuel x f args H fn c
    | none => .err 96
  | none => .err 97
noncomputable def frameC (T : PT CFn) : CallF := fun f args H => Option.rec (frameK G cf call rnd fuel f args H) (fun x => frameC1 G cf call rnd fuel x f args H) (PT.get (P.of f) T)
end
theorem argsT_keys {V : Kp} : ∀ (args : List AV) (i : Nat) (t : PT AV), i + args.length ≤ V.m → Keys V t → Keys V (argsT args i t)
  | [], i, t, _, hk => hk
  | a :: args, i, t, h, hk => argsT_keys args (i + 1) (PT.put (P.of i) t (some a)) (by simp at h; omega) (hk.put (by
      rw [P.toNat_of]
      simp only [List.length_cons] at h
      have : Nat.ble (Nat.succ i) V.m = true := Nat.ble_eq_true_of_le (by omega)
      simp [Kp.has, this]) a)
section
variable {G : Program} {W0 : World} {cf : Cf} {call : CallF} {rnd : RndF}
theorem frameC_ok [GlOk cf.gl W0] {T : PT CFn} (hT : TabOk G T) (hcall : CallOk G W0 cf call) (hrnd : RndOk G W0 cf rnd) (hdraw : DrawOk G W0 cf call) (fuel : Nat) : CallOk G W0 cf (frameC G cf call rnd fuel T) := by
  intro f args H E w xs hcf hr hx
  unfold frameC
  cases hg : PT.get (P.of f) T with
  | none => exact frameK_ok hcall hrnd hdraw fuel f args H E w xs hcf hr hx
  | some x =>
    have hok := hT f x hg
    change CallRes G W0 E H w f xs (frameC1 G cf call rnd fuel x f args H)
    refine LeaveRes.calls fun cs => ?_
    unfold frameC1
    unfold okF at hok
    split
    · rename_i fn hf
      rw [hf] at hok
      simp only at hok
      split
      · rename_i body hb
        rw [hb] at hok
        simp only [Bool.and_eq_true] at hok
        have hn := Nat.eq_of_beq_eq_true hok.1
        unfold frameB
        cases hl : (Nat.ble (lenL args) x.V.m && Nat.ble (lenL args) x.V.n) with
        | false => trivial
        | true =>
        simp only [Bool.and_eq_true] at hl
        have hlm := Nat.le_of_ble_eq_true hl.1
        have hln := Nat.le_of_ble_eq_true hl.2
        have st := st_args (n := fn.ntmps) (b := { (default : Frame) with fn := f, kind := .normal }) (rc := .no) (cs := cs) hr hx (by rw [← hn]; exact hln) (.no rfl rfl cs)
        rw [← hn] at st
        have hkeys : Keys x.V (argsT args 0 .e) := argsT_keys args 0 .e (by rw [lenL_eq] at hlm; omega) (fun _ _ e => by rw [PT.get_e] at e; cases e)
        have hk := codeC_ok hcall hrnd hdraw (fuel := fuel) x.code body hok.2 _ [] H .no E w _ [] cs [] hcf st hkeys
        rw [hn, ← enter_eq hf hb] at hk
        have same : ∀ {cs'}, Mod { (default : Frame) with fn := f, kind := .normal } cs cs' → cs' = cs := by
          intro cs' hm
          rcases hm with rfl | ⟨e, _⟩
          · rfl
          · cases e
        show LeaveRes G W0 E H w f _ cs (afterC G cf call rnd fuel f fn (codeC G cf call rnd x.V.n fuel x.code body (argsT args 0 .e) [] H .no))
        rw [hn]
        unfold afterC
        split
        · rename_i tm ds H2 rc2 hcode
          rw [hcode] at hk
          obtain ⟨E', w', arr', dv', cs', o, e⟩ := hk
          have := same o.md
          subst this
          exact LeaveRes.then o.mv (Steps.trans e (.one (st_end rfl))) (leaveK_ok hcall hrnd hdraw ds .ret tm H2 E' w' _ dv' cs' (by rw [o.mv.le.1]; exact hcf) o.st.hr o.st.tr o.st.ds .ret rfl hf rfl)
        · rename_i tm ds H2 rc2 hcode
          rw [hcode] at hk
          obtain ⟨E', w', arr', dv', cs', o, j, e⟩ := hk
          have := same o.md
          subst this
          exact LeaveRes.then o.mv (Steps.trans e (.one (st_ret rfl))) (leaveK_ok hcall hrnd hdraw ds .ret tm H2 E' w' _ dv' cs' (by rw [o.mv.le.1]; exact hcf) o.st.hr o.st.tr o.st.ds .ret rfl hf rfl)
        · rename_i v tm ds H2 rc2 hcode
          rw [hcode] at hk
          obtain ⟨E', w', arr', dv', cs', o, y, j, hv, e⟩ := hk
          have := same o.md
          subst this
          exact LeaveRes.then o.mv e (leaveK_ok hcall hrnd hdraw ds (.pan v) tm H2 E' w' _ dv' cs' (by rw [o.mv.le.1]; exact hcf) o.st.hr o.st.tr o.st.ds (.pan hv) rfl hf rfl)
        · trivial
        · trivial
      · trivial
    · trivial
/-! ### calls of a depth, over the table; what it is to answer yes -/
noncomputable def bothC (G : Program) (cf : Cf) (T : PT CFn) (over : CallF → CallF) (fuel : Nat) (d : Nat) : CallF × RndF := Nat.rec (fun _ _ _ => .err 98, fun _ _ _ => .err 99) (fun _ ih => (over (frameC G cf ih.1 ih.2 fuel T), roundK G cf ih.1 ih.2 fuel)) d
theorem bothC_ok [GlOk cf.gl W0] {T : PT CFn} (hT : TabOk G T) (hdraw : ∀ call, CallOk G W0 cf call → DrawOk G W0 cf call) {over : CallF → CallF} (hover : ∀ call, CallOk G W0 cf call → CallOk G W0 cf (over call)) (fuel : Nat) : ∀ d, CallOk G W0 cf (bothC G cf T over fuel d).1 ∧ RndOk G W0 cf (bothC G cf T over fuel d).2
  | 0 => ⟨fun _ _ _ _ _ _ _ _ _ => trivial, fun _ _ _ _ _ _ _ _ _ _ _ _ => trivial⟩
  | d + 1 => have ih := bothC_ok hT hdraw hover fuel d
    ⟨hover _ (frameC_ok hT ih.1 ih.2 (hdraw _ ih.1) fuel), roundK_ok ih.1 ih.2 (hdraw _ ih.1) fuel⟩
noncomputable def runC (G : Program) (cf : Cf) (T : PT CFn) (over : CallF → CallF) (fuel d f : Nat) (args : List AV) : KR := (bothC G cf T over fuel d).1 f args ⟨P.h, PT.e⟩
theorem soundC (hm : G.follows .mixedOrders = true) {T : PT CFn} (hT : TabOk G T) {over : CallF → CallF} {cf : Cf} {fuel d : Nat} {f : FuncId} {avs : List AV} {xs : List Value} {w : World} {σ : Nat → Int} [GlOk cf.gl w] (hover : ∀ call, CallOk G w cf call → CallOk G w cf (over call)) (hcf : cf.ok σ) (hx : VRs ⟨σ, fun _ => none⟩ avs xs)
    (h : yes (runC G cf T over fuel d f avs) = true) : Calls G f xs.toArray w fun e w' => e = .returned (.bool true) ∧ Below w.heap.size w w' := by
  have hc := (bothC_ok (W0 := w) hT (fun call h => drawK_ok hm h) hover fuel d).1 f avs ⟨P.h, PT.e⟩ ⟨σ, fun _ => none⟩ w xs hcf (HR.start w σ) hx
  unfold yes at h
  unfold runC at h
  split at h
  · rename_i b H' hr
    rw [hr] at hc
    refine Calls.mono hc ?_
    rintro e w' ⟨E', x, rfl, mv, hv⟩
    cases hv
    exact ⟨by rw [h], mv.hr.below⟩
  · cases h
/-- what a run gives -/
noncomputable def isRet (v : AV) (r : KR) : Bool := match r with
  | .ret u _ => AV.same u v
  | _ => false
theorem soundV (hm : G.follows .mixedOrders = true) {T : PT CFn} (hT : TabOk G T) {over : CallF → CallF} {cf : Cf} {fuel d : Nat} {f : FuncId} {avs : List AV} {xs : List Value} {w : World} {σ : Nat → Int} {v : AV} [GlOk cf.gl w] (hover : ∀ call, CallOk G w cf call → CallOk G w cf (over call)) (hcf : cf.ok σ) (hx : VRs ⟨σ, fun _ => none⟩ avs xs)
    (h : isRet v (runC G cf T over fuel d f avs) = true) : Calls G f xs.toArray w fun e w' => ∃ E x, e = .returned x ∧ E.σ = σ ∧ VR E v x ∧ Below w.heap.size w w' := by
  have hc := (bothC_ok (W0 := w) hT (fun call h => drawK_ok hm h) hover fuel d).1 f avs ⟨P.h, PT.e⟩ ⟨σ, fun _ => none⟩ w xs hcf (HR.start w σ) hx
  unfold isRet at h
  unfold runC at h
  split at h
  · rename_i u H' hr
    rw [hr] at hc
    have := same_eq h
    subst this
    refine Calls.mono hc ?_
    rintro e w' ⟨E', x, rfl, mv, hv⟩
    exact ⟨E', x, rfl, mv.le.1, hv, mv.hr.below⟩
  · cases h
/-- what is known of a function without memory: taken as a fact -/
def FactOk (G : Program) (cf : Cf) (g : Nat) (rule : List AV → Option AV) : Prop := ∀ (args : List AV) (v : AV), rule args = some v → ∀ (E : Env) (xs : List Value), cf.ok E.σ → VRs E args xs → ∀ w : World, Calls G g xs.toArray w fun e w' => ∃ x, e = .returned x ∧ VR E v x ∧ Below w.heap.size w w'
noncomputable def overF (g : Nat) (rule : List AV → Option AV) (call : CallF) : CallF := fun f args H => Bool.rec (call f args H) (Option.rec (call f args H) (fun v => .ret v H) (rule args)) (Nat.beq f g)
theorem overF_ok {cf : Cf} {g : Nat} {rule : List AV → Option AV} (ha : FactOk G cf g rule) {call : CallF} (hc : CallOk G W0 cf call) : CallOk G W0 cf (overF g rule call) := by
  intro f args H E w xs hcf hr hx
  unfold overF
  cases hb : Nat.beq f g with
  | false => exact hc f args H E w xs hcf hr hx
  | true =>
    have hb := Nat.eq_of_beq_eq_true hb
    subst hb
    cases hru : rule args with
    | none => exact hc f args H E w xs hcf hr hx
    | some v =>
      exact Calls.mono (ha args v hru E xs hcf hx w) (fun e w' h => by
        obtain ⟨x, h1, h2, h3⟩ := h
        exact ⟨E, x, h1, Mv.below hr h3, h2⟩)
/-- a table out of a list -/
noncomputable def tabOf (l : List (Nat × CFn)) : PT CFn := List.rec .e (fun x _ ih => PT.put (P.of x.1) ih (some x.2)) l
theorem tabOf_ok : ∀ {l : List (Nat × CFn)}, (∀ x ∈ l, okF G x.1 x.2 = true) → TabOk G (tabOf l)
  | [], _ => fun f x e => by rw [show tabOf [] = PT.e from rfl, PT.get_e] at e; cases e
  | y :: l, h => fun f x e => by
    have e' : PT.get (P.of f) (PT.put (P.of y.1) (tabOf l) (some y.2)) = some x := e
    by_cases hy : y.1 = f
    · subst hy
      rw [PT.get_put_same] at e'
      cases e'
      exact h y (List.mem_cons_self ..)
    · rw [PT.get_put_other (fun e => hy (P.of_inj e))] at e'
      exact tabOf_ok (fun x hx => h x (List.mem_cons_of_mem _ hx)) f x e'
end
end Go.Ai
