/- Compiled code: defined; it is what the code is. -/
import Derived.Test.YtfedjkcigdgcoaaGreatDoorAiZbo
namespace Go.Ai
open Go Go.RowKit
set_option linter.unusedVariables false
inductive CC where
  | skip
  | reg (ss : List Sg)
  | seq (a b : CC)
  | cond (e : CE) (a b : CC)
  | condR (ss : List Sg) (e : CE) (a b : CC)
  | block (id : Nat) (c : CC)
  | loop (c : CC)
  | exit (id : Nat)
  | ret
  | old
  | oldD (as : List Nat)
  | regD (m : Nat) (ss : List Sg)
  | condD (m : Nat) (ss : List Sg) (e : CE) (a b : CC)
  | regE (m : Nat) (ss : List Sg)
def fstC (c : Code) : Code := match c with | .seq a _ => a | _ => .skip
def sndC (c : Code) : Code := match c with | .seq _ b => b | _ => .skip
def thnC (c : Code) : Code := match c with | .cond _ a _ => a | _ => .skip
def elsC (c : Code) : Code := match c with | .cond _ _ b => b | _ => .skip
def subC (c : Code) : Code := match c with | .block _ c => c | .loop c => c | _ => .skip
noncomputable def condV (a b : CR) (v : AV) : CR := match v with
  | .bool r => Bool.rec b a r
  | _ => .err 81
noncomputable def loopC (F : IH) (fuel : Nat) : IH := Nat.rec (fun _ _ _ _ => .err 80) (fun _ ih tm ds H rc => thenN ih (F tm ds H rc)) fuel
section
variable (G : Program) (cf : Cf) (call : CallF) (rnd : RndF)
noncomputable def oldR (n : Nat) (c : Code) (tm : PT AV) (ds : List AD) (H : Hp) (rc : RC) : CR := match c with
  | .region _ ops draw => regionK G cf call rnd n ops.toList draw tm ds H rc
  | _ => .err 205
noncomputable def oldDR (n : Nat) (as : List Nat) (c : Code) (tm : PT AV) (ds : List AD) (H : Hp) (rc : RC) : CR := match c with
  | .region _ ops _ => drawK G cf call n ops.toList as tm ds H rc
  | _ => .err 206
noncomputable def nxK {R : Type} (m : Nat) (K : P → R) : P → R := Nat.rec K (fun _ ih p => P.nextK p ih) m
noncomputable def bump (m : Nat) (F : IH) (tm : PT AV) (ds : List AD) (H : Hp) (rc : RC) : CR := nxK m (fun nx => F tm ds ⟨nx, H.tab⟩ rc) H.nx
/-- an order that is open, in which a call throws: done as the row of the text has it -/
noncomputable def fbE (r s : CR) : CR := match r with
  | .err k => match Nat.beq k 211 with
    | true => (match s with
      | .ok (.pan v) tm ds H rc => .ok (.pan v) tm ds H rc
      | _ => .err 211)
    | false => .err k
  | r => r
noncomputable def mSeq (iha ihb : Code → IH) (c : Code) (tm : PT AV) (ds : List AD) (H : Hp) (rc : RC) : CR := thenN (ihb (sndC c)) (iha (fstC c) tm ds H rc)
noncomputable def mCond (e : CE) (iha ihb : Code → IH) (c : Code) (tm : PT AV) (ds : List AD) (H : Hp) (rc : RC) : CR := cevK G cf (.err 204) H.tab tm e (condV (iha (thnC c) tm ds H rc) (ihb (elsC c) tm ds H rc))
noncomputable def mReg (ss : List Sg) : IH := sgsK G cf call rnd ss (fun tm ds H rc => .ok .normal tm ds H rc)
noncomputable def mCondR (ss : List Sg) (e : CE) (iha ihb : Code → IH) (c : Code) : IH := sgsK G cf call rnd ss (mCond G cf e iha ihb (sndC c))
noncomputable def mBlock (id : Nat) (ih : Code → IH) (c : Code) (tm : PT AV) (ds : List AD) (H : Hp) (rc : RC) : CR := blockN id (ih (subC c) tm ds H rc)
noncomputable def codeC (n fuel : Nat) (cc : CC) : Code → IH :=
  CC.rec (motive := fun _ => Code → IH) (fun _ tm ds H rc => .ok .normal tm ds H rc) (fun ss _ => mReg G cf call rnd ss) (fun _ _ iha ihb => mSeq iha ihb) (fun e _ _ iha ihb => mCond G cf e iha ihb) (fun ss e _ _ iha ihb => mCondR G cf call rnd ss e iha ihb)
    (fun id _ ih => mBlock id ih) (fun _ ih c => loopC (ih (subC c)) fuel) (fun id _ tm ds H rc => .ok (.exit id) tm ds H rc) (fun _ tm ds H rc => .ok .ret tm ds H rc) (oldR G cf call rnd n)
    (fun as => oldDR G cf call n as) (fun m ss _ => bump m (mReg G cf call rnd ss)) (fun m ss e _ _ iha ihb c => bump m (mCondR G cf call rnd ss e iha ihb c)) (fun m ss c tm ds H rc => fbE (bump m (sesK G cf call ss (fun tm ds H rc => .ok .normal tm ds H rc)) tm ds H rc) (oldR G cf call rnd n c tm ds H rc)) cc
end
/-! ### the check -/
def memB (t : Nat) (l : List Nat) : Bool := match l with
  | [] => false
  | u :: l => Nat.beq t u || memB t l
def ssaF (l : List Oper) (seen : List Nat) : Bool := match l with
  | [] => true
  | o :: l => match o.dst with
    | none => ssaF l seen
    | some t => !memB t seen && ssaF l (t :: seen)
def isPuts (ss : List Sg) : Bool := match ss with
  | [] => true
  | .put _ _ _ :: ss => isPuts ss
  | _ => false
def keptAll (V : Kp) (ops : List Oper) : Bool := ops.all (fun o => match o.dst with | some t => V.has t | none => true)
noncomputable def chkC (G : Program) (V : Kp) (cc : CC) (c : Code) : Bool := match cc, c with
  | .skip, .skip => true
  | .reg ss, .region _ ops draw => !draw && ssaF ops.toList [] && (match matSs G V ss 0 ops.toList with | some (_, []) => true | _ => false)
  | .seq a b, .seq x y => chkC G V a x && chkC G V b y
  | .cond e a b, .cond c x y => (match mat V e false none 0 [] with | some (r, _, []) => r.is c | _ => false) && (chkC G V a x && chkC G V b y)
  | .condR ss e a b, .seq (.region _ ops draw) (.cond c x y) => !draw && ssaF ops.toList [] && (match matSs G V ss 0 ops.toList with
    | some (i, l) => (match mat V e false none i l with | some (r, _, []) => r.is c | _ => false)
    | none => false) && (chkC G V a x && chkC G V b y)
  | .block id c, .block id' x => Nat.beq id id' && chkC G V c x
  | .loop c, .loop x => chkC G V c x
  | .exit id, .exit id' => Nat.beq id id'
  | .ret, .ret => true
  | .old, .region _ ops _ => keptAll V ops.toList
  | .oldD as, .region _ ops draw => draw && natsBeq as (ancs ops.toList []) && regStatic ops.toList (ancs ops.toList []) && keptAll V ops.toList
  | .regD m ss, .region _ ops draw => draw && Nat.beq m ops.toList.length && isPuts ss && regStatic ops.toList (ancs ops.toList []) && ssaF ops.toList [] && (match matSs G V ss 0 ops.toList with | some (_, []) => true | _ => false)
  | .regE m ss, .region _ ops draw => draw && Nat.beq m ops.toList.length && ordB (ancs ops.toList []) ops.toList 0 && regStatic ops.toList (ancs ops.toList []) && ssaF ops.toList [] && (match matSs G V ss 0 ops.toList with | some (_, []) => true | _ => false)
  | .condD m ss e a b, .seq (.region _ ops draw) (.cond c x y) => draw && Nat.beq m ops.toList.length && isPuts ss && regStatic ops.toList (ancs ops.toList []) && ssaF ops.toList [] && (match matSs G V ss 0 ops.toList with
    | some (i, l) => (match mat V e false none i l with | some (r, _, []) => r.is c | _ => false)
    | none => false) && (chkC G V a x && chkC G V b y)
  | _, _ => false
section
variable {G : Program} {W0 : World} {cf : Cf} {V : Kp} {call : CallF} {rnd : RndF}
theorem memB_iff {t : Nat} : ∀ {l : List Nat}, memB t l = true ↔ t ∈ l
  | [] => by simp [memB]
  | u :: l => by
    simp only [memB, Bool.or_eq_true, List.mem_cons, memB_iff (l := l)]
    constructor
    · rintro (h | h)
      · exact .inl (Nat.eq_of_beq_eq_true h)
      · exact .inr h
    · rintro (h | h)
      · exact .inl (by subst h; exact Nat.beq_refl _)
      · exact .inr h
theorem ssaF_ok : ∀ {l : List Oper} {seen : List Nat}, ssaF l seen = true → (∀ j t, dstAt l j = some t → t ∉ seen) ∧ SSA l
  | [], seen, _ => ⟨fun j t h => by simp [dstAt] at h, fun j j' t h => by simp [dstAt] at h⟩
  | o :: l, seen, h => by
    unfold ssaF at h
    have d0 : dstAt (o :: l) 0 = o.dst := by simp [dstAt]
    have ds : ∀ j, dstAt (o :: l) (j + 1) = dstAt l j := fun j => by simp [dstAt]
    split at h
    · rename_i hd
      obtain ⟨h1, h2⟩ := ssaF_ok h
      refine ⟨fun j t e => ?_, fun j j' t e e' => ?_⟩
      · cases j with
        | zero => rw [d0, hd] at e; cases e
        | succ j => rw [ds] at e; exact h1 j t e
      · cases j with
        | zero => rw [d0, hd] at e; cases e
        | succ j => cases j' with
          | zero => rw [d0, hd] at e'; cases e'
          | succ j' => rw [ds] at e e'; rw [h2 j j' t e e']
    · rename_i u hd
      simp only [Bool.and_eq_true, Bool.not_eq_true'] at h
      obtain ⟨h1, h2⟩ := ssaF_ok h.2
      have hu : u ∉ seen := fun hm => by rw [memB_iff.2 hm] at h; exact absurd h.1 (by simp)
      refine ⟨fun j t e => ?_, fun j j' t e e' => ?_⟩
      · cases j with
        | zero => rw [d0, hd] at e; cases e; exact hu
        | succ j => rw [ds] at e; exact fun hm => h1 j t e (List.mem_cons_of_mem _ hm)
      · cases j with
        | zero => cases j' with
          | zero => rfl
          | succ j' =>
            rw [d0, hd] at e; cases e
            rw [ds] at e'
            exact absurd (List.mem_cons_self ..) (h1 j' _ e')
        | succ j => cases j' with
          | zero =>
            rw [d0, hd] at e'; cases e'
            rw [ds] at e
            exact absurd (List.mem_cons_self ..) (h1 j _ e)
          | succ j' => rw [ds] at e e'; rw [h2 j j' t e e']
theorem nxK_eq {R : Type} (K : P → R) : ∀ (ops : List Oper) (p : P), nxK ops.length K p = K (nxF ops p)
  | [], p => rfl
  | o :: ops, p => by
    show P.nextK p (nxK ops.length K) = K (nxF ops (P.next p))
    rw [P.nextK_eq, nxK_eq K ops]
/-! ### an order that is open: nothing but readings -/
def RdOnly (rl : List TE) : Prop := ∀ te ∈ rl, te = .skip ∨ ∃ tm v, te = .rd tm v
theorem traceK_cons {K : TrS → PT AV → Hp → Option AV → CR} {bad : Nat → CR} {n : Nat} {ops : List Oper} {as : List Nat} (o : Oper) (rest : List Oper) (i : Nat) (names : List P) (tm : PT AV) (H : Hp) (rl : List TE) (hs : List Hp) :
    traceK G cf call n ops as K bad (o :: rest) i names tm H ⟨rl, hs, [], []⟩ = (match wantF ops o tm with
      | none => bad 60
      | some false => putT n o.dst tm (.tup []) (fun r => match r with | some tm => traceK G cf call n ops as K bad rest (Nat.succ i) names.tail tm H ⟨.skip :: rl, hs, [], []⟩ | none => bad 61)
      | some true =>
        let wrote := fun (v : AV) (H' : Hp) => match chained (gD as i) [] with
          | true => putT n o.dst tm v (fun r => match r with | some tm => traceK G cf call n ops as K bad rest (Nat.succ i) names.tail tm H' ⟨.wr v :: rl, H' :: hs, [i], []⟩ | none => bad 61)
          | false => bad 70
        match opF G cf (evR tm o) ⟨H.nx, H.tab⟩ o with
        | .rd v => putT n o.dst tm v (fun r => match r with | some tm' => traceK G cf call n ops as K bad rest (Nat.succ i) names.tail tm' H ⟨.rd tm v :: rl, hs, [], []⟩ | none => bad 61)
        | .al ob mk => match isAl o.op, names with
          | true, l :: _ => putT n o.dst tm (mk l) (fun r => match r with | some tm => traceK G cf call n ops as K bad rest (Nat.succ i) names.tail tm H ⟨.al l ob (mk l) :: rl, hs, [], [(i, l, ob)]⟩ | none => bad 61)
          | _, _ => bad 71
        | .wv v H' => wrote v H'
        | .wu H' => wrote (.tup []) H'
        | .call f args => match call f args ⟨H.nx, H.tab⟩ with
          | .ret v H' => wrote v H'
          | .pan v H' => match chained (gD as i) [], allBehind as i rest (Nat.succ i) with
            | true, true => K ⟨rl, hs, [], []⟩ tm H' (some v)
            | _, _ => bad 73
          | .err k => bad k
        | .err k => bad k
        | _ => bad 75) := rfl
theorem prun_trace {K : TrS → PT AV → Hp → Option AV → CR} {bad : Nat → CR} {n : Nat} {ops : List Oper} {as : List Nat} {H : Hp} {hs : List Hp} {l l' : List Oper} {tm tm' : PT AV} (h : PRun G cf n ops H l tm l' tm') (hl : l' = []) : ∀ (i : Nat) (names : List P) (rl : List TE), RdOnly rl →
    ∃ rl', RdOnly rl' ∧ rl'.length = rl.length + l.length ∧ traceK G cf call n ops as K bad l i names tm H ⟨rl, hs, [], []⟩ = K ⟨rl', hs, [], []⟩ tm' H none := by
  induction h with
  | refl l tm =>
    intro i names rl hr
    subst hl
    exact ⟨rl, hr, rfl, rfl⟩
  | rd hw hop hd hn _ ih =>
    rename_i o l l' tm tm' v t _
    intro i names rl hr
    have hop' : opK G cf o (evR tm o) H = .rd v := (opK_congr (fun x hx => evR_on hx)).trans hop
    obtain ⟨rl', h1, h2, h3⟩ := ih hl (Nat.succ i) names.tail (.rd tm v :: rl) (fun te ht => by
      rcases List.mem_cons.1 ht with rfl | ht
      · exact .inr ⟨_, _, rfl⟩
      · exact hr te ht)
    refine ⟨rl', h1, by simp only [List.length_cons] at h2 ⊢; omega, ?_⟩
    rw [← h3]
    rw [traceK_cons, wantF_eq, hw]
    have hop2 : opF G cf (evR tm o) ⟨H.nx, H.tab⟩ o = .rd v := (opF_eq _ _ _ _ _).trans hop'
    simp only [hop2, hd]
    rw [putT_lt hn]
  | skip hw hd hn _ ih =>
    rename_i o l l' tm tm' t _
    intro i names rl hr
    obtain ⟨rl', h1, h2, h3⟩ := ih hl (Nat.succ i) names.tail (.skip :: rl) (fun te ht => by
      rcases List.mem_cons.1 ht with rfl | ht
      · exact .inl rfl
      · exact hr te ht)
    refine ⟨rl', h1, by simp only [List.length_cons] at h2 ⊢; omega, ?_⟩
    rw [← h3]
    rw [traceK_cons, wantF_eq, hw]
    simp only [hd]
    rw [putT_lt hn]
theorem tesOk_rd {ops : List Oper} {as : List Nat} {s : Sn} : ∀ {rl : List TE}, RdOnly rl → rl.length ≤ ops.length → tesOk G cf ops as [] [s] rl = true
  | [], _, _ => rfl
  | te :: rl, hr, hl => by
    have ih := tesOk_rd (s := s) (as := as) (fun te ht => hr te (List.mem_cons_of_mem _ ht)) (by simp at hl; omega) (rl := rl) (ops := ops)
    show (match nthL ops (lenL rl) with
      | some o => (match teOk G cf as [] [s] (lenL rl) o te with
        | true => tesOk G cf ops as [] [s] rl
        | false => false)
      | none => false) = true
    have : ∃ o, nthL ops (lenL rl) = some o := by
      rw [nthL_eq, lenL_eq]
      exact ⟨_, List.getElem?_eq_getElem (by simp at hl; omega)⟩
    obtain ⟨o, ho⟩ := this
    rw [ho]
    have hte : teOk G cf as [] [s] (lenL rl) o te = true := by
      rcases hr te (List.mem_cons_self ..) with rfl | ⟨tm, v, rfl⟩ <;> rfl
    simp only [hte, ih]
theorem prun_draw {n : Nat} {ops : List Oper} {as : List Nat} {tm tm' : PT AV} {ds : List AD} {H : Hp} {rc : RC} (h : PRun G cf n ops ⟨nxF ops H.nx, H.tab⟩ ops tm [] tm') : drawK G cf call n ops as tm ds H rc = .ok .normal tm' ds ⟨nxF ops H.nx, H.tab⟩ rc := by
  unfold drawK
  rw [resvK_eq]
  obtain ⟨rl', h1, h2, h3⟩ := prun_trace (call := call) (as := as) (hs := [⟨nxF ops H.nx, H.tab⟩]) (bad := fun k => .err k) (K := fun s tm H pan => match okT (ordB as ops 0) (tesOk G cf ops as s.xs (snaps s.wl s.hs none) s.rl) with
    | false => .err 77
    | true => match pan with
      | none => layAll as s.wl s.xs H.tab (fun t => .ok .normal tm ds ⟨H.nx, t⟩ rc)
      | some v => eraseD ops tm (fun tm => .ok (.pan v) tm ds H rc)) h rfl 0 (namesF ops H.nx) [] (fun te ht => by cases ht)
  have ht : tesOk G cf ops as [] [⟨⟨nxF ops H.nx, H.tab⟩, [], none⟩] rl' = true := tesOk_rd h1 (by simp at h2; omega)
  obtain ⟨rl2, g1, g2, g3⟩ := prun_trace (call := call) (as := as) (hs := [⟨nxF ops H.nx, H.tab⟩]) (bad := fun k => .err k) (K := fun s tm1 H pan => match okT (ordB as ops 0) (tesOk G cf ops as s.xs (snaps s.wl s.hs none) s.rl) with
    | false => .err 77
    | true => match pan with
      | none => layAll as s.wl s.xs H.tab (fun t => .ok .normal tm1 ds ⟨H.nx, t⟩ rc)
      | some v => eraseD ops tm (fun tm => .ok (.pan v) tm ds H rc)) h rfl 0 (namesF ops H.nx) [] (fun te ht => by cases ht)
  have gt : tesOk G cf ops as [] [⟨⟨nxF ops H.nx, H.tab⟩, [], none⟩] rl2 = true := tesOk_rd g1 (by simp at g2; omega)
  refine g3.trans ?_
  show (match okT (ordB as ops 0) (tesOk G cf ops as [] [⟨⟨nxF ops H.nx, H.tab⟩, [], none⟩] rl2) with
    | false => CR.err 77
    | true => layAll as [] [] H.tab (fun t => .ok .normal tm' ds ⟨nxF ops H.nx, t⟩ rc)) = _
  rw [gt, okT_right]
  rfl
theorem puts_ok {ops : List Oper} (hs : SSA ops) {F : IH} {ds : List AD} {H : Hp} {rc : RC} : ∀ (ss : List Sg) {i i' : Nat} {l l' : List Oper} {tm tmO : PT AV}, isPuts ss = true → matSs G V ss i l = some (i', l') → ops.drop i = l → Sub V tm tmO → Keys V tm →
    ops.drop i' = l' ∧ ((∃ k, sgsK G cf call rnd ss F tm ds H rc = .err k) ∨ ∃ tm' tmO', sgsK G cf call rnd ss F tm ds H rc = F tm' ds H rc ∧ PRun G cf V.n ops H l tmO l' tmO' ∧ Sub V tm' tmO' ∧ Keys V tm') := by
  intro ss
  induction ss with
  | nil =>
    intro i i' l l' tm tmO _ h hd hsub hk
    cases h
    exact ⟨hd, .inr ⟨tm, tmO, rfl, .refl _ _, hsub, hk⟩⟩
  | cons s ss ih =>
    intro i i' l l' tm tmO hp h hd hsub hk
    cases s with
    | eff d k a => cases hp
    | put t p e =>
      unfold matSs at h
      split at h
      · rename_i i1 l1 h1
        obtain ⟨d1, o1⟩ := put_ok (G := G) (cf := cf) (call := call) (rnd := rnd) (ds := ds) (H := H) (rc := rc) (F := sgsK G cf call rnd ss F) hs h1 hd hsub hk
        change ops.drop i' = l' ∧ ((∃ k, sgK G cf call rnd (.put t p e) (sgsK G cf call rnd ss F) tm ds H rc = .err k) ∨ ∃ tm' tmO', sgK G cf call rnd (.put t p e) (sgsK G cf call rnd ss F) tm ds H rc = F tm' ds H rc ∧ _)
        rcases o1 with ⟨k, e1⟩ | ⟨tm1, tmO1, e1, p1, s1, k1⟩
        · have := (ih (tm := .e) (tmO := .e) hp h d1 (fun _ _ _ e => by rw [PT.get_e] at e; cases e) (fun _ _ e => by rw [PT.get_e] at e; cases e)).1
          exact ⟨this, .inl ⟨k, e1⟩⟩
        · obtain ⟨d2, o2⟩ := ih hp h d1 s1 k1
          refine ⟨d2, ?_⟩
          rcases o2 with ⟨k, e2⟩ | ⟨tm2, tmO2, e2, p2, s2, k2⟩
          · exact .inl ⟨k, e1.trans e2⟩
          · exact .inr ⟨tm2, tmO2, e1.trans e2, p1.trans p2, s2, k2⟩
      · cases h
theorem Sub.refl (tm : PT AV) : Sub V tm tm := fun _ _ _ h => h
theorem St.sub {n : Nat} {b : Frame} {tm tmO : PT AV} {ds : List AD} {H : Hp} {rc : RC} {E : Env} {w : World} {arr : Array Value} {dv : List Deferred} {cs : List Frame} (h : St G W0 n b tmO ds H rc E w arr dv cs) (hs : Sub V tm tmO) (hk : Keys V tm) : St G W0 n b tm ds H rc E w arr dv cs :=
  ⟨h.hr, h.sz, fun i v e => h.tr i v (hs i v (by have := hk _ _ e; rwa [P.toNat_of] at this) e), h.ds, h.rc⟩
theorem putF_keys {n : Nat} {d : Option Nat} {tm tm' : PT AV} {v : AV} (h : putF n d tm v = some tm') (hk : Keys V tm) (hd : ∀ t, d = some t → V.has t = true) : Keys V tm' := by
  unfold putF at h
  cases d with
  | none => cases h; exact hk
  | some t =>
    simp only at h
    split at h
    · cases h; exact hk.put (by rw [P.toNat_of]; exact hd t rfl) v
    · cases h
theorem putT_keys {n : Nat} {d : Option Nat} {tm : PT AV} {v : AV} {F : PT AV → CR} {ex : Ex} {tm' : PT AV} {ds' : List AD} {H' : Hp} {rc' : RC} (hk : Keys V tm) (hd : ∀ t, d = some t → V.has t = true) (hF : ∀ tm1, Keys V tm1 → F tm1 = .ok ex tm' ds' H' rc' → Keys V tm')
    (h : putT n d tm v (fun r => match r with | some tm => F tm | none => .err 61) = .ok ex tm' ds' H' rc') : Keys V tm' := by
  rw [putT_eq] at h
  cases hp : putF n d tm v with
  | none => rw [hp] at h; cases h
  | some tm1 => rw [hp] at h; exact hF tm1 (putF_keys hp hk hd) h
theorem regK_keys {n : Nat} {ops : List Oper} : ∀ (rest : List Oper) {tm : PT AV} {ds : List AD} {H : Hp} {rc : RC} {ex : Ex} {tm' : PT AV} {ds' : List AD} {H' : Hp} {rc' : RC}, (∀ o ∈ rest, ∀ t, o.dst = some t → V.has t = true) → Keys V tm → regK G cf call rnd n ops rest tm ds H rc = .ok ex tm' ds' H' rc' → Keys V tm' := by
  intro rest
  induction rest with
  | nil => intro tm ds H rc ex tm' ds' H' rc' _ hk h; cases h; exact hk
  | cons o rest ih =>
    intro tm ds H rc ex tm' ds' H' rc' hd hk h
    have hd' : ∀ o ∈ rest, ∀ t, o.dst = some t → V.has t = true := fun o ho => hd o (List.mem_cons_of_mem _ ho)
    have ho := hd o (List.mem_cons_self ..)
    have step : ∀ {ds1 H1 rc1} {v : AV}, putT n o.dst tm v (fun r => match r with | some tm => regK G cf call rnd n ops rest tm ds1 H1 rc1 | none => .err 61) = .ok ex tm' ds' H' rc' → Keys V tm' :=
      fun h => putT_keys hk ho (fun tm1 k1 e => ih hd' k1 e) h
    rw [regK_cons] at h
    split at h
    · cases h
    · exact step h
    · split at h
      · exact step h
      · rw [P.nextK_eq, PT.putK_eq] at h; exact step h
      · exact step h
      · exact step h
      · split at h
        · exact step h
        · cases h; exact hk
        · cases h
      · split at h
        · cases h
        · exact step h
      · split at h
        · cases h
        · exact step h
        · exact step h
      · cases h; exact hk
      · exact step h
      · split at h
        · exact step h
        · cases h; exact hk
        · cases h
      · cases h
theorem drawK_keys {n : Nat} {ops : List Oper} {as : List Nat} {tm : PT AV} {ds : List AD} {H : Hp} {rc : RC} {ex : Ex} {tm' : PT AV} {ds' : List AD} {H' : Hp} {rc' : RC} (hd : ∀ o ∈ ops, ∀ t, o.dst = some t → V.has t = true) (hk : Keys V tm)
    (h : drawK G cf call n ops as tm ds H rc = .ok ex tm' ds' H' rc') : Keys V tm' := by
  revert h
  unfold drawK
  rw [resvK_eq]
  refine traceK_ok (Φ := fun r => r = .ok ex tm' ds' H' rc' → Keys V tm') (fun k h => by cases h) ?_ ops ⟨⟨[], [⟨nxF ops H.nx, H.tab⟩], [], []⟩, tm, ⟨nxF ops H.nx, H.tab⟩⟩ .nil rfl
  intro s tm1 H1 pan hE
  have key : ∀ {q : Tq}, Tr G cf call n ops as (namesF ops H.nx) tm ⟨nxF ops H.nx, H.tab⟩ q → Keys V q.tm := by
    intro q hq p v e
    have e' : PT.get (P.of p.toNat) q.tm = some v := by rw [P.of_toNat]; exact e
    rcases hq.facts.src p.toNat v e' with ⟨j, o, te, _, h2, h3, _, _⟩ | ⟨_, h2⟩
    · exact hd o (List.mem_of_getElem? h2) _ h3
    · rw [P.of_toNat] at h2; exact hk p v h2
  split
  · intro h; cases h
  · cases hE with
    | none hq hl =>
      simp only
      rw [layAll_eq]
      intro h; cases h
      exact key hq
    | some hq ho hw hc hop hcl hb =>
      simp only
      rw [eraseD_eq]
      intro h; cases h
      intro p v e
      have e' : PT.get (P.of p.toNat) _ = some v := (P.of_toNat p).symm ▸ e
      exact hk p v (by have := (eraF_get e').2; rwa [P.of_toNat] at this)
theorem drawK_pan {n : Nat} {ops : List Oper} {as : List Nat} {tm : PT AV} {ds : List AD} {H : Hp} {rc : RC} {v : AV} {tm' : PT AV} {ds' : List AD} {H' : Hp} {rc' : RC} (hk : Keys V tm)
    (h : drawK G cf call n ops as tm ds H rc = .ok (.pan v) tm' ds' H' rc') : Keys V tm' := by
  revert h
  unfold drawK
  rw [resvK_eq]
  refine traceK_ok (Φ := fun r => r = .ok (.pan v) tm' ds' H' rc' → Keys V tm') (fun k h => by cases h) ?_ ops ⟨⟨[], [⟨nxF ops H.nx, H.tab⟩], [], []⟩, tm, ⟨nxF ops H.nx, H.tab⟩⟩ .nil rfl
  intro s tm1 H1 pan hE
  split
  · intro h; cases h
  · cases hE with
    | none hq hl =>
      simp only
      rw [layAll_eq]
      intro h; cases h
    | some hq ho hw hc hop hcl hb =>
      simp only
      rw [eraseD_eq]
      intro h; cases h
      intro p v e
      have e' : PT.get (P.of p.toNat) _ = some v := (P.of_toNat p).symm ▸ e
      exact hk p v (by have := (eraF_get e').2; rwa [P.of_toNat] at this)
theorem fbE_cases {k : Nat} {s : CR} : (∃ e, fbE (.err k) s = .err e) ∨ ∃ v tm ds H rc, s = .ok (.pan v) tm ds H rc ∧ fbE (.err k) s = .ok (.pan v) tm ds H rc := by
  unfold fbE
  simp only
  split
  · split
    · exact .inr ⟨_, _, _, _, _, rfl, rfl⟩
    · exact .inl ⟨_, rfl⟩
  · exact .inl ⟨_, rfl⟩
theorem all_dst {ops : List Oper} (h : keptAll V ops = true) : ∀ o ∈ ops, ∀ t, o.dst = some t → V.has t = true := by
  intro o ho t e
  have := List.all_eq_true.1 h o ho
  rw [e] at this
  exact this
theorem oldR_keys {n : Nat} {c : Code} {tm : PT AV} {ds : List AD} {H : Hp} {rc : RC} {ex : Ex} {tm' : PT AV} {ds' : List AD} {H' : Hp} {rc' : RC} (hc : chkC G V .old c = true) (hk : Keys V tm) (h : oldR G cf call rnd n c tm ds H rc = .ok ex tm' ds' H' rc') : Keys V tm' := by
  unfold oldR at h
  split at h
  · rename_i id ops draw
    have hd := all_dst (show keptAll V ops.toList = true from hc)
    unfold regionK at h
    split at h
    · exact regK_keys _ hd hk h
    · split at h
      · exact drawK_keys hd hk h
      · cases h
  · cases h
end
end Go.Ai
