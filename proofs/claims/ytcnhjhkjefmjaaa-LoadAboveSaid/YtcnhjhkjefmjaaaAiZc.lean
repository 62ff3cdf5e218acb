/- Compiled code: defined; it is what the code is. -/
import Derived.Test.YtcnhjhkjefmjaaaAiZb
namespace Go.Ai
open Go Go.RowKit
set_option linter.unusedVariables false
inductive CC where
  | skip
  | reg (ss : List Sg)
  | seq (a b : CC)
  | cond (e : CE) (a b : CC)
  | condR (ss : List Sg) (e : CE) (a b : CC)
  | block (id : Nat) (c : CC)
  | loop (c : CC)
  | exit (id : Nat)
  | ret
  | old
def fstC (c : Code) : Code := match c with | .seq a _ => a | _ => .skip
def sndC (c : Code) : Code := match c with | .seq _ b => b | _ => .skip
def thnC (c : Code) : Code := match c with | .cond _ a _ => a | _ => .skip
def elsC (c : Code) : Code := match c with | .cond _ _ b => b | _ => .skip
def subC (c : Code) : Code := match c with | .block _ c => c | .loop c => c | _ => .skip
noncomputable def condV (a b : CR) (v : AV) : CR := match v with
  | .bool r => Bool.rec b a r
  | _ => .err 81
noncomputable def loopC (F : IH) (fuel : Nat) : IH := Nat.rec (fun _ _ _ _ => .err 80) (fun _ ih tm ds H rc => thenN ih (F tm ds H rc)) fuel
section
variable (G : Program) (cf : Cf) (call : CallF) (rnd : RndF)
noncomputable def oldR (n : Nat) (c : Code) (tm : PT AV) (ds : List AD) (H : Hp) (rc : RC) : CR := match c with
  | .region _ ops draw => regionK G cf call rnd n ops.toList draw tm ds H rc
  | _ => .err 205
noncomputable def mSeq (iha ihb : Code → IH) (c : Code) (tm : PT AV) (ds : List AD) (H : Hp) (rc : RC) : CR := thenN (ihb (sndC c)) (iha (fstC c) tm ds H rc)
noncomputable def mCond (e : CE) (iha ihb : Code → IH) (c : Code) (tm : PT AV) (ds : List AD) (H : Hp) (rc : RC) : CR := cevK G cf (.err 204) H.tab tm e (condV (iha (thnC c) tm ds H rc) (ihb (elsC c) tm ds H rc))
noncomputable def mReg (ss : List Sg) : IH := sgsK G cf call rnd ss (fun tm ds H rc => .ok .normal tm ds H rc)
noncomputable def mCondR (ss : List Sg) (e : CE) (iha ihb : Code → IH) (c : Code) : IH := sgsK G cf call rnd ss (mCond G cf e iha ihb (sndC c))
noncomputable def mBlock (id : Nat) (ih : Code → IH) (c : Code) (tm : PT AV) (ds : List AD) (H : Hp) (rc : RC) : CR := blockN id (ih (subC c) tm ds H rc)
noncomputable def codeC (n fuel : Nat) (cc : CC) : Code → IH :=
  CC.rec (motive := fun _ => Code → IH) (fun _ tm ds H rc => .ok .normal tm ds H rc) (fun ss _ => mReg G cf call rnd ss) (fun _ _ iha ihb => mSeq iha ihb) (fun e _ _ iha ihb => mCond G cf e iha ihb) (fun ss e _ _ iha ihb => mCondR G cf call rnd ss e iha ihb)
    (fun id _ ih => mBlock id ih) (fun _ ih c => loopC (ih (subC c)) fuel) (fun id _ tm ds H rc => .ok (.exit id) tm ds H rc) (fun _ tm ds H rc => .ok .ret tm ds H rc) (oldR G cf call rnd n) cc
end
/-! ### the check -/
def memB (t : Nat) (l : List Nat) : Bool := match l with
  | [] => false
  | u :: l => Nat.beq t u || memB t l
def ssaF (l : List Oper) (seen : List Nat) : Bool := match l with
  | [] => true
  | o :: l => match o.dst with
    | none => ssaF l seen
    | some t => !memB t seen && ssaF l (t :: seen)
noncomputable def chkC (G : Program) (V : Kp) (cc : CC) (c : Code) : Bool := match cc, c with
  | .skip, .skip => true
  | .reg ss, .region _ ops draw => !draw && ssaF ops.toList [] && (match matSs G V ss 0 ops.toList with | some (_, []) => true | _ => false)
  | .seq a b, .seq x y => chkC G V a x && chkC G V b y
  | .cond e a b, .cond c x y => (match mat V e false none 0 [] with | some (r, _, []) => r.is c | _ => false) && (chkC G V a x && chkC G V b y)
  | .condR ss e a b, .seq (.region _ ops draw) (.cond c x y) => !draw && ssaF ops.toList [] && (match matSs G V ss 0 ops.toList with
    | some (i, l) => (match mat V e false none i l with | some (r, _, []) => r.is c | _ => false)
    | none => false) && (chkC G V a x && chkC G V b y)
  | .block id c, .block id' x => Nat.beq id id' && chkC G V c x
  | .loop c, .loop x => chkC G V c x
  | .exit id, .exit id' => Nat.beq id id'
  | .ret, .ret => true
  | .old, .region _ ops _ => ops.toList.all (fun o => match o.dst with | some t => V.has t | none => true)
  | _, _ => false
section
variable {G : Program} {W0 : World} {cf : Cf} {V : Kp} {call : CallF} {rnd : RndF}
theorem memB_iff {t : Nat} : ∀ {l : List Nat}, memB t l = true ↔ t ∈ l
  | [] => by simp [memB]
  | u :: l => by
    simp only [memB, Bool.or_eq_true, List.mem_cons, memB_iff (l := l)]
    constructor
    · rintro (h | h)
      · exact .inl (Nat.eq_of_beq_eq_true h)
      · exact .inr h
    · rintro (h | h)
      · exact .inl (by subst h; exact Nat.beq_refl _)
      · exact .inr h
theorem ssaF_ok : ∀ {l : List Oper} {seen : List Nat}, ssaF l seen = true → (∀ j t, dstAt l j = some t → t ∉ seen) ∧ SSA l
  | [], seen, _ => ⟨fun j t h => by simp [dstAt] at h, fun j j' t h => by simp [dstAt] at h⟩
  | o :: l, seen, h => by
    unfold ssaF at h
    have d0 : dstAt (o :: l) 0 = o.dst := by simp [dstAt]
    have ds : ∀ j, dstAt (o :: l) (j + 1) = dstAt l j := fun j => by simp [dstAt]
    split at h
    · rename_i hd
      obtain ⟨h1, h2⟩ := ssaF_ok h
      refine ⟨fun j t e => ?_, fun j j' t e e' => ?_⟩
      · cases j with
        | zero => rw [d0, hd] at e; cases e
        | succ j => rw [ds] at e; exact h1 j t e
      · cases j with
        | zero => rw [d0, hd] at e; cases e
        | succ j => cases j' with
          | zero => rw [d0, hd] at e'; cases e'
          | succ j' => rw [ds] at e e'; rw [h2 j j' t e e']
    · rename_i u hd
      simp only [Bool.and_eq_true, Bool.not_eq_true'] at h
      obtain ⟨h1, h2⟩ := ssaF_ok h.2
      have hu : u ∉ seen := fun hm => by rw [memB_iff.2 hm] at h; exact absurd h.1 (by simp)
      refine ⟨fun j t e => ?_, fun j j' t e e' => ?_⟩
      · cases j with
        | zero => rw [d0, hd] at e; cases e; exact hu
        | succ j => rw [ds] at e; exact fun hm => h1 j t e (List.mem_cons_of_mem _ hm)
      · cases j with
        | zero => cases j' with
          | zero => rfl
          | succ j' =>
            rw [d0, hd] at e; cases e
            rw [ds] at e'
            exact absurd (List.mem_cons_self ..) (h1 j' _ e')
        | succ j => cases j' with
          | zero =>
            rw [d0, hd] at e'; cases e'
            rw [ds] at e
            exact absurd (List.mem_cons_self ..) (h1 j _ e)
          | succ j' => rw [ds] at e e'; rw [h2 j j' t e e']
theorem Sub.refl (tm : PT AV) : Sub V tm tm := fun _ _ _ h => h
theorem St.sub {n : Nat} {b : Frame} {tm tmO : PT AV} {ds : List AD} {H : Hp} {rc : RC} {E : Env} {w : World} {arr : Array Value} {dv : List Deferred} {cs : List Frame} (h : St G W0 n b tmO ds H rc E w arr dv cs) (hs : Sub V tm tmO) (hk : Keys V tm) : St G W0 n b tm ds H rc E w arr dv cs :=
  ⟨h.hr, h.sz, fun i v e => h.tr i v (hs i v (by have := hk _ _ e; rwa [P.toNat_of] at this) e), h.ds, h.rc⟩
theorem putF_keys {n : Nat} {d : Option Nat} {tm tm' : PT AV} {v : AV} (h : putF n d tm v = some tm') (hk : Keys V tm) (hd : ∀ t, d = some t → V.has t = true) : Keys V tm' := by
  unfold putF at h
  cases d with
  | none => cases h; exact hk
  | some t =>
    simp only at h
    split at h
    · cases h; exact hk.put (by rw [P.toNat_of]; exact hd t rfl) v
    · cases h
theorem putT_keys {n : Nat} {d : Option Nat} {tm : PT AV} {v : AV} {F : PT AV → CR} {ex : Ex} {tm' : PT AV} {ds' : List AD} {H' : Hp} {rc' : RC} (hk : Keys V tm) (hd : ∀ t, d = some t → V.has t = true) (hF : ∀ tm1, Keys V tm1 → F tm1 = .ok ex tm' ds' H' rc' → Keys V tm')
    (h : putT n d tm v (fun r => match r with | some tm => F tm | none => .err 61) = .ok ex tm' ds' H' rc') : Keys V tm' := by
  rw [putT_eq] at h
  cases hp : putF n d tm v with
  | none => rw [hp] at h; cases h
  | some tm1 => rw [hp] at h; exact hF tm1 (putF_keys hp hk hd) h
theorem regK_keys {n : Nat} {ops : List Oper} : ∀ (rest : List Oper) {tm : PT AV} {ds : List AD} {H : Hp} {rc : RC} {ex : Ex} {tm' : PT AV} {ds' : List AD} {H' : Hp} {rc' : RC}, (∀ o ∈ rest, ∀ t, o.dst = some t → V.has t = true) → Keys V tm → regK G cf call rnd n ops rest tm ds H rc = .ok ex tm' ds' H' rc' → Keys V tm' := by
  intro rest
  induction rest with
  | nil => intro tm ds H rc ex tm' ds' H' rc' _ hk h; cases h; exact hk
  | cons o rest ih =>
    intro tm ds H rc ex tm' ds' H' rc' hd hk h
    have hd' : ∀ o ∈ rest, ∀ t, o.dst = some t → V.has t = true := fun o ho => hd o (List.mem_cons_of_mem _ ho)
    have ho := hd o (List.mem_cons_self ..)
    have step : ∀ {ds1 H1 rc1} {v : AV}, putT n o.dst tm v (fun r => match r with | some tm => regK G cf call rnd n ops rest tm ds1 H1 rc1 | none => .err 61) = .ok ex tm' ds' H' rc' → Keys V tm' :=
      fun h => putT_keys hk ho (fun tm1 k1 e => ih hd' k1 e) h
    rw [regK_cons] at h
    split at h
    · cases h
    · exact step h
    · split at h
      · exact step h
      · rw [P.nextK_eq, PT.putK_eq] at h; exact step h
      · exact step h
      · exact step h
      · split at h
        · exact step h
        · cases h; exact hk
        · cases h
      · split at h
        · cases h
        · exact step h
      · split at h
        · cases h
        · exact step h
        · exact step h
      · cases h; exact hk
      · split at h
        · exact step h
        · cases h; exact hk
        · cases h
      · cases h
theorem drawK_keys {n : Nat} {ops : List Oper} {as : List Nat} {tm : PT AV} {ds : List AD} {H : Hp} {rc : RC} {ex : Ex} {tm' : PT AV} {ds' : List AD} {H' : Hp} {rc' : RC} (hd : ∀ o ∈ ops, ∀ t, o.dst = some t → V.has t = true) (hk : Keys V tm)
    (h : drawK G cf call n ops as tm ds H rc = .ok ex tm' ds' H' rc') : Keys V tm' := by
  revert h
  unfold drawK
  rw [resvK_eq]
  refine traceK_ok (Φ := fun r => r = .ok ex tm' ds' H' rc' → Keys V tm') (fun k h => by cases h) ?_ ops ⟨⟨[], [⟨nxF ops H.nx, H.tab⟩], [], []⟩, tm, ⟨nxF ops H.nx, H.tab⟩⟩ .nil rfl
  intro s tm1 H1 pan hE
  have key : ∀ {q : Tq}, Tr G cf call n ops as (namesF ops H.nx) tm ⟨nxF ops H.nx, H.tab⟩ q → Keys V q.tm := by
    intro q hq p v e
    have e' : PT.get (P.of p.toNat) q.tm = some v := by rw [P.of_toNat]; exact e
    rcases hq.facts.src p.toNat v e' with ⟨j, o, te, _, h2, h3, _, _⟩ | ⟨_, h2⟩
    · exact hd o (List.mem_of_getElem? h2) _ h3
    · rw [P.of_toNat] at h2; exact hk p v h2
  split
  · intro h; cases h
  · cases hE with
    | none hq hl =>
      simp only
      rw [layAll_eq]
      intro h; cases h
      exact key hq
    | some hq ho hw hc hop hcl hb =>
      simp only
      rw [eraseD_eq]
      intro h; cases h
      intro p v e
      have e' : PT.get (P.of p.toNat) _ = some v := (P.of_toNat p).symm ▸ e
      exact hk p v (by have := (eraF_get e').2; rwa [P.of_toNat] at this)
theorem all_dst {ops : List Oper} (h : ops.all (fun o => match o.dst with | some t => V.has t | none => true) = true) : ∀ o ∈ ops, ∀ t, o.dst = some t → V.has t = true := by
  intro o ho t e
  have := List.all_eq_true.1 h o ho
  rw [e] at this
  exact this
theorem oldR_keys {n : Nat} {c : Code} {tm : PT AV} {ds : List AD} {H : Hp} {rc : RC} {ex : Ex} {tm' : PT AV} {ds' : List AD} {H' : Hp} {rc' : RC} (hc : chkC G V .old c = true) (hk : Keys V tm) (h : oldR G cf call rnd n c tm ds H rc = .ok ex tm' ds' H' rc') : Keys V tm' := by
  unfold oldR at h
  split at h
  · rename_i id ops draw
    have hd := all_dst (show ops.toList.all _ = true from hc)
    unfold regionK at h
    split at h
    · exact regK_keys _ hd hk h
    · split at h
      · exact drawK_keys hd hk h
      · cases h
  · cases h
end
end Go.Ai
