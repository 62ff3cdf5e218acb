/- An order that is open, in which what reads and what writes stands in an order: done in the row of its text. -/
import Derived.Test.YtfedjkcigdgcoaaGreatDoorAiZb
namespace Go.Ai
open Go Go.RowKit
set_option linter.unusedVariables false
section
variable {G : Program} {cf : Cf} {call : CallF}
theorem mapO_congr {α β : Type} {f g : α → Option β} : ∀ {l : List α}, (∀ x ∈ l, f x = g x) → mapO f l = mapO g l
  | [], _ => rfl
  | x :: l, h => by
    show (Option.casesOn (f x) none (fun b => Option.casesOn (mapO f l) none (fun bs => some (b :: bs))) : Option (List β)) = (Option.casesOn (g x) none (fun b => Option.casesOn (mapO g l) none (fun bs => some (b :: bs))) : Option (List β))
    rw [h x (List.mem_cons_self ..), mapO_congr (fun y hy => h y (List.mem_cons_of_mem _ hy))]
theorem parts_congr {f g : Operand → Option AV} {l : List (Nat × Operand)} (h : ∀ x ∈ l.map (·.2), f x = g x) : partsO f l = partsO g l :=
  mapO_congr (fun p hp => by rw [h p.2 (List.mem_map_of_mem hp)])
theorem opK_congr {o : Oper} {f g : Operand → Option AV} {H : Hp} (h : ∀ x ∈ o.op.operands.toList, f x = g x) : opK G cf o f H = opK G cf o g H := by
  unfold opK
  cases ho : o.op <;> rw [ho] at h <;> (try simp only) <;> (try exact rfl)
  case move x => rw [h x (by simp [Op.operands])]
  case assign x => rw [h x (by simp [Op.operands])]
  case pick c a b => rw [h c (by simp [Op.operands]), h a (by simp [Op.operands]), h b (by simp [Op.operands])]
  case box t x => rw [h x (by simp [Op.operands])]
  case build t ps => rw [parts_congr (fun x hx => h x (by simpa [Op.operands] using hx))]
  case buildSlice t n ps => rw [parts_congr (fun x hx => h x (by simpa [Op.operands] using hx))]
  case load t a => rw [h a (by simp [Op.operands])]
  case store t a x => rw [h a (by simp [Op.operands]), h x (by simp [Op.operands])]
  case nilCheck x => rw [h x (by simp [Op.operands])]
  case binOp op t x y u => rw [h x (by simp [Op.operands]), h y (by simp [Op.operands])]
  case unOp op t x => rw [h x (by simp [Op.operands])]
  case convert s d x => rw [h x (by simp [Op.operands])]
  case makeInterface t x => rw [h x (by simp [Op.operands])]
  case makeFunc fn a b =>
    cases fn <;> try exact rfl
    case func f' =>
      simp only
      rw [mapO_congr (fun x hx => h x (by simp [Op.operands]; exact .inl (by simpa using hx))), mapO_congr (l := b.toList) (fun x hx => h x (by simp [Op.operands]; exact .inr (by simpa using hx)))]
  case makeSlice t l c => rw [h l (by simp [Op.operands]), h c (by simp [Op.operands])]
  case slice t x lo hi mx =>
    have hl : evOpt f lo = evOpt g lo := by
      cases lo with
      | none => rfl
      | some y => simp only [evOpt]; rw [h y (by cases hi <;> cases mx <;> simp [Op.operands])]
    have hh : evOpt f hi = evOpt g hi := by
      cases hi with
      | none => rfl
      | some y => simp only [evOpt]; rw [h y (by cases lo <;> cases mx <;> simp [Op.operands])]
    cases mx with
    | none => simp only; rw [h x (by cases lo <;> cases hi <;> simp [Op.operands]), hl, hh]
    | some m => simp only; rw [h x (by cases lo <;> cases hi <;> simp [Op.operands]), hl, hh, h m (by cases lo <;> cases hi <;> simp [Op.operands])]
  case fieldAddr s x i => rw [h x (by simp [Op.operands])]
  case field s x i => rw [h x (by simp [Op.operands])]
  case indexAddr t x i => rw [h x (by simp [Op.operands]), h i (by simp [Op.operands])]
  case index t x i => rw [h x (by simp [Op.operands]), h i (by simp [Op.operands])]
  case lookup t x k ok => rw [h x (by simp [Op.operands]), h k (by simp [Op.operands])]
  case mapUpdate t m k x => rw [h m (by simp [Op.operands]), h k (by simp [Op.operands]), h x (by simp [Op.operands])]
  case insert t m k x => rw [h m (by simp [Op.operands]), h k (by simp [Op.operands]), h x (by simp [Op.operands])]
  case range t x => rw [h x (by simp [Op.operands])]
  case next x b => rw [h x (by simp [Op.operands])]
  case entry x => rw [h x (by simp [Op.operands])]
  case typeAssert x a b ok => rw [h x (by simp [Op.operands])]
  case extract t i => rw [h t (by simp [Op.operands])]
  case panic x => rw [h x (by simp [Op.operands])]
  case makeChan t n => rw [h n (by simp [Op.operands])]
  case select cs bl =>
    cases bl with
    | true => rfl
    | false =>
      show selK G cs.toList f H = selK G cs.toList g H
      unfold selK
      cases hcs : cs.toList with
      | nil => rfl
      | cons s rest =>
        cases rest with
        | cons s2 rest => rfl
        | nil =>
          have hx := h s.chan (by
            have : cs = #[s] := by apply Array.ext'; simpa using hcs
            subst this
            simp [Op.operands])
          simp only [hx]
  case makeMap t r => cases r <;> rfl
  case call c =>
    unfold callK
    have ha : mapO f c.args.toList = mapO g c.args.toList := mapO_congr (fun x hx => h x (by simp [Op.operands, Call.operands]; exact .inr (by simpa using hx)))
    rw [ha]
    cases hc : c.callee with
    | value x =>
      have hx := h x (by simp [Op.operands, Call.operands, hc])
      simp only [hx]
    | _ => rfl
  case defer c =>
    have ha : mapO f c.args.toList = mapO g c.args.toList := mapO_congr (fun x hx => h x (by simp [Op.operands, Call.operands]; exact .inr (by simpa using hx)))
    rw [ha]
    cases mapO g c.args.toList with
    | none => rfl
    | some args =>
      cases hc : c.callee with
      | value x =>
        have hx := h x (by simp [Op.operands, Call.operands, hc])
        simp only [hx]
      | _ => rfl
theorem memN_of {t : Nat} : ∀ {l : List Nat}, t ∈ l → memN t l = true
  | a :: l, h => by
    show (match Nat.beq a t with | true => true | false => memN t l) = true
    split
    · rfl
    · rename_i e
      rcases List.mem_cons.1 h with h | h
      · subst h; rw [Nat.beq_refl] at e; cases e
      · exact memN_of h
theorem opTmps_of {t : Nat} : ∀ {l : List Operand}, Operand.tmp t ∈ l → t ∈ opTmps l
  | .tmp u :: l, h => by
    rcases List.mem_cons.1 h with h | h
    · cases h; exact List.mem_cons_self ..
    · exact List.mem_cons_of_mem _ (opTmps_of h)
  | .const v :: l, h => by
    rcases List.mem_cons.1 h with h | h
    · cases h
    · exact opTmps_of (l := l) h
  | .global v :: l, h => by
    rcases List.mem_cons.1 h with h | h
    · cases h
    · exact opTmps_of (l := l) h
  | .func v :: l, h => by
    rcases List.mem_cons.1 h with h | h
    · cases h
    · exact opTmps_of (l := l) h
theorem evR_on {tm : PT AV} {o : Oper} {x : Operand} (h : x ∈ o.op.operands.toList) : evR tm o x = evO tm x := by
  cases x with
  | tmp t =>
    show (match memN t (opTmps o.op.operands.toList) with | true => PT.get (P.of t) tm | false => none) = PT.get (P.of t) tm
    rw [memN_of (opTmps_of h)]
  | _ => rfl
theorem wr_kind {o : Oper} {tm : PT AV} {H H' : Hp} {v : AV} (h : WrT G cf call o tm H v H') : ¬ kindO o.op ≤ 1 := by
  intro hk
  rcases kind_rd (G := G) (cf := cf) (ev := evO tm) (H := H) hk with ⟨u, e⟩ | ⟨u, e⟩
  · cases h with
    | wv h => rw [e] at h; cases h
    | wu h => rw [e] at h; cases h
    | call h => rw [e] at h; cases h
  · cases h with
    | wv h => rw [e] at h; cases h
    | wu h => rw [e] at h; cases h
    | call h => rw [e] at h; cases h
variable {n : Nat} {ops : List Oper} {as : List Nat} {names : List P} {tm0 : PT AV} {H00 : Hp}
theorem traceK_cons2 {K : TrS → PT AV → Hp → Option AV → CR} {bad : Nat → CR} (o : Oper) (rest : List Oper) (i : Nat) (nm : List P) (tm : PT AV) (H : Hp) (rl : List TE) (hs : List Hp) (wl : List Nat) :
    traceK G cf call n ops as K bad (o :: rest) i nm tm H ⟨rl, hs, wl, []⟩ = (match wantF ops o tm with
      | none => bad 60
      | some false => putT n o.dst tm (.tup []) (fun r => match r with | some tm => traceK G cf call n ops as K bad rest (Nat.succ i) nm.tail tm H ⟨.skip :: rl, hs, wl, []⟩ | none => bad 61)
      | some true =>
        let wrote := fun (v : AV) (H' : Hp) => match chained (gD as i) wl with
          | true => putT n o.dst tm v (fun r => match r with | some tm => traceK G cf call n ops as K bad rest (Nat.succ i) nm.tail tm H' ⟨.wr v :: rl, H' :: hs, i :: wl, []⟩ | none => bad 61)
          | false => bad 70
        match opF G cf (evR tm o) ⟨H.nx, H.tab⟩ o with
        | .rd v => putT n o.dst tm v (fun r => match r with | some tm' => traceK G cf call n ops as K bad rest (Nat.succ i) nm.tail tm' H ⟨.rd tm v :: rl, hs, wl, []⟩ | none => bad 61)
        | .al ob mk => match isAl o.op, nm with
          | true, l :: _ => putT n o.dst tm (mk l) (fun r => match r with | some tm => traceK G cf call n ops as K bad rest (Nat.succ i) nm.tail tm H ⟨.al l ob (mk l) :: rl, hs, wl, [(i, l, ob)]⟩ | none => bad 61)
          | _, _ => bad 71
        | .wv v H' => wrote v H'
        | .wu H' => wrote (.tup []) H'
        | .call f args => match call f args ⟨H.nx, H.tab⟩ with
          | .ret v H' => wrote v H'
          | .pan v H' => match chained (gD as i) wl, allBehind as i rest (Nat.succ i) with
            | true, true => K ⟨rl, hs, wl, []⟩ tm H' (some v)
            | _, _ => bad 73
          | .err k => bad k
        | .err k => bad k
        | _ => bad 75) := rfl
theorem tr_len {q : Tq} (h : Tr G cf call n ops as names tm0 H00 q) : q.s.rl.length ≤ ops.length := by
  cases h with
  | nil => simp
  | cons h ho hs =>
    have := (List.getElem?_eq_some_iff.1 ho).1
    rw [hs.rl]; simp; omega
theorem trun_trace {K : TrS → PT AV → Hp → Option AV → CR} {bad : Nat → CR} (hord : ordB as ops 0 = true) {l l' : List Oper} {tm tm' : PT AV} {H H' : Hp} (h : TRun G cf call n ops l tm H l' tm' H') (hl : l' = []) : ∀ (rl : List TE) (hs : List Hp) (wl : List Nat), Tr G cf call n ops as names tm0 H00 ⟨⟨rl, hs, wl, []⟩, tm, H⟩ → ops.drop rl.length = l →
    ∃ s', s'.xs = [] ∧ ∀ nm, traceK G cf call n ops as K bad l rl.length nm tm H ⟨rl, hs, wl, []⟩ = K s' tm' H' none := by
  have at_ : ∀ {rl : List TE} {o : Oper} {l : List Oper}, ops.drop rl.length = o :: l → ops[rl.length]? = some o ∧ ops.drop (rl.length + 1) = l := fun h => drop_cons h
  induction h with
  | refl l tm H =>
    intro rl hs wl ht hd
    subst hl
    exact ⟨⟨rl, hs, wl, []⟩, rfl, fun nm => rfl⟩
  | rd hw hop hp _ ih =>
    rename_i o l l' tm tm1 tm' H H' v _
    intro rl hs wl ht hd
    obtain ⟨ho, hd'⟩ := at_ hd
    have hop' : opK G cf o (evR tm o) ⟨H.nx, H.tab⟩ = .rd v := (opK_congr (fun x hx => evR_on hx)).trans hop
    obtain ⟨s', h1, h2⟩ := ih hl (.rd tm v :: rl) hs wl (.cons ht ho (.rd (q := ⟨⟨rl, hs, wl, []⟩, tm, H⟩) hw hop' hp)) hd'
    refine ⟨s', h1, fun nm => ?_⟩
    rw [traceK_cons2, wantF_eq, hw]
    have hop2 : opF G cf (evR tm o) ⟨H.nx, H.tab⟩ o = .rd v := (opF_eq _ _ _ _ _).trans hop'
    simp only [hop2]
    rw [putT_eq, hp]
    exact h2 nm.tail
  | skip hw hp _ ih =>
    rename_i o l l' tm tm1 tm' H H' _
    intro rl hs wl ht hd
    obtain ⟨ho, hd'⟩ := at_ hd
    obtain ⟨s', h1, h2⟩ := ih hl (.skip :: rl) hs wl (.cons ht ho (.skip (q := ⟨⟨rl, hs, wl, []⟩, tm, H⟩) hw hp)) hd'
    refine ⟨s', h1, fun nm => ?_⟩
    rw [traceK_cons2, wantF_eq, hw]
    simp only
    rw [putT_eq, hp]
    exact h2 nm.tail
  | wr hw hr hp _ ih =>
    rename_i o l l' tm tm1 tm' H H1 H' v _
    intro rl hs wl ht hd
    obtain ⟨ho, hd'⟩ := at_ hd
    have hk := wr_kind hr
    have hk2 := (ordB_ok hord).1 _ _ ho
    have hc : chained (gD as rl.length) wl = true := by
      cases hwl : wl with
      | nil => rfl
      | cons x xs =>
        obtain ⟨a, o2, b, c⟩ := wl_kind ht hord x (by rw [hwl]; exact List.mem_cons_self)
        exact ord_bit hord a b ho (by omega) (by omega) (.inl c)
    have cong : opK G cf o (evR tm o) ⟨H.nx, H.tab⟩ = opK G cf o (evO tm) H := opK_congr (fun x hx => evR_on hx)
    have hrs : WrS G cf call o (evR tm o) ⟨H.nx, H.tab⟩ v H1 := by
      cases hr with
      | wv h => exact .wv (cong.trans h)
      | wu h => exact .wu (cong.trans h)
      | call h hcl => exact .call (cong.trans h) hcl
    obtain ⟨s', h1, h2⟩ := ih hl (.wr v :: rl) (H1 :: hs) (rl.length :: wl) (.cons ht ho (.wr (q := ⟨⟨rl, hs, wl, []⟩, tm, H⟩) hw hc hrs hp)) hd'
    refine ⟨s', h1, fun nm => ?_⟩
    rw [traceK_cons2, wantF_eq, hw]
    cases hr with
    | wv h =>
      have hop2 : opF G cf (evR tm o) ⟨H.nx, H.tab⟩ o = .wv v H1 := (opF_eq _ _ _ _ _).trans (cong.trans h)
      simp only [hop2, hc]
      rw [putT_eq, hp]
      exact h2 nm.tail
    | wu h =>
      have hop2 : opF G cf (evR tm o) ⟨H.nx, H.tab⟩ o = .wu H1 := (opF_eq _ _ _ _ _).trans (cong.trans h)
      simp only [hop2, hc]
      rw [putT_eq, hp]
      exact h2 nm.tail
    | call h hcl =>
      rename_i f args
      have hop2 : opF G cf (evR tm o) ⟨H.nx, H.tab⟩ o = .call f args := (opF_eq _ _ _ _ _).trans (cong.trans h)
      have hcl2 : call f args ⟨H.nx, H.tab⟩ = .ret v H1 := hcl
      simp only [hop2, hcl2, hc]
      rw [putT_eq, hp]
      exact h2 nm.tail
theorem draw_ord {tm tm' : PT AV} {ds : List AD} {H H' : Hp} {rc : RC} (hord : ordB as ops 0 = true) (h : TRun G cf call n ops ops tm ⟨nxF ops H.nx, H.tab⟩ [] tm' H') : drawK G cf call n ops as tm ds H rc = .ok .normal tm' ds H' rc := by
  unfold drawK
  rw [resvK_eq]
  obtain ⟨s', h1, h2⟩ := trun_trace (as := as) (names := namesF ops H.nx) (tm0 := tm) (H00 := ⟨nxF ops H.nx, H.tab⟩) (bad := fun k => .err k) (K := fun s tm1 H pan => match okT (ordB as ops 0) (tesOk G cf ops as s.xs (snaps s.wl s.hs none) s.rl) with
    | false => .err 77
    | true => match pan with
      | none => layAll as s.wl s.xs H.tab (fun t => .ok .normal tm1 ds ⟨H.nx, t⟩ rc)
      | some v => eraseD ops tm (fun tm => .ok (.pan v) tm ds H rc)) hord h rfl [] [⟨nxF ops H.nx, H.tab⟩] [] .nil rfl
  refine (h2 (namesF ops H.nx)).trans ?_
  simp only [hord, okT_left, h1]
  rfl
end
end Go.Ai
