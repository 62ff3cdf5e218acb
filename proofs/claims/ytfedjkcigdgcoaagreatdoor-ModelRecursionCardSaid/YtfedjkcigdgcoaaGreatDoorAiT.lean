/- The row of the text, as facts. -/
import Derived.Test.YtfedjkcigdgcoaaGreatDoorAiSo
namespace Go.Ai
open Go Go.RowKit
set_option linter.unusedVariables false
section
variable (G : Program) (cf : Cf) (call : CallF) (n : Nat) (ops : List Oper) (as : List Nat) (names : List P) (tm0 : PT AV) (H00 : Hp)
structure Tq where
  s : TrS
  tm : PT AV
  H : Hp
inductive WrS (o : Oper) (ev : Operand → Option AV) (T : Hp) : AV → Hp → Prop
  | wv {v : AV} {H' : Hp} (h : opK G cf o ev T = .wv v H') : WrS o ev T v H'
  | wu {H' : Hp} (h : opK G cf o ev T = .wu H') : WrS o ev T (.tup []) H'
  | call {f : FuncId} {args : List AV} {v : AV} {H' : Hp} (h : opK G cf o ev T = .call f args) (hc : call f args T = .ret v H') : WrS o ev T v H'
/-- what one operation came to -/
inductive Ts (q : Tq) (o : Oper) : TE → Tq → Prop
  | skip (hw : wantO ops o q.tm = some false) {tm' : PT AV} (hp : putF n o.dst q.tm (.tup []) = some tm') : Ts q o .skip ⟨{ q.s with rl := .skip :: q.s.rl }, tm', q.H⟩
  | rd (hw : wantO ops o q.tm = some true) {v : AV} (hop : opK G cf o (evR q.tm o) ⟨q.H.nx, layF as (gD as q.s.rl.length) q.s.wl q.s.xs q.H.tab⟩ = .rd v) {tm' : PT AV} (hp : putF n o.dst q.tm v = some tm') :
      Ts q o (.rd q.tm v) ⟨{ q.s with rl := .rd q.tm v :: q.s.rl }, tm', q.H⟩
  | al (hw : wantO ops o q.tm = some true) {ob : AObj} {mk : P → AV} {l : P} (hop : opK G cf o (evR q.tm o) ⟨q.H.nx, layF as (gD as q.s.rl.length) q.s.wl q.s.xs q.H.tab⟩ = .al ob mk) (hal : isAl o.op = true) (hl : names[q.s.rl.length]? = some l)
      {tm' : PT AV} (hp : putF n o.dst q.tm (mk l) = some tm') : Ts q o (.al l ob (mk l)) ⟨{ q.s with rl := .al l ob (mk l) :: q.s.rl, xs := (q.s.rl.length, l, ob) :: q.s.xs }, tm', q.H⟩
  | wr (hw : wantO ops o q.tm = some true) (hc : chained (gD as q.s.rl.length) q.s.wl = true) {v : AV} {H' : Hp} (hs : WrS G cf call o (evR q.tm o) ⟨q.H.nx, layF as (gD as q.s.rl.length) q.s.wl q.s.xs q.H.tab⟩ v H')
      {tm' : PT AV} (hp : putF n o.dst q.tm v = some tm') : Ts q o (.wr v) ⟨{ q.s with rl := .wr v :: q.s.rl, hs := H' :: q.s.hs, wl := q.s.rl.length :: q.s.wl }, tm', H'⟩
inductive Tr : Tq → Prop
  | nil : Tr ⟨⟨[], [H00], [], []⟩, tm0, H00⟩
  | cons {q q' : Tq} {o : Oper} {te : TE} (h : Tr q) (ho : ops[q.s.rl.length]? = some o) (hs : Ts G cf call n ops as names q o te q') : Tr q'
inductive TrE : TrS → PT AV → Hp → Option AV → Prop
  | none {q : Tq} (h : Tr G cf call n ops as names tm0 H00 q) (hl : q.s.rl.length = ops.length) : TrE q.s q.tm q.H none
  | some {q : Tq} (h : Tr G cf call n ops as names tm0 H00 q) {o : Oper} (ho : ops[q.s.rl.length]? = some o) (hw : wantO ops o q.tm = some true) (hc : chained (gD as q.s.rl.length) q.s.wl = true) {f : FuncId} {args : List AV} {v : AV} {H' : Hp}
      (hop : opK G cf o (evR q.tm o) ⟨q.H.nx, layF as (gD as q.s.rl.length) q.s.wl q.s.xs q.H.tab⟩ = .call f args) (hcl : call f args ⟨q.H.nx, layF as (gD as q.s.rl.length) q.s.wl q.s.xs q.H.tab⟩ = .pan v H')
      (hb : ∀ j, q.s.rl.length < j → j < ops.length → bit (gD as j) q.s.rl.length = true) : TrE q.s q.tm H' (some v)
end
variable {G : Program} {cf : Cf} {call : CallF} {n : Nat} {ops : List Oper} {as : List Nat} {names : List P} {tm0 : PT AV} {H00 : Hp}
theorem behind_ok (as : List Nat) (i : Nat) : ∀ (rest : List Oper) (j : Nat), allBehind as i rest j = true → ∀ k, j ≤ k → k < j + rest.length → bit (gD as k) i = true
  | [], j, _, k, h1, h2 => by simp at h2; omega
  | o :: rest, j, h, k, h1, h2 => by
    have h' : (match bit (gD as j) i with | true => allBehind as i rest (Nat.succ j) | false => false) = true := h
    cases hb : bit (gD as j) i with
    | false => rw [hb] at h'; cases h'
    | true =>
      rw [hb] at h'
      by_cases hk : k = j
      · subst hk; exact hb
      · exact behind_ok as i rest (j + 1) h' k (by omega) (by simp only [List.length_cons] at h2; omega)
theorem traceK_ok {Φ : CR → Prop} {K : TrS → PT AV → Hp → Option AV → CR} (bad : ∀ k, Φ (.err k)) (done : ∀ s tm H p, TrE G cf call n ops as names tm0 H00 s tm H p → Φ (K s tm H p)) :
    ∀ (rest : List Oper) (q : Tq), Tr G cf call n ops as names tm0 H00 q → ops.drop q.s.rl.length = rest →
      Φ (traceK G cf call n ops as K (fun k => .err k) rest q.s.rl.length (names.drop q.s.rl.length) q.tm q.H q.s) := by
  intro rest
  induction rest with
  | nil =>
    intro q h hd
    have hle : ops.length ≤ q.s.rl.length := List.drop_eq_nil_iff.1 hd
    have hge : q.s.rl.length ≤ ops.length := by
      cases h with
      | nil => simp
      | cons h ho hs =>
        rename_i q0 o te
        have := (List.getElem?_eq_some_iff.1 ho).1
        cases hs <;> simp <;> omega
    exact done _ _ _ _ (.none h (Nat.le_antisymm hge hle))
  | cons o rest ih =>
    intro q h hd
    have ho : ops[q.s.rl.length]? = some o := by
      have := List.getElem?_drop (xs := ops) (i := q.s.rl.length) (j := 0)
      rw [hd] at this
      simpa using this.symm
    have hlt : q.s.rl.length < ops.length := (List.getElem?_eq_some_iff.1 ho).1
    have hd' : ops.drop (q.s.rl.length + 1) = rest := by rw [← List.drop_drop, hd]; rfl
    have hrest : rest.length + (q.s.rl.length + 1) = ops.length := by rw [← hd', List.length_drop]; omega
    have go : ∀ (v : AV) (H : Hp) (s : TrS), s.rl.length = q.s.rl.length + 1 → (∀ tm', putF n o.dst q.tm v = some tm' → ∃ te, Ts G cf call n ops as names q o te ⟨s, tm', H⟩) →
        Φ (putT n o.dst q.tm v (fun r => match r with | some tm => traceK G cf call n ops as K (fun k => .err k) rest (Nat.succ q.s.rl.length) (names.drop q.s.rl.length).tail tm H s | none => .err 61)) := by
      intro v H s hl hs
      rw [putT_eq]
      cases hp : putF n o.dst q.tm v with
      | none => exact bad _
      | some tm' =>
        obtain ⟨te, ht⟩ := hs tm' hp
        have := ih ⟨s, tm', H⟩ (.cons h ho ht) (by simp only; rw [hl]; exact hd')
        simp only [hl] at this
        simp only [List.tail_drop]
        exact this
    change Φ (match wantF ops o q.tm with
      | none => .err 60
      | some false => putT n o.dst q.tm (.tup []) (fun r => match r with | some tm => traceK G cf call n ops as K (fun k => .err k) rest (Nat.succ q.s.rl.length) (names.drop q.s.rl.length).tail tm q.H { q.s with rl := .skip :: q.s.rl } | none => .err 61)
      | some true => layT as (gD as q.s.rl.length) q.s.wl q.s.xs q.H.tab (fun t =>
        let wrote := fun (v : AV) (H' : Hp) => match chained (gD as q.s.rl.length) q.s.wl with
          | true => putT n o.dst q.tm v (fun r => match r with | some tm => traceK G cf call n ops as K (fun k => .err k) rest (Nat.succ q.s.rl.length) (names.drop q.s.rl.length).tail tm H' { q.s with rl := .wr v :: q.s.rl, hs := H' :: q.s.hs, wl := q.s.rl.length :: q.s.wl } | none => .err 61)
          | false => .err 70
        match opF G cf (evR q.tm o) ⟨q.H.nx, t⟩ o with
        | .rd v => putT n o.dst q.tm v (fun r => match r with | some tm => traceK G cf call n ops as K (fun k => .err k) rest (Nat.succ q.s.rl.length) (names.drop q.s.rl.length).tail tm q.H { q.s with rl := .rd q.tm v :: q.s.rl } | none => .err 61)
        | .al ob mk => match isAl o.op, names.drop q.s.rl.length with
          | true, l :: _ => putT n o.dst q.tm (mk l) (fun r => match r with | some tm => traceK G cf call n ops as K (fun k => .err k) rest (Nat.succ q.s.rl.length) (names.drop q.s.rl.length).tail tm q.H { q.s with rl := .al l ob (mk l) :: q.s.rl, xs := (q.s.rl.length, l, ob) :: q.s.xs } | none => .err 61)
          | _, _ => .err 71
        | .wv v H' => wrote v H'
        | .wu H' => wrote (.tup []) H'
        | .call f args => match call f args ⟨q.H.nx, t⟩ with
          | .ret v H' => wrote v H'
          | .pan v H' => match chained (gD as q.s.rl.length) q.s.wl, allBehind as q.s.rl.length rest (Nat.succ q.s.rl.length) with
            | true, true => K q.s q.tm H' (some v)
            | _, _ => .err 73
          | .err k => .err k
        | .err k => .err k
        | _ => .err 75))
    simp only [opF_eq, wantF_eq]
    cases hwant : wantO ops o q.tm with
    | none => exact bad _
    | some bl =>
    cases bl with
    | false => exact go _ _ _ (by simp) (fun tm' hp => ⟨_, .skip hwant hp⟩)
    | true =>
    simp only
    rw [layT_eq]
    have wr : ∀ v H', WrS G cf call o (evR q.tm o) ⟨q.H.nx, layF as (gD as q.s.rl.length) q.s.wl q.s.xs q.H.tab⟩ v H' →
        Φ (match chained (gD as q.s.rl.length) q.s.wl with
          | true => putT n o.dst q.tm v (fun r => match r with | some tm => traceK G cf call n ops as K (fun k => .err k) rest (Nat.succ q.s.rl.length) (names.drop q.s.rl.length).tail tm H' { q.s with rl := .wr v :: q.s.rl, hs := H' :: q.s.hs, wl := q.s.rl.length :: q.s.wl } | none => .err 61)
          | false => .err 70) := by
      intro v H' hs
      split
      · rename_i hc
        exact go _ _ _ (by simp) (fun tm' hp => ⟨_, .wr hwant hc hs hp⟩)
      · exact bad _
    split
    · rename_i v hop
      exact go _ _ _ (by simp) (fun tm' hp => ⟨_, .rd hwant hop hp⟩)
    · rename_i ob mk hop
      split
      · rename_i l ls hal hn
        refine go _ _ _ (by simp) (fun tm' hp => ⟨_, .al hwant hop hal ?_ hp⟩)
        have := List.getElem?_drop (xs := names) (i := q.s.rl.length) (j := 0)
        rw [hn] at this
        simpa using this.symm
      · exact bad _
    · rename_i v H' hop
      exact wr v H' (.wv hop)
    · rename_i H' hop
      exact wr _ H' (.wu hop)
    · rename_i f args hop
      split
      · rename_i v H' hc
        exact wr v H' (.call hop hc)
      · rename_i v H' hc
        split
        · rename_i h1 h2
          exact done _ _ _ _ (.some h ho hwant h1 hop hc (fun j hj1 hj2 => behind_ok as _ rest _ h2 j hj1 (by simp only [Nat.succ_eq_add_one]; omega)))
        · exact bad _
      · exact bad _
    · exact bad _
    · exact bad _
end Go.Ai
