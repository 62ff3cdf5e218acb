/- Regions of open order: one operation in whatever order. -/
import Derived.Test.YtfedjkcigdgcoaaGreatDoorAiU
namespace Go.Ai
open Go Go.RowKit
set_option linter.unusedVariables false
variable {G : Program} {W0 : World} {cf : Cf} {call : CallF} {n : Nat} {opsA : Array Oper} {as : List Nat} {names : List P} {tm0 : PT AV} {H00 : Hp} {q : Tq}
/-- the temporaries, once the operations of S are done -/
def Cur (ops : List Oper) (q : Tq) (tm0 : PT AV) (S : Nat → Prop) (t : Nat) (v : AV) : Prop :=
  (∃ j o te, S j ∧ ops[j]? = some o ∧ o.dst = some t ∧ rec? q j = some te ∧ v = te.val) ∨ ((∀ j o, S j → ops[j]? = some o → o.dst ≠ some t) ∧ PT.get (P.of t) tm0 = some v)
def TmI (ops : List Oper) (q : Tq) (tm0 : PT AV) (n : Nat) (S : Nat → Prop) (E : Env) (arr : Array Value) : Prop :=
  arr.size = n ∧ ∀ t v, Cur ops q tm0 S t v → ∃ x, arr[t]? = some x ∧ VR E v x
structure HI (G : Program) (W0 : World) (as : List Nat) (q : Tq) (E0 : Env) (F0 : P → Option AObj) (nx0 nxr : Nat) (w0 : World) (S : Nat → Prop) (E : Env) (w : World) (X : Hp) (U : P → Option AObj) : Prop where
  mv : Mv G W0 E0 F0 nx0 w0 E U X.nx.toNat w
  base : Base S q.s.wl q.s.hs X
  nxr : nxr ≤ X.nx.toNat
  nm : ∀ x ∈ q.s.xs, ¬ S x.1 → E.ρ x.2.1 = none
  xs : ∀ x ∈ q.s.xs, S x.1 → (∀ w ∈ q.s.wl, S w → bit (gD as w) x.1 = false) → U x.2.1 = some x.2.2
  tab : ∀ l o, PT.get l X.tab = some o → U l = some o
def Sx (S : Nat → Prop) (i : Nat) : Nat → Prop := fun j => S j ∨ j = i
theorem lay_sub {E0 E : Env} {F0 U : P → Option AObj} {nx0 nxr : Nat} {w0 w : World} {S : Nat → Prop} {X : Hp} (hi : HI G W0 as q E0 F0 nx0 nxr w0 S E w X U) {m : Nat} (hm : ∀ x, bit m x = true → S x) {xs : List (Nat × P × AObj)} (hxs : ∀ x ∈ xs, x ∈ q.s.xs) {done : List Nat} (hd : ∀ w ∈ q.s.wl, S w → w ∈ done) :
    ∀ l o, PT.get l (layF as m done xs X.tab) = some o → U l = some o := by
  intro l o h
  rcases layF_get h with ⟨x, hx, h1, h2, rfl, rfl⟩ | h
  · refine hi.xs x (hxs x hx) (hm _ h1) (fun w hw hs => ?_)
    cases hb : bit (gD as w) x.1 with
    | false => rfl
    | true =>
      have := anyBit_iff.2 ⟨w, hd w hw hs, hb⟩
      rw [h2] at this; cases this
  · exact hi.tab l o h
theorem wanted_ok' {E : Env} {ops : Array Oper} {o : Oper} {tm : PT AV} {arr : Array Value} {r : Bool} (ht : ∀ t ∈ looks ops.toList o, ∀ v, PT.get (P.of t) tm = some v → ∃ x, arr[t]? = some x ∧ VR E v x) (h : wantO ops.toList o tm = some r) : Region.wanted o (yielded ops arr) = r := by
  unfold wantO at h
  unfold Region.wanted
  split at h
  · rename_i hg; cases h; rw [hg]
  · rename_i j want hg
    rw [hg]
    simp only
    split at h
    · rename_i oj hj
      rw [nthL_eq] at hj
      have hj' : ops[j]? = some oj := by simpa using hj
      split at h
      · rename_i t hdst
        have hlk : t ∈ looks ops.toList o := by
          simp [looks, hg, hj', hdst]
        split at h
        · rename_i bl hb
          cases h
          obtain ⟨x, hx, hv⟩ := ht t hlk _ hb
          cases hv
          have : yielded ops arr j = some bl := by simp [yielded, hj', hdst, hx]
          rw [this]
          cases bl <;> cases want <;> rfl
        · rename_i l hb
          cases h
          obtain ⟨x, hx, hv⟩ := ht t hlk _ hb
          cases hv
          have : yielded ops arr j = none := by simp [yielded, hj', hdst, hx]
          rw [this]; rfl
        · cases h
      · rename_i hdst
        cases h
        have : yielded ops arr j = none := by simp [yielded, hj', hdst]
        rw [this]; rfl
    · rename_i hj
      cases h
      rw [nthL_eq] at hj
      have hj' : ops[j]? = none := by simpa using hj
      have : yielded ops arr j = none := by simp [yielded, hj']
      rw [this]; rfl
theorem memN_mem {t : Nat} : ∀ {l : List Nat}, memN t l = true → t ∈ l
  | [], h => by cases h
  | a :: l, h => by
    have h' : (match Nat.beq a t with | true => true | false => memN t l) = true := h
    split at h'
    · rename_i e; rw [Nat.eq_of_beq_eq_true e]; exact List.mem_cons_self
    · exact List.mem_cons_of_mem _ (memN_mem h')
theorem evR_ok {E : Env} {ops : List Oper} {o : Oper} {tm : PT AV} {arr : Array Value} {dv : List Deferred} (ht : ∀ t ∈ looks ops o, ∀ v, PT.get (P.of t) tm = some v → ∃ x, arr[t]? = some x ∧ VR E v x) : EvR E (evR tm o) (Act.eval ⟨arr, dv⟩) := by
  have hnil : TR E .e arr := fun i v e => by rw [PT.get_e] at e; cases e
  intro x v e
  cases x with
  | tmp t =>
    have e' : (match memN t (opTmps o.op.operands.toList) with | true => PT.get (P.of t) tm | false => none) = some v := e
    split at e'
    · rename_i hm
      have : t ∈ looks ops o := List.mem_append_right _ (memN_mem hm)
      obtain ⟨y, hy, hv⟩ := ht t this v e'
      have : Act.eval ⟨arr, dv⟩ (.tmp t) = y := by simp [Act.eval, Array.getD_eq_getD_getElem?, hy]
      rw [this]; exact hv
    · cases e'
  | const c => exact evO_ok (a := ⟨arr, dv⟩) hnil (.const c) v e
  | global g => exact evO_ok (a := ⟨arr, dv⟩) hnil (.global g) v e
  | func f => exact evO_ok (a := ⟨arr, dv⟩) hnil (.func f) v e
section
/-- what an operation looks at stands where the row of the text has it -/
theorem looks_ok (hstat : regStatic opsA.toList as = true) {S : Nat → Prop} {E : Env} {arr : Array Value} (clo : ∀ i, S i → ∀ x, bit (gD as i) x = true → S x) (tmi : TmI opsA.toList q tm0 n S E arr) {q1 : Tq} (h1 : Tr G cf call n opsA.toList as names tm0 H00 q1) (hext : Ext q1 q) {o : Oper} (ho : opsA.toList[q1.s.rl.length]? = some o)
    (hi : ¬ S q1.s.rl.length) (hcl : ∀ x, bit (gD as q1.s.rl.length) x = true → S x) : ∀ t ∈ looks opsA.toList o, ∀ v, PT.get (P.of t) q1.tm = some v → ∃ x, arr[t]? = some x ∧ VR E v x := by
  intro t ht v e
  refine tmi.2 t v ?_
  rcases h1.facts.src t v e with ⟨j, oj, te, hj, hoj, hd, hr, hv⟩ | ⟨hno, hv⟩
  · have := (static_pair hstat hoj ho (by omega) hd).2 ht
    rw [Nat.max_eq_right (by omega), Nat.min_eq_left (by omega)] at this
    exact .inl ⟨j, oj, te, hcl j this, hoj, hd, by rw [hext.rc j hj]; exact hr, hv⟩
  · refine .inr ⟨fun j oj hS hoj hd => ?_, hv⟩
    by_cases hj : j < q1.s.rl.length
    · exact hno j oj hj hoj hd
    · by_cases hje : j = q1.s.rl.length
      · subst hje; exact hi hS
      · have := (static_pair hstat hoj ho (by omega) hd).2 ht
        rw [Nat.max_eq_left (by omega), Nat.min_eq_right (by omega)] at this
        exact hi (clo j hS _ this)
theorem tmi_put (hstat : regStatic opsA.toList as = true) {S : Nat → Prop} {E E' : Env} {arr : Array Value} (hE : E.le E') (tmi : TmI opsA.toList q tm0 n S E arr) {i : Nat} {o : Oper} (ho : opsA.toList[i]? = some o) (hi : ¬ S i) {te : TE} (hr : rec? q i = some te) {tm tm' : PT AV} (hp : putF n o.dst tm te.val = some tm') {x : Value} (hv : VR E' te.val x) :
    TmI opsA.toList q tm0 n (Sx S i) E' (putA arr o.dst x) := by
  refine ⟨by rw [putA_size]; exact tmi.1, fun t v hc => ?_⟩
  have other : o.dst ≠ some t → (putA arr o.dst x)[t]? = arr[t]? := by
    intro hne
    cases hd : o.dst with
    | none => rfl
    | some d => simp only [putA]; rw [Array.getElem?_setIfInBounds_ne (fun e => hne (by rw [hd, e]))]
  have here : o.dst = some t → (putA arr o.dst x)[t]? = some x := by
    intro hd
    have hb : t < n := by
      unfold putF at hp
      rw [hd] at hp
      simp only at hp
      split at hp
      · rename_i hl; exact Nat.le_of_ble_eq_true hl
      · cases hp
    rw [hd]; simp [putA, tmi.1, hb]
  have keep : ∀ v, Cur opsA.toList q tm0 S t v → o.dst ≠ some t → ∃ y, (putA arr o.dst x)[t]? = some y ∧ VR E' v y := by
    intro v hc hne
    obtain ⟨y, h1, h2⟩ := tmi.2 t v hc
    exact ⟨y, by rw [other hne]; exact h1, h2.mono hE⟩
  rcases hc with ⟨j, oj, tj, hS, hoj, hd, hrj, hvj⟩ | ⟨hno, hv0⟩
  · rcases hS with hS | rfl
    · exact keep v (.inl ⟨j, oj, tj, hS, hoj, hd, hrj, hvj⟩) ((static_pair hstat hoj ho (fun e => hi (e ▸ hS)) hd).1)
    · rw [ho] at hoj; cases hoj
      rw [hr] at hrj; cases hrj
      exact ⟨x, here hd, by rw [hvj]; exact hv⟩
  · exact keep v (.inr ⟨fun j oj hS hoj => hno j oj (.inl hS) hoj, hv0⟩) (hno i o (.inr rfl) ho)
end
theorem HI.skip {E0 E : Env} {F0 U : P → Option AObj} {nx0 nxr : Nat} {w0 w : World} {S : Nat → Prop} {X : Hp} (hi : HI G W0 as q E0 F0 nx0 nxr w0 S E w X U) {i : Nat} (hw : i ∉ q.s.wl) (hx : ∀ x ∈ q.s.xs, x.1 ≠ i) : HI G W0 as q E0 F0 nx0 nxr w0 (Sx S i) E w X U :=
  ⟨hi.mv, hi.base.congr (fun w hw' => ⟨.inl, fun h => h.elim id (fun e => absurd (e ▸ hw') hw)⟩), hi.nxr, fun x hx' hs => hi.nm x hx' (fun h => hs (.inl h)),
    fun x hx' hs hb => hi.xs x hx' (hs.elim id (fun e => absurd e (hx x hx'))) (fun w hw hs => hb w hw (.inl hs)), hi.tab⟩
end Go.Ai
