/- Regions of open order: what is computed there, as plain facts. -/
import Derived.Test.YtfedjkcigdgcoaaGreatDoorAiR
import Derived.Orders
namespace Go.Ai
open Go Go.RowKit
set_option linter.unusedVariables false
/-! ### equality of values -/
theorem listBeq_eq {α : Type} {f : α → α → Bool} (hf : ∀ x y, f x y = true → x = y) : ∀ {a b : List α}, listBeq f a b = true → a = b
  | [], [], _ => rfl
  | [], _ :: _, h => by cases h
  | _ :: _, [], h => by cases h
  | x :: a, y :: b, h => by
    have h' : (Bool.rec false (listBeq f a b) (f x y) : Bool) = true := h
    cases hxy : f x y with
    | false => rw [hxy] at h'; cases h'
    | true => rw [hxy] at h'; rw [hf _ _ hxy, listBeq_eq hf h']
theorem capBeq_eq {a b : Cap} (h : capBeq a b = true) : a = b := by
  cases a <;> cases b <;> simp [capBeq] at h <;> rw [h]
theorem pbeq_eq {p q : P} (h : P.beq p q = true) : p = q := (P.beq_iff p q).1 h
theorem afnBeq_eq {a b : AFn} (h : AFn.beq a b = true) : a = b := by
  cases a <;> cases b <;> simp [AFn.beq] at h
  · rw [h]
  · rw [pbeq_eq h]
theorem beqN_succ (n : Nat) (x y : AV) : AV.beqN (n + 1) x y = (match x, y with
    | .bool a, .bool b => Bool.rec (Bool.rec true false b) b a
    | .int k a, .int k' b => kbeq k k' && SI.beq a b
    | .str a, .str b => listBeq SI.beq a b
    | .ptr0, .ptr0 => true
    | .ptr l o, .ptr l' o' => P.beq l l' && Nat.beq o o'
    | .glob g o, .glob g' o' => Nat.beq g g' && Nat.beq o o'
    | .sl0, .sl0 => true
    | .sl l o n c, .sl l' o' n' c' => P.beq l l' && Nat.beq o o' && Nat.beq n n' && capBeq c c'
    | .map0, .map0 => true
    | .map l, .map l' => P.beq l l'
    | .fn f a b, .fn f' a' b' => AFn.beq f f' && listBeq (AV.beqN n) a a' && listBeq (AV.beqN n) b b'
    | .fn0, .fn0 => true
    | .if0, .if0 => true
    | .iface t v, .iface t' v' => Nat.beq t t' && AV.beqN n v v'
    | .agg a, .agg b => listBeq (AV.beqN n) a b
    | .tup a, .tup b => listBeq (AV.beqN n) a b
    | .iter l, .iter l' => P.beq l l'
    | .chan0, .chan0 => true
    | .chan l, .chan l' => P.beq l l'
    | _, _ => false) := rfl
theorem beqN_eq : ∀ (n : Nat) {x y : AV}, AV.beqN n x y = true → x = y := by
  intro n
  induction n with
  | zero => intro x y h; cases h
  | succ n ih =>
    have ihl := fun {a b : List AV} => listBeq_eq (a := a) (b := b) (f := AV.beqN n) (fun x y h => ih h)
    intro x y h
    rw [beqN_succ] at h
    split at h
    · rename_i a b; cases a <;> cases b <;> first | rfl | cases h
    · simp only [Bool.and_eq_true] at h; rw [(kbeq_iff _ _).1 h.1, SI.beq_eq h.2]
    · rw [listBeq_eq (fun _ _ h => SI.beq_eq h) h]
    · rfl
    · simp only [Bool.and_eq_true] at h; rw [pbeq_eq h.1, Nat.eq_of_beq_eq_true h.2]
    · simp only [Bool.and_eq_true] at h; rw [Nat.eq_of_beq_eq_true h.1, Nat.eq_of_beq_eq_true h.2]
    · rfl
    · simp only [Bool.and_eq_true] at h; obtain ⟨⟨⟨h1, h2⟩, h3⟩, h4⟩ := h; rw [pbeq_eq h1, Nat.eq_of_beq_eq_true h2, Nat.eq_of_beq_eq_true h3, capBeq_eq h4]
    · rfl
    · rw [pbeq_eq h]
    · simp only [Bool.and_eq_true] at h; obtain ⟨⟨h1, h2⟩, h3⟩ := h; rw [afnBeq_eq h1, ihl h2, ihl h3]
    · rfl
    · rfl
    · simp only [Bool.and_eq_true] at h; rw [Nat.eq_of_beq_eq_true h.1, ih h.2]
    · rw [ihl h]
    · rw [ihl h]
    · rw [pbeq_eq h]
    · rfl
    · rw [pbeq_eq h]
    · cases h
theorem same_eq {x y : AV} (h : AV.same x y = true) : x = y := beqN_eq 8 h
/-! ### who must come ahead -/
theorem edgesM_bit {acc : List Nat} : ∀ {es : List Edge} {x : Nat}, Nat.testBit (edgesM acc es) x = true → ∃ e ∈ es, Region.binds .any e = true ∧ (x = e.on ∨ bit (gD acc e.on) x = true)
  | [], x, h => by simp [edgesM] at h
  | e :: es, x, h => by
    have h' : Nat.testBit (match e.ground with
      | .textOnly _ => edgesM acc es
      | .gcOnly _ => edgesM acc es
      | _ => Nat.lor (Nat.lor (Nat.pow 2 e.on) (match nthL acc e.on with | some m => m | none => 0)) (edgesM acc es)) x = true := h
    have tail : Nat.testBit (edgesM acc es) x = true → ∃ e' ∈ e :: es, Region.binds .any e' = true ∧ (x = e'.on ∨ bit (gD acc e'.on) x = true) := fun ht =>
      let ⟨e', h1, h2⟩ := edgesM_bit ht; ⟨e', List.mem_cons_of_mem _ h1, h2⟩
    have hb : (∃ d, e.ground = .textOnly d) ∨ (∃ d, e.ground = .gcOnly d) ∨ Region.binds .any e = true := by
      unfold Region.binds
      cases e.ground <;> first | exact .inl ⟨_, rfl⟩ | exact .inr (.inl ⟨_, rfl⟩) | exact .inr (.inr rfl)
    rcases hb with ⟨d, hg⟩ | ⟨d, hg⟩ | hb
    · rw [hg] at h'; exact tail h'
    · rw [hg] at h'; exact tail h'
    · have h2 : Nat.testBit (((2 ^ e.on) ||| (match nthL acc e.on with | some m => m | none => 0)) ||| (edgesM acc es)) x = true := by
        unfold Region.binds at hb
        cases hg : e.ground <;> rw [hg] at hb h' <;> first | exact h' | cases hb
      rw [Nat.testBit_or, Nat.testBit_or, Nat.testBit_two_pow] at h2
      simp only [Bool.or_eq_true, decide_eq_true_eq] at h2
      rcases h2 with (h2 | h2) | h2
      · exact ⟨e, List.mem_cons_self, hb, .inl h2.symm⟩
      · refine ⟨e, List.mem_cons_self, hb, .inr ?_⟩
        rw [nthL_eq] at h2
        cases hg : acc[e.on]? with
        | none => rw [hg] at h2; simp at h2
        | some m => rw [hg] at h2; simpa [bit_def, gD_eq, List.getD_eq_getElem?_getD, hg] using h2
      · exact tail h2
theorem ancs_spec : ∀ (ops : List Oper) (acc : List Nat), (ancs ops acc).take acc.length = acc ∧ (ancs ops acc).length = acc.length + ops.length ∧
    ∀ i o, ops[i]? = some o → (ancs ops acc)[acc.length + i]? = some (edgesM ((ancs ops acc).take (acc.length + i)) o.after.toList)
  | [], acc => ⟨by simp [ancs], by simp [ancs], fun i o h => by simp at h⟩
  | o :: ops, acc => by
    have hrec : ancs (o :: ops) acc = ancs ops (acc ++ [edgesM acc o.after.toList]) := rfl
    obtain ⟨h1, h2, h3⟩ := ancs_spec ops (acc ++ [edgesM acc o.after.toList])
    rw [← hrec] at h1 h2 h3
    simp only [List.length_append, List.length_cons, List.length_nil] at h1 h2 h3
    have t1 : (ancs (o :: ops) acc).take acc.length = acc := by
      have := congrArg (List.take acc.length) h1
      rw [List.take_take] at this
      simpa using this
    refine ⟨t1, by simp; omega, fun i o' h => ?_⟩
    cases i with
    | zero =>
      simp at h
      subst h
      rw [Nat.add_zero, t1]
      have := congrArg (fun l => l[acc.length]?) h1
      simp only [List.getElem?_take] at this
      simpa using this
    | succ i =>
      have := h3 i o' (by simpa using h)
      rw [show acc.length + (i + 1) = acc.length + (0 + 1) + i by omega]
      exact this
/-- who must come ahead: those at the edges that bind, and those ahead of them -/
theorem anc_bit {ops : List Oper} {i x : Nat} {o : Oper} (ho : ops[i]? = some o) (h : bit (gD (ancs ops []) i) x = true) : ∃ e ∈ o.after.toList, Region.binds .any e = true ∧ (x = e.on ∨ bit (gD (ancs ops []) e.on) x = true) := by
  obtain ⟨_, _, h3⟩ := ancs_spec ops []
  have := h3 i o ho
  simp only [List.length_nil, Nat.zero_add] at this
  rw [gD_eq, List.getD_eq_getElem?_getD, this, bit_def] at h
  obtain ⟨e, h1, h2, h4⟩ := edgesM_bit h
  refine ⟨e, h1, h2, h4.imp id (fun h => ?_)⟩
  rw [gD_eq, List.getD_eq_getElem?_getD, List.getElem?_take] at h
  split at h
  · rw [gD_eq, List.getD_eq_getElem?_getD]; exact h
  · simp [bit_def] at h
theorem static_edge {ops : List Oper} {as : List Nat} (h : regStatic ops as = true) {i : Nat} {o : Oper} (ho : ops[i]? = some o) : ∀ e ∈ o.after.toList, Region.binds .any e = true → e.on < i := by
  intro e he hb
  unfold regStatic at h
  have := List.all_eq_true.1 h (o, i) (List.mem_zipIdx_iff_getElem?.2 ho)
  simp only [Bool.and_eq_true] at this
  have := List.all_eq_true.1 this.1 e he
  unfold Region.binds at hb
  cases hg : e.ground <;> simp only [hg] at this hb <;> first | exact Nat.le_of_ble_eq_true this | cases hb
theorem static_pair {ops : List Oper} {as : List Nat} (h : regStatic ops as = true) {i j : Nat} {oi oj : Oper} (hi : ops[i]? = some oi) (hj : ops[j]? = some oj) (hne : i ≠ j) {t : Nat} (ht : oi.dst = some t) :
    oj.dst ≠ some t ∧ (t ∈ looks ops oj → bit (gD as (max i j)) (min i j) = true) := by
  unfold regStatic at h
  have := List.all_eq_true.1 h (oi, i) (List.mem_zipIdx_iff_getElem?.2 hi)
  simp only [Bool.and_eq_true] at this
  have := List.all_eq_true.1 this.2 (oj, j) (List.mem_zipIdx_iff_getElem?.2 hj)
  simp only [Bool.or_eq_true] at this
  rcases this with h | h
  · exact absurd (Nat.eq_of_beq_eq_true h) hne
  · unfold pairOk at h
    rw [ht] at h
    simp only [Bool.and_eq_true, Bool.or_eq_true, Bool.not_eq_true'] at h
    refine ⟨fun e => ?_, fun hm => ?_⟩
    · have := h.1
      rw [e] at this
      simp at this
    · rcases h.2 with h2 | h2
      · have := List.any_eq_false.1 h2 t hm
        simp at this
      · exact h2
/-! ### names laid by -/
noncomputable def namesF : List Oper → P → List P
  | [], _ => []
  | _ :: ops, p => p :: namesF ops (P.next p)
noncomputable def nxF : List Oper → P → P
  | [], p => p
  | _ :: ops, p => nxF ops (P.next p)
theorem resvK_eq {R : Type} : ∀ (ops : List Oper) (p : P) (k : List P → P → R), resvK ops p k = k (namesF ops p) (nxF ops p)
  | [], p, k => rfl
  | o :: ops, p, k => by
    have : resvK (o :: ops) p k = P.nextK p (fun q => resvK ops q (fun l r => k (p :: l) r)) := rfl
    rw [this, P.nextK_eq, resvK_eq]; rfl
theorem nxF_nat : ∀ (ops : List Oper) (p : P), (nxF ops p).toNat = p.toNat + ops.length
  | [], p => rfl
  | o :: ops, p => by simp only [nxF, nxF_nat ops, P.toNat_next, List.length_cons]; omega
theorem names_nat : ∀ (ops : List Oper) (p : P) (i : Nat) {l : P}, (namesF ops p)[i]? = some l → l.toNat = p.toNat + i ∧ i < ops.length
  | [], p, i, l, h => by simp [namesF] at h
  | o :: ops, p, 0, l, h => by simp [namesF] at h; subst h; simp
  | o :: ops, p, i + 1, l, h => by
    simp only [namesF, List.getElem?_cons_succ] at h
    have := names_nat ops _ i h
    rw [P.toNat_next] at this
    simp only [List.length_cons]; omega
/-! ### laying in -/
noncomputable def layF (as : List Nat) (m : Nat) (done : List Nat) : List (Nat × P × AObj) → PT AObj → PT AObj
  | [], t => t
  | x :: xs, t => match bit m x.1, anyBit as x.1 done with
    | true, false => layF as m done xs (PT.put x.2.1 t (some x.2.2))
    | _, _ => layF as m done xs t
theorem layT_eq {R : Type} (as : List Nat) (m : Nat) (done : List Nat) : ∀ (xs : List (Nat × P × AObj)) (t : PT AObj) (k : PT AObj → R), layT as m done xs t k = k (layF as m done xs t)
  | [], t, k => rfl
  | x :: xs, t, k => by
    have : layT as m done (x :: xs) t k = match bit m x.1, anyBit as x.1 done with
      | true, false => PT.putK x.2.1 t (some x.2.2) (fun t => layT as m done xs t k)
      | _, _ => layT as m done xs t k := rfl
    rw [this]
    unfold layF
    split
    · rw [PT.putK_eq, layT_eq]
    · rw [layT_eq]
theorem layF_get {as : List Nat} {m : Nat} {done : List Nat} : ∀ {xs : List (Nat × P × AObj)} {t : PT AObj} {l : P} {o : AObj}, PT.get l (layF as m done xs t) = some o →
    (∃ x ∈ xs, bit m x.1 = true ∧ anyBit as x.1 done = false ∧ x.2.1 = l ∧ x.2.2 = o) ∨ PT.get l t = some o
  | [], t, l, o, h => .inr h
  | x :: xs, t, l, o, h => by
    unfold layF at h
    split at h
    · rename_i h1 h2
      rcases layF_get h with ⟨y, hy, h3⟩ | h3
      · exact .inl ⟨y, List.mem_cons_of_mem _ hy, h3⟩
      · by_cases hl : x.2.1 = l
        · subst hl
          rw [PT.get_put_same] at h3
          cases h3
          exact .inl ⟨x, List.mem_cons_self, h1, h2, rfl, rfl⟩
        · rw [PT.get_put_other hl] at h3
          exact .inr h3
    · rcases layF_get h with ⟨y, hy, h3⟩ | h3
      · exact .inl ⟨y, List.mem_cons_of_mem _ hy, h3⟩
      · exact .inr h3
noncomputable def layAF (as : List Nat) (done : List Nat) : List (Nat × P × AObj) → PT AObj → PT AObj
  | [], t => t
  | x :: xs, t => match anyBit as x.1 done with
    | false => layAF as done xs (PT.put x.2.1 t (some x.2.2))
    | _ => layAF as done xs t
theorem layAll_eq {R : Type} (as : List Nat) (done : List Nat) : ∀ (xs : List (Nat × P × AObj)) (t : PT AObj) (k : PT AObj → R), layAll as done xs t k = k (layAF as done xs t)
  | [], t, k => rfl
  | x :: xs, t, k => by
    have : layAll as done (x :: xs) t k = match anyBit as x.1 done with
      | false => PT.putK x.2.1 t (some x.2.2) (fun t => layAll as done xs t k)
      | _ => layAll as done xs t k := rfl
    rw [this]
    unfold layAF
    split
    · rw [PT.putK_eq, layAll_eq]
    · rw [layAll_eq]
theorem layAF_get {as : List Nat} {done : List Nat} : ∀ {xs : List (Nat × P × AObj)} {t : PT AObj} {l : P} {o : AObj}, PT.get l (layAF as done xs t) = some o →
    (∃ x ∈ xs, anyBit as x.1 done = false ∧ x.2.1 = l ∧ x.2.2 = o) ∨ PT.get l t = some o
  | [], t, l, o, h => .inr h
  | x :: xs, t, l, o, h => by
    unfold layAF at h
    split at h
    · rename_i h2
      rcases layAF_get h with ⟨y, hy, h3⟩ | h3
      · exact .inl ⟨y, List.mem_cons_of_mem _ hy, h3⟩
      · by_cases hl : x.2.1 = l
        · subst hl
          rw [PT.get_put_same] at h3
          cases h3
          exact .inl ⟨x, List.mem_cons_self, h2, rfl, rfl⟩
        · rw [PT.get_put_other hl] at h3
          exact .inr h3
    · rcases layAF_get h with ⟨y, hy, h3⟩ | h3
      · exact .inl ⟨y, List.mem_cons_of_mem _ hy, h3⟩
      · exact .inr h3
theorem anyBit_iff {as : List Nat} {i : Nat} : ∀ {done : List Nat}, anyBit as i done = true ↔ ∃ w ∈ done, bit (gD as w) i = true
  | [] => by simp [anyBit]
  | w :: done => by
    have : anyBit as i (w :: done) = match bit (gD as w) i with | true => true | false => anyBit as i done := rfl
    rw [this]
    cases h : bit (gD as w) i with
    | true => exact ⟨fun _ => ⟨w, List.mem_cons_self, h⟩, fun _ => rfl⟩
    | false => simp only [anyBit_iff, List.mem_cons]; constructor
               · rintro ⟨w', h1, h2⟩; exact ⟨w', .inr h1, h2⟩
               · rintro ⟨w', rfl | h1, h2⟩
                 · rw [h] at h2; cases h2
                 · exact ⟨w', h1, h2⟩
noncomputable def eraF : List Oper → PT AV → PT AV
  | [], t => t
  | o :: ops, t => match o.dst with
    | some d => eraF ops (PT.put (P.of d) t none)
    | none => eraF ops t
theorem eraseD_eq {R : Type} : ∀ (ops : List Oper) (t : PT AV) (k : PT AV → R), eraseD ops t k = k (eraF ops t)
  | [], t, k => rfl
  | o :: ops, t, k => by
    have : eraseD (o :: ops) t k = match o.dst with | some d => PT.putK (P.of d) t none (fun t => eraseD ops t k) | none => eraseD ops t k := rfl
    rw [this]
    unfold eraF
    cases o.dst with
    | none => simp only; rw [eraseD_eq]
    | some d => simp only; rw [PT.putK_eq, eraseD_eq]
theorem eraF_get : ∀ {ops : List Oper} {t : PT AV} {q : Nat} {v : AV}, PT.get (P.of q) (eraF ops t) = some v → (∀ o ∈ ops, o.dst ≠ some q) ∧ PT.get (P.of q) t = some v
  | [], t, q, v, h => ⟨fun o ho => by simp at ho, h⟩
  | o :: ops, t, q, v, h => by
    unfold eraF at h
    cases hd : o.dst with
    | none =>
      rw [hd] at h
      obtain ⟨h1, h2⟩ := eraF_get h
      exact ⟨fun o' ho' => by rcases List.mem_cons.1 ho' with rfl | ho'; rw [hd]; simp; exact h1 o' ho', h2⟩
    | some d =>
      rw [hd] at h
      obtain ⟨h1, h2⟩ := eraF_get h
      by_cases hdq : d = q
      · subst hdq; rw [PT.get_put_same] at h2; cases h2
      · rw [PT.get_put_other (fun e => hdq (P.of_inj e))] at h2
        exact ⟨fun o' ho' => by rcases List.mem_cons.1 ho' with rfl | ho'; rw [hd]; simpa using hdq; exact h1 o' ho', h2⟩
end Go.Ai
