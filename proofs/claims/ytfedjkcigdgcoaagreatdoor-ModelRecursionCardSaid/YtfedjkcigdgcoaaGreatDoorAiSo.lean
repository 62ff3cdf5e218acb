/- Where an order is open: operations by what they do to memory; those that stand in an order. -/
import Derived.Test.YtfedjkcigdgcoaaGreatDoorAiS
namespace Go.Ai
open Go Go.RowKit
set_option linter.unusedVariables false
/-! ### operations that are handed on: whatever comes behind -/
theorem singK_nat {R : Type} (cf : Cf) (e : SI) (K : SI → R) : singK cf e K = K (singK cf e id) := by
  unfold singK
  split
  · split
    · rw [forceI_eq, forceI_eq]; rfl
    · rfl
  · rfl
theorem binK_nat {R : Type} (cf : Cf) (op : BinOp) (k : IntKind) (a b : SI) (K : SI → R) : binK cf op k a b K = K (binK cf op k a b id) := by
  unfold binK
  split
  · rw [forceI_eq, forceI_eq]; rfl
  · exact singK_nat _ _ _
theorem convK_nat {R : Type} (cf : Cf) (k : IntKind) (a : SI) (K : SI → R) : convK cf k a K = K (convK cf k a id) := by
  unfold convK
  split
  · rw [forceI_eq, forceI_eq]; rfl
  · split <;> exact singK_nat _ _ _
theorem unK_nat {R : Type} (cf : Cf) (op : UnOp) (x : AV) (K : Option AV → R) : unK cf op x K = K (unK cf op x id) := by
  unfold unK
  split
  · rfl
  · rw [binK_nat, binK_nat (K := fun r => id (some (AV.int _ r)))]; rfl
  · rw [binK_nat, binK_nat (K := fun r => id (some (AV.int _ r)))]; rfl
  · rfl
theorem convIK_nat {R : Type} (G : Program) (cf : Cf) (tab : PT AObj) (s d : TypeId) (x : AV) (K : Option AV → R) : convIK G cf tab s d x K = K (convIK G cf tab s d x id) := by
  unfold convIK
  split
  · split
    · rw [convK_nat, convK_nat (K := fun r => id (some (AV.int _ r)))]; rfl
    · rfl
  · rfl
theorem binOpK_nat {R : Type} (cf : Cf) (G : Program) (op : BinOp) (t : TypeId) (x y : AV) (K : Option AV → R) : binOpK cf G op t x y K = K (binOpK cf G op t x y id) := by
  unfold binOpK
  repeat' split
  all_goals first
    | rfl
    | (rw [binK_nat, binK_nat (K := fun r => id (some (AV.int _ r)))]; rfl)

theorem binOpN_nat {R : Type} (cf : Cf) (G : Program) (op : BinOp) (t : TypeId) (xo yo : Operand) (x y : AV) (K : Option AV → R) : binOpN cf G op t xo yo x y K = K (binOpN cf G op t xo yo x y id) := by
  unfold binOpN
  repeat' split
  all_goals first
    | rfl
    | exact binOpK_nat _ _ _ _ _ _ _
theorem okT_or {a b : Bool} (h : okT a b = true) : a = true ∨ b = true := by cases a <;> first | exact .inr h | exact .inl rfl
theorem okT_right (a : Bool) : okT a true = true := by cases a <;> rfl
theorem okT_left (b : Bool) : okT true b = true := rfl
section
variable {G : Program} {cf : Cf} {call : CallF}
theorem ordR_ok {as : List Nat} {i : Nat} {a : Oper} : ∀ {l : List Oper} {j : Nat}, ordR as i a l j = true → ∀ k b, l[k]? = some b → ordP as i (j + k) a b = true
  | [], j, _, k, b, h => by simp at h
  | c :: l, j, h, k, b, e => by
    simp only [ordR, Bool.and_eq_true] at h
    cases k with
    | zero => simp at e; subst e; exact h.1
    | succ k =>
      have := ordR_ok h.2 k b (by simpa using e)
      rw [show j + (k + 1) = Nat.succ j + k by omega]
      exact this
theorem ordB_ok {as : List Nat} : ∀ {l : List Oper} {i : Nat}, ordB as l i = true → (∀ (k : Nat) (a : Oper), l[k]? = some a → kindO a.op ≤ 2) ∧ ∀ (k m : Nat) (a b : Oper), k < m → l[k]? = some a → l[m]? = some b → ordP as (i + k) (i + m) a b = true
  | [], i, _ => ⟨fun k a h => by simp at h, fun k m a b _ h => by simp at h⟩
  | c :: l, i, h => by
    simp only [ordB, Bool.and_eq_true] at h
    obtain ⟨h1, h2⟩ := ordB_ok h.2
    refine ⟨fun k a e => ?_, fun k m a b hkm e e' => ?_⟩
    · cases k with
      | zero => simp at e; subst e; exact Nat.le_of_ble_eq_true h.1.1
      | succ k => exact h1 k a (by simpa using e)
    · cases m with
      | zero => omega
      | succ m =>
        cases k with
        | zero =>
          simp at e; subst e
          have := ordR_ok h.1.2 m b (by simpa using e')
          rw [show i + (m + 1) = Nat.succ i + m by omega]
          exact this
        | succ k =>
          have := h2 k m a b (by omega) (by simpa using e) (by simpa using e')
          rw [show i + (m + 1) = Nat.succ i + m by omega, show i + (k + 1) = Nat.succ i + k by omega]
          exact this
/-- those that stand in an order -/
theorem ord_bit {ops : List Oper} {as : List Nat} (h : ordB as ops 0 = true) {i j : Nat} {a b : Oper} (hij : i < j) (ha : ops[i]? = some a) (hb : ops[j]? = some b) (ka : kindO a.op ≠ 0) (kb : kindO b.op ≠ 0) (k : kindO a.op = 2 ∨ kindO b.op = 2) : bit (gD as j) i = true := by
  obtain ⟨h1, h2⟩ := ordB_ok h
  have := h2 i j a b hij ha hb
  rw [Nat.zero_add, Nat.zero_add] at this
  have hla := h1 i a ha
  have hlb := h1 j b hb
  have e1 : kindO a.op = 1 ∨ kindO a.op = 2 := by omega
  have e2 : kindO b.op = 1 ∨ kindO b.op = 2 := by omega
  unfold ordP at this
  rcases e1 with e1 | e1 <;> rcases e2 with e2 | e2 <;> rw [e1, e2] at this <;> first | exact this | omega
theorem kind_rd {o : Oper} {ev : Operand → Option AV} {H : Hp} (h : kindO o.op ≤ 1) : (∃ v, opK G cf o ev H = .rd v) ∨ ∃ e, opK G cf o ev H = .err e := by
  have ofR : ∀ (n : Nat) (r : Option AV), (∃ v, K3.ofR n r = .rd v) ∨ ∃ e, K3.ofR n r = .err e := fun n r => by
    cases r with
    | none => exact .inr ⟨n, rfl⟩
    | some v => exact .inl ⟨v, rfl⟩
  unfold opK
  unfold kindO at h
  cases ho : o.op <;> rw [ho] at h <;> first | (simp [hfree] at h; done) | skip
  case move x => exact ofR _ _
  case assign x => exact ofR _ _
  case pick c a b =>
    simp only
    split
    · exact ofR _ _
    · exact .inr ⟨_, rfl⟩
  case build t ps =>
    simp only
    split
    · exact ofR _ _
    · exact .inr ⟨_, rfl⟩
  case load t x =>
    simp only
    split
    · exact ofR _ _
    · exact .inr ⟨_, rfl⟩
  case nilCheck x =>
    simp only
    split
    · exact ofR _ _
    · exact .inr ⟨_, rfl⟩
  case binOp op t x y u =>
    simp only
    split
    · rw [binOpN_nat]; exact ofR _ _
    · exact .inr ⟨_, rfl⟩
  case unOp op t x =>
    simp only
    split
    · rw [unK_nat]; exact ofR _ _
    · exact .inr ⟨_, rfl⟩
  case makeInterface t x =>
    simp only
    split
    · exact ofR _ _
    · exact .inr ⟨_, rfl⟩
  case makeFunc f a b =>
    cases f <;> simp only
    case func g =>
      split
      · exact .inl ⟨_, rfl⟩
      · exact .inr ⟨_, rfl⟩
    all_goals exact .inr ⟨_, rfl⟩
  case slice t x lo hi mx =>
    cases mx <;> simp only <;> split
    · exact ofR _ _
    · exact .inr ⟨_, rfl⟩
    · exact ofR _ _
    · exact .inr ⟨_, rfl⟩
  case fieldAddr s x f =>
    simp only
    split
    · exact ofR _ _
    · exact .inr ⟨_, rfl⟩
  case field s x f =>
    simp only
    split
    · exact ofR _ _
    · exact .inr ⟨_, rfl⟩
  case indexAddr t x i =>
    simp only
    split
    · exact ofR _ _
    · exact .inr ⟨_, rfl⟩
  case index t x i =>
    simp only
    split
    · exact ofR _ _
    · exact .inr ⟨_, rfl⟩
  case lookup t x k ok =>
    simp only
    split
    · exact ofR _ _
    · exact .inr ⟨_, rfl⟩
  case typeAssert x a b ok =>
    simp only
    split
    · exact ofR _ _
    · exact .inr ⟨_, rfl⟩
  case extract t i =>
    simp only
    split
    · exact ofR _ _
    · exact .inr ⟨_, rfl⟩
  case call c =>
    simp only at h ⊢
    unfold callK
    split
    · exact .inr ⟨_, rfl⟩
    · split at h
      · omega
      · omega
      · omega
      · omega
      · rename_i hc
        rw [hc]
        simp only
        split
        · exact ofR _ _
        · exact .inr ⟨_, rfl⟩
      · rename_i hc
        rw [hc]
        exact ofR _ _
      · omega
theorem al_kind {o : Oper} (h : isAl o.op = true) : kindO o.op = 3 := by
  unfold kindO
  cases ho : o.op <;> rw [ho] at h <;> first | (simp [isAl] at h; done) | rfl
end
end Go.Ai
