/- Instructions as text: plain laws. -/
import Derived.Test.YtnegdimhejldfaaGreatDoorDec
namespace Go.Proofs.YtnegdimhejldfaaGreatDoor.dec
open Go Go.Lib
set_option linter.unusedVariables false
/-- the instructions' words -/
def words : List (List UInt8) := [[110, 111, 112],
  [105, 110, 116],
  [110, 117, 108, 108],
  [108, 111, 97, 100],
  [115, 116, 111, 114, 101],
  [112, 111, 112],
  [100, 117, 112],
  [115, 119, 97, 112],
  [97, 114, 105, 116, 104],
  [103, 111, 116, 111],
  [105, 102, 122, 101, 114, 111],
  [105, 102, 108, 101, 115, 115],
  [105, 102, 115, 97, 109, 101],
  [105, 102, 110, 117, 108, 108],
  [110, 101, 119],
  [103, 101, 116, 102, 105, 101, 108, 100],
  [112, 117, 116, 102, 105, 101, 108, 100],
  [103, 101, 116, 115, 116, 97, 116, 105, 99],
  [112, 117, 116, 115, 116, 97, 116, 105, 99],
  [110, 101, 119, 105, 110, 116, 115],
  [110, 101, 119, 114, 101, 102, 115],
  [108, 101, 110, 103, 116, 104],
  [103, 101, 116, 105, 110, 116],
  [112, 117, 116, 105, 110, 116],
  [103, 101, 116, 114, 101, 102],
  [112, 117, 116, 114, 101, 102],
  [99, 97, 108, 108, 115, 116, 97, 116, 105, 99],
  [99, 97, 108, 108, 118, 105, 114, 116, 117, 97, 108],
  [99, 97, 108, 108, 102, 97, 99, 101],
  [114, 101, 116, 117, 114, 110],
  [103, 105, 118, 101, 105, 110, 116],
  [103, 105, 118, 101, 114, 101, 102],
  [116, 104, 114, 111, 119],
  [105, 115],
  [99, 97, 115, 116],
  [101, 110, 116, 101, 114],
  [108, 101, 97, 118, 101],
  [119, 97, 105, 116],
  [110, 111, 116, 105, 102, 121],
  [110, 111, 116, 105, 102, 121, 97, 108, 108],
  [115, 116, 97, 114, 116],
  [106, 111, 105, 110],
  [112, 114, 105, 110, 116],
  [114, 101, 97, 100],
  [109, 97, 107, 101, 119, 101, 97, 107],
  [100, 101, 114, 101, 102],
  [99, 111, 108, 108, 101, 99, 116]]
/-- arith's words -/
def opers : List (List UInt8) := [[97, 100, 100], [115, 117, 98], [109, 117, 108], [100, 105, 118], [114, 101, 109], [110, 101, 103], [97, 110, 100], [111, 114], [120, 111, 114], [115, 104, 108], [115, 104, 114], [117, 115, 104, 114]]
def kas : List Nat := [0, 1, 0, 2, 2, 0, 0, 0, 3, 4, 4, 4, 4, 4, 6, 7, 7, 8, 8, 0, 0, 0, 0, 0, 0, 0, 9, 10, 11, 0, 0, 0, 0, 5, 5, 0, 0, 0, 0, 0, 0, 0, 0, 0, 0, 0, 0]
def kbs : List Nat := [0, 0, 0, 0, 0, 0, 0, 0, 0, 0, 0, 0, 0, 0, 0, 12, 12, 12, 12, 0, 0, 0, 0, 0, 0, 0, 12, 12, 12, 0, 0, 0, 0, 0, 0, 0, 0, 0, 0, 0, 0, 0, 0, 0, 0, 0, 0]
def nm (op : Nat) : List UInt8 := words.getD op []
def ka (op : Nat) : Nat := kas.getD op 0
def kb (op : Nat) : Nat := kbs.getD op 0
def opw (A : Int) : List UInt8 := opers.getD A.toNat []
/-- an instruction's words; none: it has none -/
def txt (op : Nat) (A B : Int) : Option (List UInt8) :=
  if ka op = 0 then some (nm op)
  else if ka op = 3 then (if 0 ≤ A ∧ A < 12 then some (nm op ++ 32 :: opw A) else none)
  else if kb op = 0 then some (nm op ++ 32 :: itoa A)
  else some (nm op ++ 32 :: (itoa A ++ 32 :: itoa B))
/-- an operand -/
def opd (k : Nat) (x : List UInt8) : Int × Bool :=
  if k = 3 then (match opers.idxOf? x with | some i => ((i : Nat), true) | none => (0, false))
  else match atoiAll x with | .ok v => (v, true) | .range => (atoiSat x, false) | _ => (0, false)
def outOf (op : Nat) (more : Bool) (rest : List UInt8) : Int × Int × Bool :=
  if more then
    if (cut rest [32]).2.2 && (opd (ka op) (cut rest [32]).1).2 then ((opd (ka op) (cut rest [32]).1).1, (opd (kb op) (cut rest [32]).2.1).1, (opd (kb op) (cut rest [32]).2.1).2)
    else ((opd (ka op) (cut rest [32]).1).1, 0, (opd (ka op) (cut rest [32]).1).2)
  else (0, 0, true)
inductive Ps where
  | op
  | args
  | ok (op : Nat) (A B : Int)
def parseAt (s : List UInt8) (op : Nat) : Ps :=
  if (outOf op (cut s [32]).2.2 (cut s [32]).2.1).2.2 = true ∧ txt op (outOf op (cut s [32]).2.2 (cut s [32]).2.1).1 (outOf op (cut s [32]).2.2 (cut s [32]).2.1).2.1 = some s
  then .ok op (outOf op (cut s [32]).2.2 (cut s [32]).2.1).1 (outOf op (cut s [32]).2.2 (cut s [32]).2.1).2.1 else .args
def parse (s : List UInt8) : Ps := match words.idxOf? (cut s [32]).1 with
  | none => .op
  | some op => parseAt s op
theorem words_plain : ∀ op, op < 47 → (nm op).all (fun c => decide (c.toNat ≠ 32)) = true := by decide
theorem opers_plain : ∀ i, i < 12 → (opers.getD i []).all (fun c => decide (c.toNat ≠ 32)) = true := by decide
theorem words_find : ∀ op, op < 47 → words.idxOf? (nm op) = some op := by decide
theorem opers_find : ∀ i, i < 12 → opers.idxOf? (opers.getD i []) = some i := by decide
theorem one_ok : atoiAll [49] = .ok 1 := by decide
theorem ka_lt : ∀ op, op < 47 → ka op = 3 → kb op = 0 := by decide
theorem kb_ne3 : ∀ op, op < 47 → kb op ≠ 3 := by decide
theorem plain_ne {l : List UInt8} (h : l.all (fun c => decide (c.toNat ≠ 32)) = true) : ∀ x ∈ l, x ≠ 32 := by
  intro x hx e
  have := List.all_eq_true.1 h x hx
  subst e
  simp at this
theorem itoa_ne32 (n : Int) : ∀ x ∈ itoa n, x ≠ 32 := fun x hx e => by subst e; exact (itoa_mem n 32 hx).1 (by decide)
theorem one_ne32 : ∀ x ∈ ([49] : List UInt8), x ≠ 32 := by decide
theorem app_ne (s : List UInt8) (x : UInt8) (l : List UInt8) : s ≠ s ++ x :: l := by
  intro h
  have := congrArg List.length h
  simp at this
/-- an instruction's text is read as it was; with one word more it is not -/
theorem back (op : Nat) (hop : op < 47) (a b : Int) (ha : -9223372036854775808 ≤ a ∧ a ≤ 9223372036854775807) (hb : -9223372036854775808 ≤ b ∧ b ≤ 9223372036854775807) (s : List UInt8) (h : txt op a b = some s) :
    (∃ A B, parse s = .ok op A B ∧ (A = a ∨ A = 0) ∧ (B = b ∨ B = 0)) ∧ parse (s ++ [32, 49]) = .args := by
  have w1 := plain_ne (words_plain op hop)
  have w2 := words_find op hop
  by_cases k0 : ka op = 0
  · have hs : s = nm op := by unfold txt at h; rw [if_pos k0] at h; exact (Option.some.inj h).symm
    subst hs
    constructor
    · refine ⟨0, 0, ?_, .inr rfl, .inr rfl⟩
      unfold parse parseAt
      rw [cut_none 32 _ w1]
      simp only [w2, outOf, Bool.false_eq_true, if_false]
      rw [if_pos ⟨trivial, by unfold txt; rw [if_pos k0]⟩]
    · unfold parse parseAt
      rw [show nm op ++ [32, 49] = nm op ++ 32 :: [49] from rfl, cut_at 32 _ _ w1]
      simp only [w2, outOf, if_true]
      rw [cut_none 32 _ one_ne32]
      simp only [opd, k0, one_ok]
      rw [if_neg]
      rintro ⟨_, h2⟩
      simp only [txt, k0, if_true] at h2
      exact app_ne _ _ _ (Option.some.inj h2)
  · by_cases k3 : ka op = 3
    · have hkb := ka_lt op hop k3
      unfold txt at h
      rw [if_neg k0, if_pos k3] at h
      split at h
      · rename_i hr
        have hs := (Option.some.inj h).symm
        subst hs
        have o1 := plain_ne (opers_plain a.toNat (by omega))
        have o2 := opers_find a.toNat (by omega)
        have o3 : ((a.toNat : Nat) : Int) = a := by omega
        constructor
        · refine ⟨a, 0, ?_, .inl rfl, .inr rfl⟩
          unfold parse parseAt
          rw [cut_at 32 _ _ w1]
          simp only [w2, outOf, if_true]
          rw [cut_none 32 (opw a) o1]
          simp only [opd, k3, if_true, show opers.idxOf? (opw a) = some a.toNat from o2, o3, Bool.false_and, Bool.false_eq_true, if_false]
          rw [if_pos ⟨trivial, by unfold txt; rw [if_neg k0, if_pos k3, if_pos hr]⟩]
        · unfold parse parseAt
          rw [show (nm op ++ 32 :: opw a) ++ [32, 49] = nm op ++ 32 :: (opw a ++ 32 :: [49]) by simp, cut_at 32 _ _ w1]
          simp only [w2, outOf, if_true]
          rw [cut_at 32 (opw a) [49] o1]
          simp only [opd, k3, hkb, if_true, show opers.idxOf? (opw a) = some a.toNat from o2, o3, Bool.true_and, one_ok]
          rw [if_neg]
          rintro ⟨_, h2⟩
          simp only [txt, k3, hr, if_true] at h2
          simp only [if_neg (show ¬ ((3 : Nat) = 0) by decide)] at h2
          have h3 := Option.some.inj h2
          rw [show nm op ++ 32 :: (opw a ++ 32 :: [49]) = (nm op ++ 32 :: opw a) ++ 32 :: [49] by simp] at h3
          exact app_ne _ _ _ h3
      · cases h
    · have i1 := itoa_ne32 a
      have i2 := atoi_itoa a ha.1 ha.2
      by_cases kb0 : kb op = 0
      · have hs : s = nm op ++ 32 :: itoa a := by unfold txt at h; rw [if_neg k0, if_neg k3, if_pos kb0] at h; exact (Option.some.inj h).symm
        subst hs
        constructor
        · refine ⟨a, 0, ?_, .inl rfl, .inr rfl⟩
          unfold parse parseAt
          rw [cut_at 32 _ _ w1]
          simp only [w2, outOf, if_true]
          rw [cut_none 32 (itoa a) i1]
          simp only [opd, if_neg k3, i2, Bool.false_and, Bool.false_eq_true, if_false]
          rw [if_pos ⟨trivial, by unfold txt; rw [if_neg k0, if_neg k3, if_pos kb0]⟩]
        · unfold parse parseAt
          rw [show (nm op ++ 32 :: itoa a) ++ [32, 49] = nm op ++ 32 :: (itoa a ++ 32 :: [49]) by simp, cut_at 32 _ _ w1]
          simp only [w2, outOf, if_true]
          rw [cut_at 32 (itoa a) [49] i1]
          simp only [opd, if_neg k3, i2, kb0, Bool.true_and, if_true, one_ok]
          rw [if_neg]
          rintro ⟨_, h2⟩
          unfold txt at h2
          rw [if_neg k0, if_neg k3, if_pos kb0] at h2
          have h3 := Option.some.inj h2
          rw [show nm op ++ 32 :: (itoa a ++ 32 :: [49]) = (nm op ++ 32 :: itoa a) ++ 32 :: [49] by simp] at h3
          exact app_ne _ _ _ h3
      · have kb3 := kb_ne3 op hop
        have j2 := atoi_itoa b hb.1 hb.2
        have hs : s = nm op ++ 32 :: (itoa a ++ 32 :: itoa b) := by unfold txt at h; rw [if_neg k0, if_neg k3, if_neg kb0] at h; exact (Option.some.inj h).symm
        subst hs
        constructor
        · refine ⟨a, b, ?_, .inl rfl, .inl rfl⟩
          unfold parse parseAt
          rw [cut_at 32 _ _ w1]
          simp only [w2, outOf, if_true]
          rw [cut_at 32 (itoa a) (itoa b) i1]
          simp only [opd, if_neg k3, if_neg kb3, i2, j2, Bool.true_and, if_true]
          rw [if_pos ⟨trivial, by unfold txt; rw [if_neg k0, if_neg k3, if_neg kb0]⟩]
        · unfold parse parseAt
          rw [show (nm op ++ 32 :: (itoa a ++ 32 :: itoa b)) ++ [32, 49] = nm op ++ 32 :: (itoa a ++ 32 :: (itoa b ++ [32, 49])) by simp, cut_at 32 _ _ w1]
          simp only [w2, outOf, if_true]
          rw [cut_at 32 (itoa a) (itoa b ++ [32, 49]) i1]
          simp only [opd, if_neg k3, i2, Bool.true_and, if_true]
          rw [if_neg]
          rintro ⟨_, h2⟩
          unfold txt at h2
          rw [if_neg k0, if_neg k3, if_neg kb0] at h2
          have h3 := List.append_cancel_left (Option.some.inj h2)
          have h4 := List.append_cancel_left (List.cons.inj h3).2
          have h5 := (List.cons.inj h4).2
          exact itoa_ne32 _ 32 (by rw [h5]; simp) rfl
end Go.Proofs.YtnegdimhejldfaaGreatDoor.dec
