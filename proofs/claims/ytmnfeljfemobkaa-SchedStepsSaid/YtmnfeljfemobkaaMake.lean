/- sched.New's region: what each of its operations leaves; the invariant over what is done. -/
import Derived.Test.YtmnfeljfemobkaaOps
import Derived.Test.YtmnfeljfemobkaaAny
namespace Go.Proofs.Ytmnfeljfemobkaa.new
open Go Go.RowKit Go.Lib Go.Conc Go.Proofs Go.Proofs.Ytmnfeljfemobkaa.lend Go.Proofs.Ytmnfeljfemobkaa.feed Go.Proofs.Ytmnfeljfemobkaa.any
set_option linter.unusedVariables false
/-- what New was called with -/
structure Arg where
  n : Nat
  x1 : Addr
  n1 : Nat
  c1 : Nat
  x2 : Addr
  n2 : Nat
  c2 : Nat
  sc : List Int
  inp : List Int
/-- the parts, apart -/
structure Blk.Parts (B : Blk) : Prop where
  bs : B.bs ≠ B.bp ∧ B.bs ≠ B.f1 ∧ B.bs ≠ B.ch1 ∧ B.bs ≠ B.g1 ∧ B.bs ≠ B.f2 ∧ B.bs ≠ B.ch2 ∧ B.bs ≠ B.g2
  bp : B.bp ≠ B.f1 ∧ B.bp ≠ B.ch1 ∧ B.bp ≠ B.g1 ∧ B.bp ≠ B.f2 ∧ B.bp ≠ B.ch2 ∧ B.bp ≠ B.g2
  f1 : (B.f1 ≠ B.ch1 ∧ B.f1 ≠ B.g1 ∧ B.ch1 ≠ B.g1) ∧ B.f1 ≠ B.f2 ∧ B.f1 ≠ B.ch2 ∧ B.f1 ≠ B.g2 ∧ B.ch1 ≠ B.f2 ∧ B.ch1 ≠ B.ch2 ∧ B.ch1 ≠ B.g2 ∧ B.g1 ≠ B.f2 ∧ B.g1 ≠ B.ch2 ∧ B.g1 ≠ B.g2
  f2 : B.f2 ≠ B.ch2 ∧ B.f2 ≠ B.g2 ∧ B.ch2 ≠ B.g2
def MadeRow (A : Arg) (lo hi : Nat) (v : Value) (W : World) : Prop := ∃ b, lo ≤ b ∧ b < hi ∧ v = .slice (some ⟨b, 0, none⟩) A.n A.n ∧ Row W b (List.replicate A.n 0)
def MadeFeed (zs : List Int) (lo hi : Nat) (v : Value) (W : World) : Prop := ∃ f ch g, (lo ≤ f ∧ f < hi ∧ lo ≤ ch ∧ ch < hi ∧ lo ≤ g ∧ g < hi) ∧ (f ≠ ch ∧ f ≠ g ∧ ch ≠ g) ∧ v = .pointer (some ⟨f, 0, none⟩) ∧ Feed W f ch g zs
def MadeAgg (A : Arg) (base : Nat) (v : Value) (W : World) : Prop := ∃ B : Blk, v = .agg #[.slice (some ⟨B.bs, 0, none⟩) A.n A.n, .slice (some ⟨B.bp, 0, none⟩) A.n A.n, .pointer (some ⟨B.f1, 0, none⟩), .pointer (some ⟨B.f2, 0, none⟩), .int .i64 0, .int .i64 0] ∧ B.Parts ∧
  (base ≤ B.bs ∧ base ≤ B.bp ∧ base ≤ B.f1 ∧ base ≤ B.ch1 ∧ base ≤ B.g1 ∧ base ≤ B.f2 ∧ base ≤ B.ch2 ∧ base ≤ B.g2) ∧ Row W B.bs (List.replicate A.n 0) ∧ Row W B.bp (List.replicate A.n 0) ∧ Feed W B.f1 B.ch1 B.g1 A.sc ∧ Feed W B.f2 B.ch2 B.g2 A.inp
def MadeSched (A : Arg) (base : Nat) (v : Value) (W : World) : Prop := ∃ B : Blk, v = .pointer (some ⟨B.S, 0, none⟩) ∧ Sched W B (List.replicate A.n 0) (List.replicate A.n 0) A.sc A.inp 0 0 ∧ B.Ok ∧ ∀ b ∈ B.list, base ≤ b
def Phi (A : Arg) (base i lo hi : Nat) (v : Value) (W : World) : Prop := match i with
  | 0 => v = .int .i64 A.n
  | 1 => MadeRow A lo hi v W
  | 2 => v = .int .i64 A.n
  | 3 => MadeRow A lo hi v W
  | 4 => v = .slice (some A.x1) A.n1 A.c1
  | 5 => MadeFeed A.sc lo hi v W
  | 6 => v = .slice (some A.x2) A.n2 A.c2
  | 7 => MadeFeed A.inp lo hi v W
  | 8 => MadeAgg A base v W
  | 9 => MadeSched A base v W
  | 10 => MadeSched A base v W
  | 11 => v = .int .i64 0
  | _ => True
theorem sched_ext {a b : World} (h : Ext a b) {B : Blk} {st pk sc inp : List Int} {skips at_ : Int} : Sched a B st pk sc inp skips at_ → Sched b B st pk sc inp skips at_
  | ⟨h1, h2, h3, h4, h5⟩ => ⟨h.at h1, h.row h2, h.row h3, h.feed h4, h.feed h5⟩
theorem Phi.ext {A : Arg} {base i lo hi : Nat} {v : Value} {W W' : World} (h : Ext W W') (k : Phi A base i lo hi v W) : Phi A base i lo hi v W' := by
  unfold Phi at k ⊢
  split at k
  case h_1 | h_3 | h_5 | h_7 | h_12 | h_13 => exact k
  case h_2 | h_4 =>
    obtain ⟨b, h1, h2, h3, h4⟩ := k
    exact ⟨b, h1, h2, h3, h.row h4⟩
  case h_6 | h_8 =>
    obtain ⟨f, ch, g, h1, h2, h3, h4⟩ := k
    exact ⟨f, ch, g, h1, h2, h3, h.feed h4⟩
  case h_9 =>
    obtain ⟨B, h1, h2, h3, h4, h5, h6, h7⟩ := k
    exact ⟨B, h1, h2, h3, h.row h4, h.row h5, h.feed h6, h.feed h7⟩
  case h_10 | h_11 =>
    obtain ⟨B, h1, h2, h3, h4⟩ := k
    exact ⟨B, h1, sched_ext h h2, h3, h4⟩
def frameN (A : Arg) (v : Nat → Value) : Act := ⟨#[.int .i64 A.n, .slice (some A.x1) A.n1 A.c1, .slice (some A.x2) A.n2 A.c2, undef, undef, undef, v 10, v 11, .int .i64 A.n, .bool false, .bool false, .int .i64 A.n, .bool false, .bool false, v 0, v 1, v 2, v 3, v 4, v 5, v 6, v 7, v 8, v 9], []⟩
def updV (v : Nat → Value) (i : Nat) (x : Value) : Nat → Value := fun j => if j = i then x else v j
def slot (i : Nat) : Nat := if i < 10 then 14 + i else i - 4
theorem frame_put (A : Arg) (v : Nat → Value) (i : Nat) (x : Value) (hi : i < 12) : (frameN A v).put (some (slot i)) x = frameN A (updV v i x) := by
  match i, hi with
  | 0, _ | 1, _ | 2, _ | 3, _ | 4, _ | 5, _ | 6, _ | 7, _ | 8, _ | 9, _ | 10, _ | 11, _ => rfl
def Inv (A : Arg) (w0 : World) (L : Array Bool) (a : Act) (W : World) : Prop := Ext w0 W ∧ ∃ (lo hi : Nat → Nat) (v : Nat → Value), a = frameN A v ∧ (∀ j, L.getD j false = true → w0.heap.size ≤ lo j ∧ hi j ≤ W.heap.size ∧ Phi A w0.heap.size j (lo j) (hi j) (v j) W) ∧ ∀ j k, L.getD j false = true → L.getD k false = true → j ≠ k → hi j ≤ lo k ∨ hi k ≤ lo j
theorem Inv.step {A : Arg} {w0 W W' : World} {L : Array Bool} {lo hi : Nat → Nat} {v : Nat → Value} {i : Nat} {x : Value} (h0 : Ext w0 W) (h1 : ∀ j, L.getD j false = true → w0.heap.size ≤ lo j ∧ hi j ≤ W.heap.size ∧ Phi A w0.heap.size j (lo j) (hi j) (v j) W) (h2 : ∀ j k, L.getD j false = true → L.getD k false = true → j ≠ k → hi j ≤ lo k ∨ hi k ≤ lo j)
    (hi12 : i < 12) (hL : L.size = 12) (he : Ext W W') (hx : Phi A w0.heap.size i W.heap.size W'.heap.size x W') : Inv A w0 (L.setIfInBounds i true) ((frameN A v).put (some (slot i)) x) W' := by
  rw [frame_put A v i x hi12]
  have hz : W.heap.size ≤ W'.heap.size := he.size
  have hz0 : w0.heap.size ≤ W.heap.size := h0.size
  refine ⟨h0.trans he, fun j => if j = i then W.heap.size else lo j, fun j => if j = i then W'.heap.size else hi j, updV v i x, rfl, fun j hj => ?_, fun j k hj hk hne => ?_⟩
  · rw [getD_set (by omega)] at hj
    by_cases e : j = i
    · subst e
      simp only [updV, if_true]
      exact ⟨hz0, Nat.le_refl _, hx⟩
    · rw [if_neg e] at hj
      obtain ⟨a1, a2, a3⟩ := h1 j hj
      simp only [updV, if_neg e]
      exact ⟨a1, by omega, a3.ext he⟩
  · rw [getD_set (by omega)] at hj hk
    by_cases e : j = i
    · have e2 : ¬ k = i := by omega
      rw [if_neg e2] at hk
      simp only [if_pos e, if_neg e2]
      exact .inr (h1 k hk).2.1
    · rw [if_neg e] at hj
      by_cases e2 : k = i
      · simp only [if_neg e, if_pos e2]
        exact .inl (h1 j hj).2.1
      · rw [if_neg e2] at hk
        simp only [if_neg e, if_neg e2]
        exact h2 j k hj hk hne
end Go.Proofs.Ytmnfeljfemobkaa.new
