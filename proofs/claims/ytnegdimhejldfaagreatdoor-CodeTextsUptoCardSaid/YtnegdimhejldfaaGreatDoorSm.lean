/- Small functions of the document's code: walks. -/
import Derived.Test.YtnegdimhejldfaaGreatDoorPs
namespace Go.Proofs.YtnegdimhejldfaaGreatDoor.cw
open Go Go.RowKit Go.Lib Go.Proofs Go.Joins Go.Proofs.YtnegdimhejldfaaGreatDoor.dec
set_option linter.unusedVariables false
set_option maxRecDepth 100000
variable {w : World}
def endsB (x : Int) : Bool := x == 9 || x == 29 || x == 30 || x == 31 || x == 32
def jumpsB (x : Int) : Bool := decide (9 ≤ x) && decide (x ≤ 13)
theorem ends15 (x : Int) : Calls Tryz.prog 15 #[.int .i64 x] w fun e w' => e = .returned (.bool (endsB x)) ∧ Ext w w' := by
  rcases Decidable.em (x = 9) with rfl | h1
  · go_enter Tryz.func15, Tryz.ntmps15
    go_wp2_with fail
    go_ret
    exact ⟨rfl, Ext.refl _⟩
  rcases Decidable.em (x = 29) with rfl | h2
  · go_enter Tryz.func15, Tryz.ntmps15
    go_wp2_with fail
    go_ret
    exact ⟨rfl, Ext.refl _⟩
  rcases Decidable.em (x = 30) with rfl | h3
  · go_enter Tryz.func15, Tryz.ntmps15
    go_wp2_with fail
    go_ret
    exact ⟨rfl, Ext.refl _⟩
  rcases Decidable.em (x = 31) with rfl | h4
  · go_enter Tryz.func15, Tryz.ntmps15
    go_wp2_with fail
    go_ret
    exact ⟨rfl, Ext.refl _⟩
  rcases Decidable.em (x = 32) with rfl | h5
  · go_enter Tryz.func15, Tryz.ntmps15
    go_wp2_with fail
    go_ret
    exact ⟨rfl, Ext.refl _⟩
  have b1 : (x == 9) = false := beq_eq_false_iff_ne.2 h1
  have b2 : (x == 29) = false := beq_eq_false_iff_ne.2 h2
  have b3 : (x == 30) = false := beq_eq_false_iff_ne.2 h3
  have b4 : (x == 31) = false := beq_eq_false_iff_ne.2 h4
  have b5 : (x == 32) = false := beq_eq_false_iff_ne.2 h5
  have E : Aside (endsB x = false) := by unfold Aside endsB; rw [b1, b2, b3, b4, b5]; rfl
  go_enter Tryz.func15, Tryz.ntmps15
  go_wp2_with fail
  go_ret
  exact ⟨by rw [E.out]; rfl, Ext.refl _⟩
theorem jumps17 (x : Int) : Calls Tryz.prog 17 #[.int .i64 x] w fun e w' => e = .returned (.bool (jumpsB x)) ∧ Ext w w' := by
  rcases Decidable.em (x = 9) with rfl | h1
  · go_enter Tryz.func17, Tryz.ntmps17
    go_wp2_with fail
    go_ret
    exact ⟨rfl, Ext.refl _⟩
  rcases Decidable.em (x = 10) with rfl | h2
  · go_enter Tryz.func17, Tryz.ntmps17
    go_wp2_with fail
    go_ret
    exact ⟨rfl, Ext.refl _⟩
  rcases Decidable.em (x = 11) with rfl | h3
  · go_enter Tryz.func17, Tryz.ntmps17
    go_wp2_with fail
    go_ret
    exact ⟨rfl, Ext.refl _⟩
  rcases Decidable.em (x = 12) with rfl | h4
  · go_enter Tryz.func17, Tryz.ntmps17
    go_wp2_with fail
    go_ret
    exact ⟨rfl, Ext.refl _⟩
  rcases Decidable.em (x = 13) with rfl | h5
  · go_enter Tryz.func17, Tryz.ntmps17
    go_wp2_with fail
    go_ret
    exact ⟨rfl, Ext.refl _⟩
  have b1 : (x == 9) = false := beq_eq_false_iff_ne.2 h1
  have b2 : (x == 10) = false := beq_eq_false_iff_ne.2 h2
  have b3 : (x == 11) = false := beq_eq_false_iff_ne.2 h3
  have b4 : (x == 12) = false := beq_eq_false_iff_ne.2 h4
  have b5 : (x == 13) = false := beq_eq_false_iff_ne.2 h5
  have E : Aside (jumpsB x = false) := by
    unfold Aside jumpsB
    by_cases h : 9 ≤ x
    · rw [decide_eq_false (by omega : ¬ x ≤ 13), Bool.and_false]
    · rw [decide_eq_false h, Bool.false_and]
  go_enter Tryz.func17, Tryz.ntmps17
  go_wp2_with fail
  go_ret
  exact ⟨by rw [E.out]; rfl, Ext.refl _⟩
theorem ends16 (x : Int) : Calls Tryz.prog 16 #[.int .i64 x] w fun e w' => e = .returned (.bool (endsB x)) ∧ Ext w w' := by
  go_enter Tryz.func16, Tryz.ntmps16
  go_wp2_with fail
  all_goals (go_ret; refine ⟨?_, Ext.refl _⟩)
  all_goals (subst_vars; rfl)
theorem jumps18 (x : Int) : Calls Tryz.prog 18 #[.int .i64 x] w fun e w' => e = .returned (.bool (jumpsB x)) ∧ Ext w w' := by
  go_enter Tryz.func18, Tryz.ntmps18
  go_wp2_with fail
  all_goals (go_ret; refine ⟨?_, Ext.refl _⟩)
  all_goals (unfold jumpsB; first | (rw [decide_eq_true (by assumption : 9 ≤ x)]; rfl) | (rw [decide_eq_false (by omega : ¬ 9 ≤ x)]; rfl))
/-- the texts are the same -/
theorem same_ok (xs : List (List UInt8)) (g g' c c' : Nat) (hx : xs.length ≤ 100) (hc : xs.length ≤ c) (hc' : xs.length ≤ c') (h : Texts w g xs) (h' : Texts w g' xs) :
    Calls Tryz.prog 13 #[.slice (some ⟨g, 0, none⟩) xs.length c, .slice (some ⟨g', 0, none⟩) xs.length c'] w fun e w' => e = .returned (.bool true) ∧ Ext w w' := by
  have T : Aside (Texts w g xs ∧ Texts w g' xs) := ⟨h, h'⟩
  obtain ⟨n, hn⟩ : ∃ n, n = xs.length := ⟨_, rfl⟩
  rw [← hn] at hx hc hc' ⊢
  have N : Aside (n = xs.length) := hn
  clear h h' hn
  go_enter Tryz.func13, Tryz.ntmps13
  go_wp2_with fail
  go_loopg [5] (n + 1) (fun k v5 wr => ∃ i : Nat, v5 = .int .i64 i ∧ Aside (i + k = n + 1 ∧ 1 ≤ k ∧ Ext w wr))
  case atStart => exact ⟨0, rfl, by omega, by omega, Ext.refl _⟩
  case round =>
    obtain ⟨i, rfl, hk⟩ := hrel
    obtain ⟨hk1, hk0, hk2⟩ := hk.out
    have A : Aside (i + gk = n + 1 ∧ Ext w wr) := ⟨hk1, hk2⟩
    by_cases hi : i < n
    · have d1 : decide ((i : Int) < n) = true := decide_eq_true (by omega)
      have q1 : (0 : Int) ≤ i := by omega
      have q2 : (i : Int) < n := by omega
      obtain ⟨S, hS⟩ : ∃ S, S = bs (xs.getD i []) := ⟨_, rfl⟩
      have c1 := (T.out.1.ext hk2).cell (j := i) (by have := N.out; omega)
      have c2 := (T.out.2.ext hk2).cell (j := i) (by have := N.out; omega)
      rw [← hS] at c1 c2
      clear hS hk hk0 hk1 hk2
      go_wp2_with fail
      go_quiet (fail)
      go_wp2_with fail
      go_roundg (gk - 1)
      · have a := A.out
        exact ⟨i + 1, rfl, by omega, by omega, a.2.drewN _⟩
      · have a := A.out
        omega
    · obtain ⟨rfl, rfl⟩ : i = n ∧ gk = 1 := by omega
      have d1 : decide ((i : Int) < i) = false := decide_eq_false (by omega)
      clear hk hk0 hk1 hk2
      go_wp2_with fail
      go_ret
      exact ⟨rfl, A.out.2⟩
/-- a row of texts that may be written -/
def Row (w : World) (g n i : Nat) : Prop := ∃ arr ty fz, w.heap[g]? = some (.cells arr ty fz) ∧ (∀ j, j < n → ¬ (fz.1 ≤ j ∧ j < fz.2)) ∧ ∀ j, i ≤ j → j < n → ∃ S : ByteArray, arr[j]? = some (.string S) ∧ S.size ≤ 11
/-- all but a block is as it was -/
structure But (w w' : World) (g : Nat) : Prop where
  os : w'.os = w.os
  tape : w'.tape = w.tape
  output : w'.output = w.output
  size : w'.heap.size = w.heap.size
  block : ∀ k, k ≠ g → w'.heap[k]? = w.heap[k]?
theorem But.refl (w : World) (g : Nat) : But w w g := ⟨rfl, rfl, rfl, rfl, fun _ _ => rfl⟩
theorem But.set {w w' : World} {g : Nat} (h : But w w' g) (i : Nat) (v : Value) : But w (w'.setCell ⟨g, i, none⟩ v) g :=
  ⟨h.os, h.tape, h.output, by have := h.size; simpa [World.setCell] using this, fun k hk => (set_other _ _ _ _ _ hk).trans (h.block k hk)⟩
theorem But.drewN {w w' : World} {g : Nat} (h : But w w' g) (m : Nat) : But w (w'.drewN m) g := ⟨h.os, h.tape, h.output, h.size, h.block⟩
theorem Row.drewN {w : World} {g n i : Nat} (h : Row w g n i) (m : Nat) : Row (w.drewN m) g n i := h
theorem Row.cell {w : World} {g n i : Nat} (h : Row w g n i) (hi : i < n) : ∃ S : ByteArray, w.cell? ⟨g, i, none⟩ = some (.string S) ∧ S.size ≤ 11 ∧ w.frozen? ⟨g, i, none⟩ = false := by
  obtain ⟨arr, ty, fz, h1, h2, h3⟩ := h
  obtain ⟨S, h4, h5⟩ := h3 i (Nat.le_refl _) hi
  refine ⟨S, by simp only [World.cell?, h1]; exact h4, h5, ?_⟩
  have := h2 i hi
  simp [World.frozen?, h1]
  omega
theorem Row.set {w : World} {g n i : Nat} (h : Row w g n i) (v : Value) : Row (w.setCell ⟨g, i, none⟩ v) g n (i + 1) := by
  obtain ⟨arr, ty, fz, h1, h2, h3⟩ := h
  refine ⟨_, ty, fz, set_at w g i v h1, h2, fun j hj hn => ?_⟩
  obtain ⟨S, h4, h5⟩ := h3 j (by omega) hn
  exact ⟨S, by rw [Array.getElem?_setIfInBounds_ne (by omega)]; exact h4, h5⟩
theorem spoil_ok (g n c : Nat) (hn : n ≤ 100) (hc : n ≤ c) (h : Row w g n 0) :
    Calls Tryz.prog 11 #[.slice (some ⟨g, 0, none⟩) n c] w fun e w' => (∃ v, e = .returned v) ∧ But w w' g := by
  have T : Aside (Row w g n 0) := h
  clear h
  go_enter Tryz.func11, Tryz.ntmps11
  go_wp2_with fail
  go_loopg [2] (n + 1) (fun k v5 wr => ∃ i : Nat, v5 = .int .i64 i ∧ Aside (i + k = n + 1 ∧ 1 ≤ k ∧ Row wr g n i ∧ But w wr g))
  case atStart => exact ⟨0, rfl, by omega, by omega, T.out, But.refl _ _⟩
  case round =>
    obtain ⟨i, rfl, hk⟩ := hrel
    obtain ⟨hk1, hk0, hk2, hk3⟩ := hk.out
    have A : Aside (i + gk = n + 1 ∧ Row wr g n i ∧ But w wr g) := ⟨hk1, hk2, hk3⟩
    by_cases hi : i < n
    · have d1 : decide ((i : Int) < n) = true := decide_eq_true (by omega)
      have q1 : (0 : Int) ≤ i := by omega
      have q2 : (i : Int) < n := by omega
      obtain ⟨S, c1, c2, c3⟩ := hk2.cell hi
      have n1 : ¬ 9223372036854775807 < 1 + S.size := by omega
      clear hk hk0 hk1 hk2 hk3
      go_wp2_with fail
      go_roundg (gk - 1)
      · have a := A.out
        exact ⟨i + 1, rfl, by omega, by omega, a.2.1.set _, a.2.2.set _ _⟩
      · have a := A.out
        omega
    · obtain ⟨rfl, rfl⟩ : i = n ∧ gk = 1 := by omega
      have d1 : decide ((i : Int) < i) = false := decide_eq_false (by omega)
      clear hk hk0 hk1 hk2 hk3
      go_wp2_with fail
      exact bodyPost_end (v := .tuple #[]) (by simp [results, Tryz.results11, go_sem]) rfl ⟨⟨_, rfl⟩, A.out.2.2⟩
def place (xs : List (List UInt8)) (x : List UInt8) : Int := match xs.idxOf? x with | some i => i | none => -1
theorem place_ok (xs : List (List UInt8)) (x : List UInt8) (g c : Nat) (hx : xs.length ≤ 100) (hc : xs.length ≤ c) (h : Texts w g xs) :
    Calls Tryz.prog 30 #[.slice (some ⟨g, 0, none⟩) xs.length c, .string (bs x)] w fun e w' => e = .returned (.int .i64 (place xs x)) ∧ Ext w w' := by
  have T : Aside (Texts w g xs) := h
  obtain ⟨n, hn⟩ : ∃ n, n = xs.length := ⟨_, rfl⟩
  rw [← hn] at hx hc ⊢
  have N : Aside (n = xs.length) := hn
  clear h hn
  go_enter Tryz.func30, Tryz.ntmps30
  go_wp2_with fail
  go_loopg [5] (n + 1) (fun k v5 wr => ∃ i : Nat, v5 = .int .i64 i ∧ Aside (i + k = n + 1 ∧ 1 ≤ k ∧ Ext w wr ∧ ∀ j, j < i → xs.getD j [] ≠ x))
  case atStart => exact ⟨0, rfl, by omega, by omega, Ext.refl _, fun j hj => absurd hj (Nat.not_lt_zero j)⟩
  case round =>
    obtain ⟨i, rfl, hk⟩ := hrel
    obtain ⟨hk1, hk0, hk2, hk3⟩ := hk.out
    have A : Aside (i + gk = n + 1 ∧ Ext w wr ∧ ∀ j, j < i → xs.getD j [] ≠ x) := ⟨hk1, hk2, hk3⟩
    by_cases hi : i < n
    · have d1 : decide ((i : Int) < n) = true := decide_eq_true (by omega)
      have q1 : (0 : Int) ≤ i := by omega
      have q2 : (i : Int) < n := by omega
      have c1 := (T.out.ext hk2).cell (j := i) (by have := N.out; omega)
      by_cases he : xs.getD i [] = x
      · have F : Aside (place xs x = i) := by
          unfold place Aside
          rw [find_at (by have := N.out; omega) he hk3]
        rw [he] at c1
        clear he hk hk0 hk1 hk2 hk3
        go_wp2_with fail
        go_ret
        exact ⟨by rw [F.out]; rfl, A.out.2.1⟩
      · have f1 : (xs.getD i [] == x) = false := beq_eq_false_iff_ne.2 he
        have Z : Aside (xs.getD i [] ≠ x) := he
        obtain ⟨y, hy⟩ : ∃ y, y = xs.getD i [] := ⟨_, rfl⟩
        rw [← hy] at c1 f1
        clear he hy hk hk0 hk1 hk2 hk3
        go_wp2_with fail
        go_roundg (gk - 1)
        · have a := A.out
          exact ⟨i + 1, rfl, by omega, by omega, a.2.1, fun j hj => if e : j = i then e ▸ Z.out else a.2.2 j (by omega)⟩
        · have a := A.out
          omega
    · obtain ⟨rfl, rfl⟩ : i = n ∧ gk = 1 := by omega
      have d1 : decide ((i : Int) < i) = false := decide_eq_false (by omega)
      have F : Aside (place xs x = -1) := by
        unfold place Aside
        rw [find_no (fun j hj => A.out.2.2 j (by have := N.out; omega))]
      clear hk hk0 hk1 hk2 hk3
      go_wp2_with fail
      go_ret
      exact ⟨by rw [F.out]; rfl, A.out.2.1⟩
end Go.Proofs.YtnegdimhejldfaaGreatDoor.cw
