/- What a Sched's methods answer: walks. -/
import Derived.Test.YtmnfeljfemobkaaState
namespace Go.Proofs.Ytmnfeljfemobkaa.new
open Go Go.RowKit Go.Lib Go.Conc Go.Proofs Go.Proofs.Ytmnfeljfemobkaa.lend Go.Proofs.Ytmnfeljfemobkaa.feed
set_option linter.unusedVariables false
set_option maxRecDepth 100000
variable {B : Blk} {st pk sc inp : List Int} {skips at_ : Int} {w : World}
theorem skips_ok (h : Sched w B st pk sc inp skips at_) : Calls Try.prog 16 #[.pointer (some ⟨B.S, 0, none⟩)] w fun e w' => e = .returned (.int .i64 skips) ∧ w' = w := by
  have hc : w.cell? ⟨B.S, 4, none⟩ = some (.int .i64 skips) := by simp [World.cell?, h.1]
  clear h
  go_enter Try.func16, Try.ntmps16
  go_wp2
  go_ret
  exact ⟨rfl, rfl⟩
theorem at_ok (h : Sched w B st pk sc inp skips at_) : Calls Try.prog 17 #[.pointer (some ⟨B.S, 0, none⟩)] w fun e w' => e = .returned (.int .i64 at_) ∧ w' = w := by
  have hc : w.cell? ⟨B.S, 5, none⟩ = some (.int .i64 at_) := by simp [World.cell?, h.1]
  clear h
  go_enter Try.func17, Try.ntmps17
  go_wp2
  go_ret
  exact ⟨rfl, rfl⟩
theorem Row.cell {b j : Nat} {zs : List Int} (h : Row w b zs) (hj : j < zs.length) : w.cell? ⟨b, j, none⟩ = some (.int .i64 (zs.getD j 0)) := by
  obtain ⟨cur, h1, h2, h3⟩ := h
  simp only [World.cell?, h1]
  exact h3 j hj
theorem Row.fz {b j : Nat} {zs : List Int} (h : Row w b zs) : w.frozen? ⟨b, j, none⟩ = false := by
  obtain ⟨cur, h1, h2, h3⟩ := h
  simp [World.frozen?, h1]
set_option maxHeartbeats 1000000 in
theorem picks_in (h : Sched w B st pk sc inp skips at_) (i : Nat) (hi : i < pk.length) : Calls Try.prog 20 #[.pointer (some ⟨B.S, 0, none⟩), .int .i64 i] w fun e w' => e = .returned (.int .i64 (pk.getD i 0)) ∧ w' = w := by
  have hc : w.cell? ⟨B.S, 1, none⟩ = some (.slice (some ⟨B.bp, 0, none⟩) pk.length pk.length) := by simp [World.cell?, h.1]
  have hp : w.cell? ⟨B.bp, i, none⟩ = some (.int .i64 (pk.getD i 0)) := h.2.2.1.cell hi
  have hd1 : decide ((i : Int) < 0) = false := decide_eq_false (by omega)
  have hd2 : decide ((i : Int) ≥ (pk.length : Int)) = false := decide_eq_false (by omega)
  have hd3 : decide ((pk.length : Int) ≤ (i : Int)) = false := decide_eq_false (by omega)
  have h1 : (0 : Int) ≤ i := by omega
  have h2 : (i : Int) < (pk.length : Int) := by omega
  clear h hi
  go_enter Try.func20, Try.ntmps20
  go_wp2
  repeat (go_quiet (fail); try go_wp2)
  go_ret
  exact ⟨by simp, rfl⟩
set_option maxHeartbeats 1000000 in
theorem picks_out (h : Sched w B st pk sc inp skips at_) (i : Int) (hi : i < 0 ∨ (pk.length : Int) ≤ i) : Calls Try.prog 20 #[.pointer (some ⟨B.S, 0, none⟩), .int .i64 i] w fun e w' => e = .returned (.int .i64 0) ∧ w' = w := by
  have hc : w.cell? ⟨B.S, 1, none⟩ = some (.slice (some ⟨B.bp, 0, none⟩) pk.length pk.length) := by simp [World.cell?, h.1]
  by_cases h0 : i < 0
  · have hd1 : decide (i < 0) = true := decide_eq_true h0
    clear h hi
    go_enter Try.func20, Try.ntmps20
    go_wp2
    repeat (go_quiet (fail); try go_wp2)
    go_ret
    exact ⟨rfl, rfl⟩
  · have hd1 : decide (i < 0) = false := decide_eq_false h0
    have hd2 : decide (i ≥ (pk.length : Int)) = true := decide_eq_true (by omega)
    have hd3 : decide ((pk.length : Int) ≤ i) = true := decide_eq_true (by omega)
    clear h hi
    go_enter Try.func20, Try.ntmps20
    go_wp2
    repeat (go_quiet (fail); try go_wp2)
    go_ret
    exact ⟨rfl, rfl⟩
set_option maxHeartbeats 4000000 in
theorem set_bad (h : Sched w B st pk sc inp skips at_) (a s : Int) (hb : a < 0 ∨ (st.length : Int) ≤ a ∨ s < 0 ∨ 2 < s) : Calls Try.prog 15 #[.pointer (some ⟨B.S, 0, none⟩), .int .i64 a, .int .i64 s] w fun e w' => e = .returned (.int .i64 401) ∧ w' = w := by
  have hc : w.cell? ⟨B.S, 0, none⟩ = some (.slice (some ⟨B.bs, 0, none⟩) st.length st.length) := by simp [World.cell?, h.1]
  clear h
  by_cases h1 : a < 0
  · have hd1 : decide (a < 0) = true := decide_eq_true h1
    clear hb
    go_enter Try.func15, Try.ntmps15
    go_wp2
    go_ret
    exact ⟨rfl, rfl⟩
  by_cases h2 : (st.length : Int) ≤ a
  · have hd1 : decide (a < 0) = false := decide_eq_false h1
    have hd2 : decide (a ≥ (st.length : Int)) = true := decide_eq_true h2
    have hd3 : decide ((st.length : Int) ≤ a) = true := decide_eq_true h2
    clear hb
    go_enter Try.func15, Try.ntmps15
    go_wp2
    go_ret
    exact ⟨rfl, rfl⟩
  by_cases h3 : s < 0
  · have hd1 : decide (a < 0) = false := decide_eq_false h1
    have hd2 : decide (a ≥ (st.length : Int)) = false := decide_eq_false h2
    have hd3 : decide ((st.length : Int) ≤ a) = false := decide_eq_false h2
    have hd4 : decide (s < 0) = true := decide_eq_true h3
    clear hb
    go_enter Try.func15, Try.ntmps15
    go_wp2
    go_ret
    exact ⟨rfl, rfl⟩
  · have hd1 : decide (a < 0) = false := decide_eq_false h1
    have hd2 : decide (a ≥ (st.length : Int)) = false := decide_eq_false h2
    have hd3 : decide ((st.length : Int) ≤ a) = false := decide_eq_false h2
    have hd4 : decide (s < 0) = false := decide_eq_false h3
    have h4 : 2 < s := by omega
    have hd5 : decide (s > 2) = true := decide_eq_true h4
    have hd6 : decide (2 < s) = true := decide_eq_true h4
    clear hb
    go_enter Try.func15, Try.ntmps15
    go_wp2
    go_ret
    exact ⟨rfl, rfl⟩
set_option maxHeartbeats 4000000 in
theorem set_dead (h : Sched w B st pk sc inp skips at_) (a : Nat) (s : Int) (ha : a < st.length) (hs : 0 ≤ s ∧ s ≤ 2) (hdead : st.getD a 0 = 2) : Calls Try.prog 15 #[.pointer (some ⟨B.S, 0, none⟩), .int .i64 a, .int .i64 s] w fun e w' => e = .returned (.int .i64 0) ∧ w' = w := by
  have hc : w.cell? ⟨B.S, 0, none⟩ = some (.slice (some ⟨B.bs, 0, none⟩) st.length st.length) := by simp [World.cell?, h.1]
  have hp : w.cell? ⟨B.bs, a, none⟩ = some (.int .i64 2) := by rw [← hdead]; exact h.2.1.cell ha
  have hd1 : decide ((a : Int) < 0) = false := decide_eq_false (by omega)
  have hd2 : decide ((a : Int) ≥ (st.length : Int)) = false := decide_eq_false (by omega)
  have hd3 : decide ((st.length : Int) ≤ (a : Int)) = false := decide_eq_false (by omega)
  have hd4 : decide (s < 0) = false := decide_eq_false (by omega)
  have hd5 : decide (s > 2) = false := decide_eq_false (by omega)
  have hd6 : decide (2 < s) = false := decide_eq_false (by omega)
  have h1 : (0 : Int) ≤ a := by omega
  have h2 : (a : Int) < (st.length : Int) := by omega
  clear h ha hs hdead
  go_enter Try.func15, Try.ntmps15
  go_wp2
  repeat (go_quiet (fail); try go_wp2)
  go_ret
  exact ⟨rfl, rfl⟩
theorem Row.put {b j : Nat} {zs : List Int} (h : Row w b zs) (x : Int) : Row (w.setCell ⟨b, j, none⟩ (.int .i64 x)) b (zs.set j x) := by
  obtain ⟨cur, h1, h2, h3⟩ := h
  refine ⟨_, setCell_at w b j _ h1, by simpa using h2, fun i hi => ?_⟩
  simp at hi
  by_cases e : j = i
  · subst e
    simp [List.getD, hi, show j < cur.size by omega]
  · rw [Array.getElem?_setIfInBounds_ne e, h3 i hi]
    simp [List.getD, List.getElem?_set_ne e]
theorem Row.keep {w' : World} {b : Nat} {zs : List Int} (h : Row w b zs) (e : w'.heap[b]? = w.heap[b]?) : Row w' b zs := by
  obtain ⟨cur, h1, h2, h3⟩ := h
  exact ⟨cur, e.trans h1, h2, h3⟩
theorem fkeep {w' : World} {f ch g : Nat} {zs : List Int} (h : Feed w f ch g zs) (e1 : w'.heap[f]? = w.heap[f]?) (e2 : w'.heap[ch]? = w.heap[ch]?) (e3 : w'.heap[g]? = w.heap[g]?) : Feed w' f ch g zs := by
  obtain ⟨off, cap, cur, s, r, h1, h2, h3, h4, h5⟩ := h
  exact ⟨off, cap, cur, s, r, e1.trans h1, e2.trans h2, e3.trans h3, h4, h5⟩
/-- the blocks are nine -/
structure Blk.Ok (B : Blk) : Prop where
  S : B.S ≠ B.bs ∧ B.S ≠ B.bp ∧ B.S ≠ B.f1 ∧ B.S ≠ B.ch1 ∧ B.S ≠ B.g1 ∧ B.S ≠ B.f2 ∧ B.S ≠ B.ch2 ∧ B.S ≠ B.g2
  bs : B.bs ≠ B.bp ∧ B.bs ≠ B.f1 ∧ B.bs ≠ B.ch1 ∧ B.bs ≠ B.g1 ∧ B.bs ≠ B.f2 ∧ B.bs ≠ B.ch2 ∧ B.bs ≠ B.g2
  bp : B.bp ≠ B.f1 ∧ B.bp ≠ B.ch1 ∧ B.bp ≠ B.g1 ∧ B.bp ≠ B.f2 ∧ B.bp ≠ B.ch2 ∧ B.bp ≠ B.g2
  f1 : (B.f1 ≠ B.ch1 ∧ B.f1 ≠ B.g1 ∧ B.ch1 ≠ B.g1) ∧ B.f1 ≠ B.f2 ∧ B.f1 ≠ B.ch2 ∧ B.f1 ≠ B.g2 ∧ B.ch1 ≠ B.f2 ∧ B.ch1 ≠ B.ch2 ∧ B.ch1 ≠ B.g2 ∧ B.g1 ≠ B.f2 ∧ B.g1 ≠ B.ch2 ∧ B.g1 ≠ B.g2
  f2 : B.f2 ≠ B.ch2 ∧ B.f2 ≠ B.g2 ∧ B.ch2 ≠ B.g2
set_option maxHeartbeats 4000000 in
theorem set_ok (h : Sched w B st pk sc inp skips at_) (hB : B.Ok) (a : Nat) (s : Int) (ha : a < st.length) (hs : 0 ≤ s ∧ s ≤ 2) (hdead : st.getD a 0 ≠ 2) : Calls Try.prog 15 #[.pointer (some ⟨B.S, 0, none⟩), .int .i64 a, .int .i64 s] w fun e w' => e = .returned (.int .i64 0) ∧ Sched w' B (st.set a s) pk sc inp skips at_ ∧ Same (fun k => k = B.bs) w w' ∧ w'.heap.size = w.heap.size := by
  have hc : w.cell? ⟨B.S, 0, none⟩ = some (.slice (some ⟨B.bs, 0, none⟩) st.length st.length) := by simp [World.cell?, h.1]
  have hp : w.cell? ⟨B.bs, a, none⟩ = some (.int .i64 (st.getD a 0)) := h.2.1.cell ha
  have hf : w.frozen? ⟨B.bs, a, none⟩ = false := h.2.1.fz
  have hd1 : decide ((a : Int) < 0) = false := decide_eq_false (by omega)
  have hd2 : decide ((a : Int) ≥ (st.length : Int)) = false := decide_eq_false (by omega)
  have hd3 : decide ((st.length : Int) ≤ (a : Int)) = false := decide_eq_false (by omega)
  have hd4 : decide (s < 0) = false := decide_eq_false (by omega)
  have hd5 : decide (s > 2) = false := decide_eq_false (by omega)
  have hd6 : decide (2 < s) = false := decide_eq_false (by omega)
  have hd7 : (st.getD a 0 != 2) = true := by simpa using hdead
  have h1 : (0 : Int) ≤ a := by omega
  have h2 : (a : Int) < (st.length : Int) := by omega
  have H : Aside (Sched w B st pk sc inp skips at_ ∧ B.Ok) := ⟨h, hB⟩
  clear h ha hs hB
  generalize hv : st.getD a 0 = v at *
  clear hv
  go_enter Try.func15, Try.ntmps15
  go_wp2
  repeat (go_quiet (fail); try go_wp2)
  go_ret
  obtain ⟨h, hB⟩ := H.out
  have ho : ∀ k, k ≠ B.bs → (w.setCell ⟨B.bs, a, none⟩ (.int .i64 s)).heap[k]? = w.heap[k]? := fun k hk => setCell_other w B.bs a k _ hk
  obtain ⟨h1, h2, h3, h4, h5⟩ := h
  obtain ⟨b1, b2, b3, b4, b5, b6, b7⟩ := hB.bs
  refine ⟨rfl, ⟨(ho _ hB.S.1).trans (by simpa using h1), h2.put s, h3.keep (ho _ (Ne.symm b1)), fkeep h4 (ho _ (Ne.symm b2)) (ho _ (Ne.symm b3)) (ho _ (Ne.symm b4)), fkeep h5 (ho _ (Ne.symm b5)) (ho _ (Ne.symm b6)) (ho _ (Ne.symm b7))⟩, ⟨rfl, rfl, rfl, by rw [setCell_size]; exact Nat.le_refl _, fun k _ hk => ho k hk⟩, setCell_size _ _ _⟩
/-! ### Input -/
set_option maxHeartbeats 4000000 in
theorem input_shut (h : Sched w B st pk sc [] skips at_) : Calls Try.prog 10 #[.pointer (some ⟨B.S, 0, none⟩)] w fun e w' => e = .returned (.int .i64 0) ∧ w' = w := by
  have hc : w.cell? ⟨B.S, 3, none⟩ = some (.pointer (some ⟨B.f2, 0, none⟩)) := by simp [World.cell?, h.1]
  have H : Aside (Feed w B.f2 B.ch2 B.g2 []) := h.2.2.2.2
  clear h
  go_enter Try.func10, Try.ntmps10
  go_wp2_with (go_at_call 22; refine (next_shut B.f2 B.ch2 B.g2 _ H.out).mono ?_; rintro e w1 ⟨rfl, rfl⟩)
  go_ret
  exact ⟨rfl, rfl⟩
set_option maxHeartbeats 4000000 in
theorem input_open (x : Int) (h : Sched w B st pk sc (x :: inp) skips at_) (hB : B.Ok) : Calls Try.prog 10 #[.pointer (some ⟨B.S, 0, none⟩)] w fun e w' => e = .returned (.int .i64 x) ∧ Sched w' B st pk sc inp skips at_ ∧ Same (fun k => k = B.f2 ∨ k = B.ch2) w w' ∧ w'.heap.size = w.heap.size := by
  have hc : w.cell? ⟨B.S, 3, none⟩ = some (.pointer (some ⟨B.f2, 0, none⟩)) := by simp [World.cell?, h.1]
  have H : Aside (Sched w B st pk sc (x :: inp) skips at_ ∧ B.Ok) := ⟨h, hB⟩
  clear h hB
  go_enter Try.func10, Try.ntmps10
  go_wp2_with (go_at_call 22; refine (next_open B.f2 B.ch2 B.g2 x inp _ H.out.1.2.2.2.2 H.out.2.f2).mono ?_; rintro e w1 ⟨rfl, hF, hS, hz⟩)
  go_ret
  obtain ⟨⟨h1, h2, h3, h4, h5⟩, hB⟩ := H.out
  have l1 := lt_of_some h1
  have ho : ∀ k, k < w.heap.size → k ≠ B.f2 → k ≠ B.ch2 → w1.heap[k]? = w.heap[k]? := fun k hk a b => hS.block k hk (by rintro (e | e) <;> contradiction)
  have l4 := Feed.lt h4
  obtain ⟨c2, e2, _⟩ := h2
  obtain ⟨c3, e3, _⟩ := h3
  have l2 := lt_of_some e2
  have l3 := lt_of_some e3
  obtain ⟨s1, s2, s3, s4, s5, s6, s7, s8⟩ := hB.S
  obtain ⟨b1, b2, b3, b4, b5, b6, b7⟩ := hB.bs
  obtain ⟨p1, p2, p3, p4, p5, p6⟩ := hB.bp
  obtain ⟨_, f1, f2, f3, f4, f5, f6, f7, f8, f9⟩ := hB.f1
  exact ⟨rfl, ⟨(ho _ l1 s6 s7).trans h1, H.out.1.2.1.keep (ho _ l2 b5 b6), H.out.1.2.2.1.keep (ho _ l3 p4 p5), fkeep h4 (ho _ l4.1 f1 f2) (ho _ l4.2.1 f4 f5) (ho _ l4.2.2 f7 f8), hF⟩, hS, hz⟩
end Go.Proofs.Ytmnfeljfemobkaa.new
