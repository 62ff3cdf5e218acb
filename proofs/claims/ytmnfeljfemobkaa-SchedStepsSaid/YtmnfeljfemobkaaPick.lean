/- What a Sched's Pick answers: a walk. -/
import Derived.Test.YtmnfeljfemobkaaOps
namespace Go.Proofs.Ytmnfeljfemobkaa.new
open Go Go.RowKit Go.Lib Go.Conc Go.Proofs Go.Proofs.Ytmnfeljfemobkaa.lend Go.Proofs.Ytmnfeljfemobkaa.feed
set_option linter.unusedVariables false
set_option maxRecDepth 100000
variable {B : Blk} {st pk sc inp : List Int} {skips at_ : Int} {w : World}
set_option maxHeartbeats 4000000 in
theorem pick_shut (h : Sched w B st pk [] inp skips at_) : Calls Try.prog 9 #[.pointer (some ⟨B.S, 0, none⟩)] w fun e w' => e = .returned (.tuple #[.int .i64 (-1), .bool false]) ∧ w' = w := by
  have hc : w.cell? ⟨B.S, 2, none⟩ = some (.pointer (some ⟨B.f1, 0, none⟩)) := by simp [World.cell?, h.1]
  have H : Aside (Feed w B.f1 B.ch1 B.g1 []) := h.2.2.2.1
  clear h
  go_enter Try.func9, Try.ntmps9
  go_wp2_with (go_at_call 22; refine (next_shut B.f1 B.ch1 B.g1 _ H.out).mono ?_; rintro e w1 ⟨rfl, rfl⟩)
  go_ret2
  exact ⟨rfl, rfl⟩
/-- behind the taking of a word -/
theorem taken {x : Int} {w1 : World} (h : Sched w B st pk (x :: sc) inp skips at_) (hB : B.Ok) (hF : Feed w1 B.f1 B.ch1 B.g1 sc) (hS : Same (fun k => k = B.f1 ∨ k = B.ch1) w w1) : Sched w1 B st pk sc inp skips at_ := by
  obtain ⟨h1, h2, h3, h4, h5⟩ := h
  have l1 := lt_of_some h1
  have ho : ∀ k, k < w.heap.size → k ≠ B.f1 → k ≠ B.ch1 → w1.heap[k]? = w.heap[k]? := fun k hk a b => hS.block k hk (by rintro (e | e) <;> contradiction)
  have l5 := Feed.lt h5
  have l2 : B.bs < w.heap.size := by obtain ⟨c, e, _⟩ := h2; exact lt_of_some e
  have l3 : B.bp < w.heap.size := by obtain ⟨c, e, _⟩ := h3; exact lt_of_some e
  obtain ⟨s1, s2, s3, s4, s5, s6, s7, s8⟩ := hB.S
  obtain ⟨b1, b2, b3, b4, b5, b6, b7⟩ := hB.bs
  obtain ⟨p1, p2, p3, p4, p5, p6⟩ := hB.bp
  obtain ⟨_, f1, f2, f3, f4, f5, f6, f7, f8, f9⟩ := hB.f1
  exact ⟨(ho _ l1 s3 s4).trans h1, h2.keep (ho _ l2 b2 b3), h3.keep (ho _ l3 p1 p2), hF, fkeep h5 (ho _ l5.1 (Ne.symm f1) (Ne.symm f4)) (ho _ l5.2.1 (Ne.symm f2) (Ne.symm f5)) (ho _ l5.2.2 (Ne.symm f3) (Ne.symm f6))⟩
/-- one cell of the Sched's own block written over -/
theorem put_at {x : Int} (h : Sched w B st pk sc inp skips at_) (hB : B.Ok) : Sched (w.setCell ⟨B.S, 5, none⟩ (.int .i64 x)) B st pk sc inp skips x := by
  obtain ⟨h1, h2, h3, h4, h5⟩ := h
  have ho : ∀ k, k ≠ B.S → (w.setCell ⟨B.S, 5, none⟩ (.int .i64 x)).heap[k]? = w.heap[k]? := fun k hk => setCell_other w B.S 5 k _ hk
  obtain ⟨s1, s2, s3, s4, s5, s6, s7, s8⟩ := hB.S
  exact ⟨(setCell_at w B.S 5 _ h1).trans rfl, h2.keep (ho _ (Ne.symm s1)), h3.keep (ho _ (Ne.symm s2)), fkeep h4 (ho _ (Ne.symm s3)) (ho _ (Ne.symm s4)) (ho _ (Ne.symm s5)), fkeep h5 (ho _ (Ne.symm s6)) (ho _ (Ne.symm s7)) (ho _ (Ne.symm s8))⟩
theorem put_skips {x : Int} (h : Sched w B st pk sc inp skips at_) (hB : B.Ok) : Sched (w.setCell ⟨B.S, 4, none⟩ (.int .i64 x)) B st pk sc inp x at_ := by
  obtain ⟨h1, h2, h3, h4, h5⟩ := h
  have ho : ∀ k, k ≠ B.S → (w.setCell ⟨B.S, 4, none⟩ (.int .i64 x)).heap[k]? = w.heap[k]? := fun k hk => setCell_other w B.S 4 k _ hk
  obtain ⟨s1, s2, s3, s4, s5, s6, s7, s8⟩ := hB.S
  exact ⟨(setCell_at w B.S 4 _ h1).trans rfl, h2.keep (ho _ (Ne.symm s1)), h3.keep (ho _ (Ne.symm s2)), fkeep h4 (ho _ (Ne.symm s3)) (ho _ (Ne.symm s4)) (ho _ (Ne.symm s5)), fkeep h5 (ho _ (Ne.symm s6)) (ho _ (Ne.symm s7)) (ho _ (Ne.symm s8))⟩
theorem put_pick {x : Int} {a : Nat} (h : Sched w B st pk sc inp skips at_) (hB : B.Ok) : Sched (w.setCell ⟨B.bp, a, none⟩ (.int .i64 x)) B st (pk.set a x) sc inp skips at_ := by
  obtain ⟨h1, h2, h3, h4, h5⟩ := h
  have ho : ∀ k, k ≠ B.bp → (w.setCell ⟨B.bp, a, none⟩ (.int .i64 x)).heap[k]? = w.heap[k]? := fun k hk => setCell_other w B.bp a k _ hk
  obtain ⟨p1, p2, p3, p4, p5, p6⟩ := hB.bp
  exact ⟨(ho _ hB.S.2.1).trans (by simpa using h1), h2.keep (ho _ hB.bs.1), h3.put x, fkeep h4 (ho _ (Ne.symm p1)) (ho _ (Ne.symm p2)) (ho _ (Ne.symm p3)), fkeep h5 (ho _ (Ne.symm p4)) (ho _ (Ne.symm p5)) (ho _ (Ne.symm p6))⟩
theorem sstep {S S' : Nat → Prop} {a b c : World} (h : Same S a b) (k : Same S' b c) (hs : ∀ i, S' i → S i) : Same S a c :=
  ⟨k.os.trans h.os, k.tape.trans h.tape, k.output.trans h.output, Nat.le_trans h.size k.size, fun i hi hn => (k.block i (Nat.lt_of_lt_of_le hi h.size) (fun e => hn (hs i e))).trans (h.block i hi hn)⟩
theorem swide {S S' : Nat → Prop} {a b : World} (h : Same S a b) (hs : ∀ i, S i → S' i) : Same S' a b := ⟨h.os, h.tape, h.output, h.size, fun i hi hn => h.block i hi (fun e => hn (hs i e))⟩
theorem same_set (w : World) (b i : Nat) (v : Value) : Same (fun k => k = b) w (w.setCell ⟨b, i, none⟩ v) := ⟨rfl, rfl, rfl, by rw [setCell_size]; exact Nat.le_refl _, fun k _ hk => setCell_other w b i k v hk⟩
theorem sched_cells (h : Sched w B st pk sc inp skips at_) : w.cell? ⟨B.S, 0, none⟩ = some (.slice (some ⟨B.bs, 0, none⟩) st.length st.length) ∧ w.cell? ⟨B.S, 1, none⟩ = some (.slice (some ⟨B.bp, 0, none⟩) pk.length pk.length) ∧ w.cell? ⟨B.S, 4, none⟩ = some (.int .i64 skips) ∧ w.cell? ⟨B.S, 5, none⟩ = some (.int .i64 at_) ∧ w.frozen? ⟨B.S, 4, none⟩ = false ∧ w.frozen? ⟨B.S, 5, none⟩ = false := by
  refine ⟨?_, ?_, ?_, ?_, ?_, ?_⟩
  all_goals first | simp [World.cell?, h.1] | simp [World.frozen?, h.1]
set_option maxHeartbeats 4000000 in
theorem pick_ready (x : Int) (a : Nat) (h : Sched w B st pk (x :: sc) inp skips at_) (hB : B.Ok) (hn : st.length ≤ 12) (ha : a < st.length) (hpk : pk.length = st.length) (hm : ((x.tmod st.length) + st.length).tmod st.length = a) (hx : -12 ≤ x.tmod st.length ∧ x.tmod st.length ≤ 12) (hat : 0 ≤ at_ ∧ at_ ≤ 1000) (hp1 : 0 ≤ pk.getD a 0 ∧ pk.getD a 0 ≤ 1000) (hr : st.getD a 0 = 0) :
    Calls Try.prog 9 #[.pointer (some ⟨B.S, 0, none⟩)] w fun e w' => e = .returned (.tuple #[.int .i64 a, .bool true]) ∧ Sched w' B st (pk.set a (pk.getD a 0 + 1)) sc inp skips (at_ + 1) ∧ Same (fun k => k = B.f1 ∨ k = B.ch1 ∨ k = B.S ∨ k = B.bp) w w' ∧ w'.heap.size = w.heap.size := by
  have hc : w.cell? ⟨B.S, 2, none⟩ = some (.pointer (some ⟨B.f1, 0, none⟩)) := by simp [World.cell?, h.1]
  have H : Aside (Sched w B st pk (x :: sc) inp skips at_ ∧ B.Ok ∧ a < pk.length) := ⟨h, hB, by omega⟩
  have hw : wrap64 (x.tmod st.length + st.length) = x.tmod st.length + st.length := by unfold wrap64; omega
  have hw1 : wrap64 (at_ + 1) = at_ + 1 := by unfold wrap64; omega
  have hw2 : wrap64 (pk.getD a 0 + 1) = pk.getD a 0 + 1 := by unfold wrap64; omega
  have h0 : ((st.length : Int) = 0) = False := by simp; intro e; rw [e] at ha; simp at ha
  have g1 : (0 : Int) ≤ (a : Int) := by omega
  have g2 : (a : Int) < (st.length : Int) := by omega
  have g3 : (a : Int) < (pk.length : Int) := by omega
  clear h hB
  go_enter Try.func9, Try.ntmps9
  go_wp2_with (go_at_call 22; refine (next_open B.f1 B.ch1 B.g1 x sc _ H.out.1.2.2.2.1 H.out.2.1.f1.1).mono ?_; rintro e w1 ⟨rfl, hF, hS, hz⟩; have H1 : Aside (Sched w1 B st pk sc inp skips at_) := taken H.out.1 H.out.2.1 hF hS; have H2 : Aside (Same (fun k => k = B.f1 ∨ k = B.ch1) w w1 ∧ w1.heap.size = w.heap.size) := ⟨hS, hz⟩; clear hF hS hz; obtain ⟨q0, q1, q4, q5, z4, z5⟩ := sched_cells H1.out; have H3 : Aside (Sched (w1.setCell ⟨B.S, 5, none⟩ (.int .i64 (at_ + 1))) B st pk sc inp skips (at_ + 1)) := put_at H1.out H.out.2.1; obtain ⟨r0, r1, r4, r5, y4, y5⟩ := sched_cells H3.out; have rs := H3.out.2.1.cell ha; have rp := H3.out.2.2.1.cell H.out.2.2; have rz : (w1.setCell ⟨B.S, 5, none⟩ (.int .i64 (at_ + 1))).frozen? ⟨B.bp, a, none⟩ = false := H3.out.2.2.1.fz; rw [hr] at rs; generalize hv : pk.getD a 0 = v at rp hw2)
  go_ret2
  refine ⟨rfl, by rw [hv]; exact put_pick H3.out H.out.2.1, sstep (sstep (swide H2.out.1 (fun i h => ?_)) (same_set _ B.S 5 _) (fun i h => ?_)) (same_set _ B.bp a _) (fun i h => ?_), ?_⟩
  · rcases h with h | h
    · exact .inl h
    · exact .inr (.inl h)
  · exact .inr (.inr (.inl h))
  · exact .inr (.inr (.inr h))
  · rw [setCell_size, setCell_size]; exact H2.out.2
set_option maxHeartbeats 4000000 in
theorem pick_skip (x : Int) (a : Nat) (h : Sched w B st pk (x :: sc) inp skips at_) (hB : B.Ok) (hn : st.length ≤ 12) (ha : a < st.length) (hpk : pk.length = st.length) (hm : ((x.tmod st.length) + st.length).tmod st.length = a) (hx : -12 ≤ x.tmod st.length ∧ x.tmod st.length ≤ 12) (hat : 0 ≤ at_ ∧ at_ ≤ 1000) (hsk : 0 ≤ skips ∧ skips ≤ 1000) (hr : st.getD a 0 ≠ 0) :
    Calls Try.prog 9 #[.pointer (some ⟨B.S, 0, none⟩)] w fun e w' => e = .returned (.tuple #[.int .i64 (-1), .bool true]) ∧ Sched w' B st pk sc inp (skips + 1) (at_ + 1) ∧ Same (fun k => k = B.f1 ∨ k = B.ch1 ∨ k = B.S ∨ k = B.bp) w w' ∧ w'.heap.size = w.heap.size := by
  have hc : w.cell? ⟨B.S, 2, none⟩ = some (.pointer (some ⟨B.f1, 0, none⟩)) := by simp [World.cell?, h.1]
  have H : Aside (Sched w B st pk (x :: sc) inp skips at_ ∧ B.Ok ∧ a < pk.length) := ⟨h, hB, by omega⟩
  have hw : wrap64 (x.tmod st.length + st.length) = x.tmod st.length + st.length := by unfold wrap64; omega
  have hw1 : wrap64 (at_ + 1) = at_ + 1 := by unfold wrap64; omega
  have hw2 : wrap64 (skips + 1) = skips + 1 := by unfold wrap64; omega
  have hr1 : (st.getD a 0 != 0) = true := by simpa using hr
  have h0 : ((st.length : Int) = 0) = False := by simp; intro e; rw [e] at ha; simp at ha
  have g1 : (0 : Int) ≤ (a : Int) := by omega
  have g2 : (a : Int) < (st.length : Int) := by omega
  have g3 : (a : Int) < (pk.length : Int) := by omega
  clear h hB
  go_enter Try.func9, Try.ntmps9
  go_wp2_with (go_at_call 22; refine (next_open B.f1 B.ch1 B.g1 x sc _ H.out.1.2.2.2.1 H.out.2.1.f1.1).mono ?_; rintro e w1 ⟨rfl, hF, hS, hz⟩; have H1 : Aside (Sched w1 B st pk sc inp skips at_) := taken H.out.1 H.out.2.1 hF hS; have H2 : Aside (Same (fun k => k = B.f1 ∨ k = B.ch1) w w1 ∧ w1.heap.size = w.heap.size) := ⟨hS, hz⟩; clear hF hS hz; obtain ⟨q0, q1, q4, q5, z4, z5⟩ := sched_cells H1.out; have H3 : Aside (Sched (w1.setCell ⟨B.S, 5, none⟩ (.int .i64 (at_ + 1))) B st pk sc inp skips (at_ + 1)) := put_at H1.out H.out.2.1; obtain ⟨r0, r1, r4, r5, y4, y5⟩ := sched_cells H3.out; have rs := H3.out.2.1.cell ha; have rp := H3.out.2.2.1.cell H.out.2.2; have rz : (w1.setCell ⟨B.S, 5, none⟩ (.int .i64 (at_ + 1))).frozen? ⟨B.bp, a, none⟩ = false := H3.out.2.2.1.fz; generalize hv : st.getD a 0 = v at rs hr hr1)
  go_ret2
  refine ⟨rfl, put_skips H3.out H.out.2.1, sstep (sstep (swide H2.out.1 (fun i h => ?_)) (same_set _ B.S 5 _) (fun i h => ?_)) (same_set _ B.S 4 _) (fun i h => ?_), ?_⟩
  · rcases h with h | h
    · exact .inl h
    · exact .inr (.inl h)
  · exact .inr (.inr (.inl h))
  · exact .inr (.inr (.inl h))
  · rw [setCell_size, setCell_size]; exact H2.out.2
end Go.Proofs.Ytmnfeljfemobkaa.new
