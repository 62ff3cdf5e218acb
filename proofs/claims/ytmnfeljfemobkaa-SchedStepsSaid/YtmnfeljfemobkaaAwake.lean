/- What gneisslaw4.awake answers: a walk. -/
import Derived.Test.YtmnfeljfemobkaaNew
import Derived.Test.YtmnfeljfemobkaaPick
import Derived.Test.YtmnfeljfemobkaaCount
namespace Go.Proofs.Ytmnfeljfemobkaa.new
open Go Go.RowKit Go.Lib Go.Conc Go.Proofs Go.Proofs.Ytmnfeljfemobkaa.lend Go.Proofs.Ytmnfeljfemobkaa.feed
set_option linter.unusedVariables false
set_option maxRecDepth 100000
theorem Same.refl (S : Nat → Prop) (w : World) : Same S w w := ⟨rfl, rfl, rfl, Nat.le_refl _, fun _ _ _ => rfl⟩
theorem below_same {w w1 w2 : World} {l : List Nat} (h : Below w.heap.size w w1) (k : Same (fun k => k ∈ l) w1 w2) (hl : ∀ b ∈ l, w.heap.size ≤ b) : Below w.heap.size w w2 :=
  ⟨k.os.trans h.os, k.tape.trans h.tape, k.output.trans h.output, Nat.le_trans h.size k.size, fun i hi => (k.block i (Nat.lt_of_lt_of_le hi h.size) (fun e => by have := hl i e; omega)).trans (h.block i hi)⟩
theorem num_ok (k : Int) {w : World} : Calls Try.prog 11 #[.int .i64 k] w fun e w' => e = .returned (.int .i64 k) ∧ w' = w := by
  go_enter Try.func11, Try.ntmps11
  go_wp2
  go_ret
  exact ⟨rfl, rfl⟩
set_option maxHeartbeats 4000000 in
theorem awake_ok (w : World) : Calls Try.prog 7 #[] w fun e w' => e = .returned (.bool true) ∧ Below w.heap.size w w' := by
  go_enter Try.func7, Try.ntmps7
  have z0 : Aside (∀ j, j < 2 → ((w.alloc (.cells #[.int .i64 (-1), .int .i64 4] 3)).alloc (.cells #[.int .i64 9] 3)).cell? ((⟨w.heap.size, 0, none⟩ : Addr).add j) = some (.int .i64 (([-1, 4] : List Int).getD j 0))) := by
    intro j hj
    have e := heap_alloc2_old w (.cells #[.int .i64 (-1), .int .i64 4] 3) (.cells #[.int .i64 9] 3)
    rw [add_plain]
    simp only [World.cell?, e]
    match j, hj with
    | 0, _ => rfl
    | 1, _ => rfl
  have z1 : Aside (∀ j, j < 1 → ((w.alloc (.cells #[.int .i64 (-1), .int .i64 4] 3)).alloc (.cells #[.int .i64 9] 3)).cell? ((⟨w.heap.size + 1, 0, none⟩ : Addr).add j) = some (.int .i64 (([9] : List Int).getD j 0))) := by
    intro j hj
    have e := heap_alloc2_new w (.cells #[.int .i64 (-1), .int .i64 4] 3) (.cells #[.int .i64 9] 3)
    rw [add_plain]
    simp only [World.cell?, e]
    match j, hj with
    | 0, _ => rfl
  go_wp2_with (first
    | (go_at_call 8; refine (new 3 ⟨w.heap.size, 0, none⟩ ⟨w.heap.size + 1, 0, none⟩ 2 2 1 1 [-1, 4] [9] _ (by omega) rfl rfl (by omega) (by omega) z0.out z1.out).mono ?_; rintro e w1 ⟨B, rfl, hS, hB, hge, hbl⟩; have H0 : Aside (Sched w1 B [0, 0, 0] [0, 0, 0] [-1, 4] [9] 0 0 ∧ B.Ok ∧ (∀ b ∈ B.list, w.heap.size ≤ b) ∧ Below w.heap.size w w1) := ⟨hS, hB, fun b hb => Nat.le_trans (by rw [World.size_alloc, World.size_alloc]; omega) (hge b hb), (((Ext.refl w).alloc _).alloc _).trans hbl⟩; clear hS hB hge hbl z0 z1)
    | (go_at_call 11; refine (num_ok _).mono ?_; rintro e w' ⟨rfl, rfl⟩)
    | (go_at_call 16; refine (skips_ok H3.out.1).mono ?_; rintro e w' ⟨rfl, rfl⟩)
    | (go_at_call 17; refine (at_ok H4.out.1).mono ?_; rintro e w' ⟨rfl, rfl⟩)
    | (go_at_call 10; first
      | (refine (input_open 9 H3.out.1 H0.out.2.1).mono ?_; rintro e w6 ⟨rfl, hS, hsm, hsz⟩; have H4 : Aside (Sched w6 B [0, 1, 0] [0, 0, 1] [] [] 1 2 ∧ Same (fun k => k ∈ B.list) _ w6) := ⟨hS, swide hsm (fun i h => by rcases h with rfl | rfl <;> simp [Blk.list])⟩; clear hS hsm hsz)
      | (refine (input_shut H4.out.1).mono ?_; rintro e w' ⟨rfl, rfl⟩))
    | (go_at_call 15; refine (set_ok H1.out.1 H0.out.2.1 1 1 (by decide) (by decide) (by decide)).mono ?_; rintro e w3 ⟨rfl, hS, hsm, hsz⟩; have H2 : Aside (Sched w3 B [0, 1, 0] [0, 0, 1] [4] [9] 0 1 ∧ Same (fun k => k ∈ B.list) w2 w3) := ⟨hS, swide hsm (fun i h => by subst h; simp [Blk.list])⟩; clear hS hsm hsz)
    | (go_at_call 9; first
      | (refine (pick_ready (-1) 2 H0.out.1 H0.out.2.1 (by decide) (by decide) rfl (by decide) (by decide) (by decide) (by decide) rfl).mono ?_; rintro e w2 ⟨rfl, hS, hsm, hsz⟩; have H1 : Aside (Sched w2 B [0, 0, 0] [0, 0, 1] [4] [9] 0 1 ∧ Same (fun k => k ∈ B.list) w1 w2) := ⟨hS, swide hsm (fun i h => by rcases h with rfl | rfl | rfl | rfl <;> simp [Blk.list])⟩; clear hS hsm hsz)
      | (refine (pick_skip 4 1 H2.out.1 H0.out.2.1 (by decide) (by decide) rfl (by decide) (by decide) (by decide) (by decide) (by decide)).mono ?_; rintro e w4 ⟨rfl, hS, hsm, hsz⟩; have H3 : Aside (Sched w4 B [0, 1, 0] [0, 0, 1] [] [9] 1 2 ∧ Same (fun k => k ∈ B.list) w3 w4) := ⟨hS, swide hsm (fun i h => by rcases h with rfl | rfl | rfl | rfl <;> simp [Blk.list])⟩; clear hS hsm hsz)
      | (refine (pick_shut H3.out.1).mono ?_; rintro e w5 ⟨rfl, rfl⟩)))
  go_ret
  refine ⟨rfl, below_same H0.out.2.2.2 ?_ H0.out.2.2.1⟩
  exact sstep (sstep (sstep (sstep H1.out.2 H2.out.2 (fun _ h => h)) H3.out.2 (fun _ h => h)) H4.out.2 (fun _ h => h)) (Same.refl _ _) (fun _ h => h)
end Go.Proofs.Ytmnfeljfemobkaa.new
