/- What slices.Clone of []int answers: a slice of the same numbers, in a block of its own. -/
import Derived.Test.YtmnfeljfemobkaaProg
import Derived.Test.YtmnfeljfemobkaaAg
import Derived.Shelf.RegionOpenPlain
import Derived.WalkKit
import Derived.Deep.LoopGhost
import Derived.OwnWalk
import Derived.Lib.Walk
import Derived.Lib.SliceRun
namespace Go.Proofs.Ytmnfeljfemobkaa.clone
open Go Go.RowKit Go.Lib Go.Proofs
set_option linter.unusedVariables false
theorem info3 : (Try.prog.info? 3).map (fun i => (i.zero, i.size, i.bytes)) = some (some (.int .i64 0), 1, 8) := by kernel_rfl
set_option maxHeartbeats 2000000 in
set_option maxRecDepth 100000 in
theorem clone_int (x : Addr) (n c : Nat) (zs : List Int) (w : World) (hz : n ≤ zs.length) (hbig : n * 8 ≤ 140737488355328) (hc : ∀ j, j < n → w.cell? (x.add j) = some (.int .i64 (zs.getD j 0))) :
    Calls Try.prog 25 #[.slice (some x) n c] w fun e w' => ∃ v', e = .returned v' ∧ w'.ownsRow w.heap.size 3 1 v' n ((zs.take n).map (Value.int .i64)) ∧ v' ≠ .slice none 0 0 ∧ Below w.heap.size w w' := by
  have t22 := Try.underlying22
  obtain ⟨i0, hi, hz0, hz1, hz2⟩ := info_parts info3
  have q22 : ∀ (w : World) (a : Option Addr) (n c n' c' : Nat), (binOp .eql 22 (.slice a n c) (.slice none n' c')).run Try.prog w = .ok (.bool a.isNone) w := fun w a n c n' c' => Lib.run_eql_slice_nil w _ _ a n c n' c' t22
  have A : Aside (∀ j, j < n → w.cell? (x.add j) = some (.int .i64 (zs.getD j 0))) := hc
  clear hc
  go_enter Try.func25, Try.ntmps25
  go_wp2_with (at_builtin; refine wpList_append_own _ rfl _ _ 22 rfl w.heap.size 3 i0 (.int .i64 0) 1 8 t22 hi hz0 hz1 hz2 rfl (by decide) _ _ _ rfl (World.ownsRow_made w #[] 0 (Nat.le_refl _) (Nat.zero_le _) rfl) x n c ((zs.take n).map (Value.int .i64)) rfl ?qc1 ?qc2 ?qc3 ?qc4 ?qc5 ?qc6 ?_)
  case qc1 => simp; omega
  case qc2 =>
    intro j u hj
    have hjn : j < n ∧ j < zs.length := by
      have := (List.getElem?_eq_some_iff.1 hj).1
      simp at this
      omega
    refine Lib.cell?_alloc_some _ ?_
    rw [A.out j hjn.1]
    have e : ((zs.take n).map (Value.int .i64))[j]? = some (Value.int .i64 (zs.getD j 0)) := by simp [List.getD, hjn.1, List.getElem?_eq_getElem hjn.2]
    rw [e] at hj
    exact hj
  case qc3 => intro u hu; obtain ⟨x, _, rfl⟩ := List.mem_map.1 hu; rfl
  case qc4 => unfold maxLen; omega
  case qc5 => omega
  case qc6 => simp
  intro v' w1 hown hgrow hnil
  go_wp2
  go_ret
  refine ⟨v', rfl, by simpa using hown, ?_, ?_⟩
  · exact hnil
  · exact ((Below.refl _ w).alloc (Nat.le_refl _) _).grown hgrow (by simp) (by intro k hk; simp [Value.ownBlock] at hk; omega)
theorem cloneOk : Go.Ai.CloneOk Try.prog 25 3 := by
  intro b o n k zs w hn hbig hl hc
  refine (clone_int ⟨b, o, none⟩ n k zs w (by omega) hbig (fun j hj => by
    have e : (⟨b, o, none⟩ : Addr).add j = ⟨b, o + j, none⟩ := by
      unfold Addr.add; split
      · simp_all
      · rfl
    rw [e]; exact hc j hj)).mono ?_
  rintro e w' ⟨v', rfl, ⟨hlen, hown⟩, hne, hbl⟩
  rcases hown with ⟨h, _⟩ | ⟨g, cap, cur, rfl, h1, h2, h3, h4, h5, h6⟩
  · exact absurd h hne
  · refine ⟨g, cap, cur, (0, 0), rfl, h3, h1, h2, fun j hj => ?_, hbl⟩
    have e2 : ((zs.take n).map (Value.int .i64))[j]? = some (Value.int .i64 (zs.getD j 0)) := by
      have : j < zs.length := by omega
      simp [List.getD, hj, List.getElem?_eq_getElem this]
    rw [← h6] at e2
    rw [List.getElem?_take] at e2
    split at e2
    · simpa using e2
    · cases e2
theorem cloneZ : Go.Ai.CloneZ Try.prog 25 := by
  intro x k w
  refine (clone_int x 0 k [] w (by omega) (by omega) (fun j hj => by omega)).mono ?_
  rintro e w' ⟨v', rfl, ⟨_, hown⟩, hne, hbl⟩
  rcases hown with ⟨h, _⟩ | ⟨g, cap, cur, rfl, _⟩
  · exact absurd h hne
  · exact ⟨_, _, rfl, hbl⟩
end Go.Proofs.Ytmnfeljfemobkaa.clone
