/- What gneisslaw4's of, counted answer: walks. -/
import Derived.Test.YtmnfeljfemobkaaOps
namespace Go.Proofs.Ytmnfeljfemobkaa.new
open Go Go.RowKit Go.Lib Go.Conc Go.Proofs Go.Proofs.Ytmnfeljfemobkaa.lend Go.Proofs.Ytmnfeljfemobkaa.feed
set_option linter.unusedVariables false
set_option maxRecDepth 100000
variable {B : Blk} {st pk sc inp : List Int} {skips at_ : Int} {w : World}
def ag (x : Int) (n : Nat) : Int := (x.tmod n + n).tmod n
theorem ag_lo (x : Int) (n : Nat) (hn : 1 ≤ n) : 0 ≤ ag x n ∧ ag x n < n := by
  have h1 : x.tmod n < n := Int.tmod_lt_of_pos _ (by omega)
  have h2 : -(n : Int) < x.tmod n := Int.lt_tmod_of_pos x (by omega)
  have h3 : (0 : Int) ≤ x.tmod n + n := by omega
  exact ⟨Int.tmod_nonneg _ h3, Int.tmod_lt_of_pos _ (by omega)⟩
theorem ag_neg (x : Int) (n : Nat) (hn : 1 ≤ n) (h : x.tmod n < 0) : ag x n = x.tmod n + n := by
  have h2 : -(n : Int) < x.tmod n := Int.lt_tmod_of_pos x (by omega)
  exact Int.tmod_eq_of_lt (by omega) (by omega)
theorem ag_pos (x : Int) (n : Nat) (hn : 1 ≤ n) (h : ¬ x.tmod n < 0) : ag x n = x.tmod n := by
  have h1 : x.tmod n < n := Int.tmod_lt_of_pos _ (by omega)
  unfold ag
  rw [Int.tmod_eq_emod_of_nonneg (by omega), Int.add_emod_right]
  exact Int.emod_eq_of_lt (by omega) h1
set_option maxHeartbeats 1000000 in
theorem of_ok (x : Int) (n : Nat) (hn : 1 ≤ n ∧ n ≤ 12) : Calls Try.prog 14 #[.int .i64 x, .int .i64 n] w fun e w' => e = .returned (.int .i64 (ag x n)) ∧ w' = w := by
  have h0 : ((n : Int) = 0) = False := by simp; omega
  have h1 : x.tmod n < n := Int.tmod_lt_of_pos _ (by omega)
  have h2 : -(n : Int) < x.tmod n := Int.lt_tmod_of_pos x (by omega)
  have hn0 : ¬ n = 0 := by omega
  by_cases h : x.tmod n < 0
  · rw [ag_neg x n hn.1 h]
    have hd : decide (x.tmod (n : Int) < 0) = true := decide_eq_true h
    have hw : wrap64 (x.tmod n + n) = x.tmod n + n := by unfold wrap64; omega
    clear h1 h2
    go_enter Try.func14, Try.ntmps14
    go_wp2
    go_ret
    exact ⟨by show Ending.returned (.int .i64 (wrap64 (x.tmod n + n))) = _; rw [hw], rfl⟩
  · rw [ag_pos x n hn.1 h]
    have hd : decide (x.tmod (n : Int) < 0) = false := decide_eq_false h
    clear h1 h2
    go_enter Try.func14, Try.ntmps14
    go_wp2
    go_ret
    exact ⟨rfl, rfl⟩
theorem sched_heap {w' : World} (h : Sched w B st pk sc inp skips at_) (e : w'.heap = w.heap) : Sched w' B st pk sc inp skips at_ := by
  unfold Sched Row Feed at h ⊢
  rw [e]
  exact h
set_option maxHeartbeats 1000000 in
theorem counted_ok (b : Nat) (h : Sched w B st pk sc inp skips at_) (hb : Row w b pk) (hn : pk.length ≤ 12) : Calls Try.prog 18 #[.pointer (some ⟨B.S, 0, none⟩), .slice (some ⟨b, 0, none⟩) pk.length pk.length] w fun e w' => e = .returned (.bool true) ∧ ∃ m, w' = w.drewN m := by
  have H : Aside (Sched w B st pk sc inp skips at_ ∧ Row w b pk) := ⟨h, hb⟩
  clear h hb
  go_enter Try.func18, Try.ntmps18
  go_wp2_with fail
  go_loopg [5] pk.length (fun k v3 w' => ∃ i : Nat, v3 = .int .i64 i ∧ Aside (i + k = pk.length) ∧ ∃ m, w' = w.drewN m)
  case atStart => exact ⟨0, rfl, by simp [Aside], 0, rfl⟩
  case round =>
    obtain ⟨i, rfl, hk, m, rfl⟩ := hrel
    by_cases hin : i < pk.length
    · have hd : decide ((i : Int) < (pk.length : Int)) = true := decide_eq_true (by omega)
      have hx := H.out.2.cell hin
      have hp : (0 : Int) ≤ i := by omega
      have hp2 : (i : Int) < (pk.length : Int) := by omega
      have hin' : Aside (i < pk.length) := hin
      clear hin
      have hq : Aside (∀ W : World, W.heap = w.heap → Calls Try.prog 20 #[.pointer (some ⟨B.S, 0, none⟩), .int .i64 i] W fun e w' => e = .returned (.int .i64 (pk.getD i 0)) ∧ w' = W) := fun W e => picks_in (sched_heap H.out.1 e) i hin'.out
      go_wp2_with fail
      go_quiet ((go_at_call 20; refine (hq.out _ (by rfl)).mono ?_; rintro e w' ⟨rfl, rfl⟩; exact ⟨rfl, _, rfl⟩))
      go_wp2_with fail
      go_roundg (gk - 1)
      case measure => have := hk.out; omega
      case rel => exact ⟨i + 1, by simp, by show i + 1 + (gk - 1) = pk.length; have := hk.out; omega, _, rfl⟩
    · have hd : decide ((i : Int) < (pk.length : Int)) = false := decide_eq_false (by omega)
      have hq1 : Aside (Calls Try.prog 20 #[.pointer (some ⟨B.S, 0, none⟩), .int .i64 (-1)] (w.drewN m) fun e w' => e = .returned (.int .i64 0) ∧ w' = w.drewN m) := picks_out (sched_heap H.out.1 (w' := w.drewN m) rfl) (-1) (.inl (by omega))
      have hq2 : Aside (Calls Try.prog 20 #[.pointer (some ⟨B.S, 0, none⟩), .int .i64 pk.length] (w.drewN m) fun e w' => e = .returned (.int .i64 0) ∧ w' = w.drewN m) := picks_out (sched_heap H.out.1 (w' := w.drewN m) rfl) pk.length (.inr (Int.le_refl _))
      go_wp2_with (go_at_call 20; first | (with_reducible refine hq1.out.mono ?_; rintro e w' ⟨rfl, rfl⟩) | (with_reducible refine hq2.out.mono ?_; rintro e w' ⟨rfl, rfl⟩))
      go_ret
      exact ⟨rfl, _, rfl⟩
end Go.Proofs.Ytmnfeljfemobkaa.new
