/- gneisslaw4.SchedSteps where the number of agents is out of bounds: a walk. -/
import Derived.Test.YtmnfeljfemobkaaAwake
namespace Go.Proofs.Ytmnfeljfemobkaa.new
open Go Go.RowKit Go.Lib Go.Conc Go.Proofs Go.Proofs.Ytmnfeljfemobkaa.lend Go.Proofs.Ytmnfeljfemobkaa.feed
set_option linter.unusedVariables false
set_option maxRecDepth 100000
/-- a slice of the caller's -/
structure InRow (w : World) (A : Option Addr) (n c : Nat) (zs : List Int) : Prop where
  nil : A = none → n = 0
  len : zs.length = n
  big : (n + 2) * 8 ≤ 140737488355328
  cell : ∀ ad, A = some ad → ∀ j, j < n → w.cell? (ad.add j) = some (.int .i64 (zs.getD j 0))
theorem InRow.ext {w w' : World} {A : Option Addr} {n c : Nat} {zs : List Int} (h : Ext w w') (k : InRow w A n c zs) : InRow w' A n c zs := ⟨k.nil, k.len, k.big, fun ad ha j hj => h.cell (k.cell ad ha j hj)⟩
set_option maxHeartbeats 8000000 in
theorem steps_bad (n : Int) (A1 A2 A3 : Option Addr) (n1 c1 n2 c2 n3 c3 : Nat) (l1 l2 : List Int) (w : World) (hn : n < 1 ∨ 12 < n) (h1 : InRow w A1 n1 c1 l1) (h2 : InRow w A2 n2 c2 l2) :
    Calls Try.prog 4 #[.int .i64 n, .slice A1 n1 c1, .slice A2 n2 c2, .slice A3 n3 c3] w fun e w' => e = .returned (.bool true) ∧ Below w.heap.size w w' := by
  have H : Aside (InRow w A1 n1 c1 l1 ∧ InRow w A2 n2 c2 l2 ∧ (n < 1 ∨ 12 < n)) := ⟨h1, h2, hn⟩
  clear h1 h2
  go_enter Try.func4, Try.ntmps4
  go_wp2_with fail
  go_at_call 12
  refine (lend A1 n1 c1 l1 _ H.out.1.nil H.out.1.len H.out.1.big H.out.1.cell).mono ?_
  rintro e w1 ⟨g, cap, cur, rfl, _, _, _, _, _, hb1⟩
  have B1 : Aside (Ext w w1) := hb1; clear hb1
  go_wp2_with fail
  go_at_call 12
  refine (lend A2 n2 c2 l2 _ H.out.2.1.nil H.out.2.1.len H.out.2.1.big (H.out.2.1.ext B1.out).cell).mono ?_
  rintro e w2 ⟨g2, cap2, cur2, rfl, _, _, _, _, _, hb2⟩
  have B2 : Aside (Ext w w2) := B1.out.trans hb2; clear hb2
  go_wp2_with fail
  go_at_call 8
  refine (new_bad _ _ _ _ H.out.2.2).mono ?_
  rintro e w' ⟨rfl, rfl⟩
  trace "A"
  by_cases q : n < 1
  · have hd : decide (n < 1) = true := decide_eq_true q
    clear hn q
    go_wp2_with (first | (go_at_call 11; refine (num_ok _).mono ?_; rintro e w' ⟨rfl, rfl⟩) | (go_at_call 7; refine (awake_ok _).mono ?_; rintro e w9 ⟨rfl, hb9⟩; have B9 : Aside (Ext w w9) := B2.out.trans hb9; clear hb9))
    trace "B"
    go_ret
    exact ⟨rfl, B9.out⟩
  · have hd : decide (n < 1) = false := decide_eq_false q
    have hd2 : decide (n > 12) = true := decide_eq_true (by omega)
    have hd3 : decide (12 < n) = true := decide_eq_true (by omega)
    clear hn q
    go_wp2_with (first | (go_at_call 11; refine (num_ok _).mono ?_; rintro e w' ⟨rfl, rfl⟩) | (go_at_call 7; refine (awake_ok _).mono ?_; rintro e w9 ⟨rfl, hb9⟩; have B9 : Aside (Ext w w9) := B2.out.trans hb9; clear hb9))
    go_ret
    exact ⟨rfl, B9.out⟩
end Go.Proofs.Ytmnfeljfemobkaa.new
