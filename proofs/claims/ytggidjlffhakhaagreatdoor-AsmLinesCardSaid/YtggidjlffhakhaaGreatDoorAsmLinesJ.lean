/- What the row of AsmLines says of the program: closed facts. -/
import Derived.Test.YtggidjlffhakhaaGreatDoorRows
import Derived.WalkKit
import Derived.ProofKit
import Derived.OpenShut
import Derived.Below
import Derived.ChangeSame
import Derived.Test.YtggidjlffhakhaaGreatDoorTie
import Derived.Test.YtggidjlffhakhaaGreatDoorCards
import Derived.SevenTiedAt
namespace Go.Proofs.YtggidjlffhakhaaGreatDoor.asmLines
open Go.ChangeShapes Go.WideShapes Go.ChangeAt Go.RowKit
set_option linter.unusedVariables false

theorem and2 {a b : Bool} (h : a = true) (k : b = true) : (a && b) = true := by rw [h, k]; rfl
set_option maxHeartbeats 8000000 in
theorem joined : joinedFacts Tryz.pinned.checked.prog 5 Tryz.f5 Rows.asmLinesSpec Rows.asmLinesRow = true := by
  unfold joinedFacts
  exact (and2 (and2 (and2 (and2 (and2 (and2 (and2 (and2 (and2 (and2 (and2 (and2 (and2 (and2 (and2 (and2 (and2 (and2 (and2 (and2 (and2 (and2 (and2 (and2 (and2 (and2 (and2 (and2 (and2 (and2 (and2 (by as_aux_lemma => kernel_rfl) (by as_aux_lemma => kernel_rfl)) (by as_aux_lemma => kernel_rfl)) (by as_aux_lemma => kernel_rfl)) (by as_aux_lemma => kernel_rfl)) (by as_aux_lemma => kernel_rfl)) (by as_aux_lemma => kernel_rfl)) (by as_aux_lemma => kernel_rfl)) (by as_aux_lemma => kernel_rfl)) (by as_aux_lemma => kernel_rfl)) (by as_aux_lemma => kernel_rfl)) (by as_aux_lemma => kernel_rfl)) (by as_aux_lemma => kernel_rfl)) (by as_aux_lemma => kernel_rfl)) (by as_aux_lemma => kernel_rfl)) (by as_aux_lemma => kernel_rfl)) (by as_aux_lemma => kernel_rfl)) (by as_aux_lemma => kernel_rfl)) (by as_aux_lemma => kernel_rfl)) (by as_aux_lemma => kernel_rfl)) (by as_aux_lemma => kernel_rfl)) (by as_aux_lemma => kernel_rfl)) (by as_aux_lemma => kernel_rfl)) (by as_aux_lemma => kernel_rfl)) (by as_aux_lemma => kernel_rfl)) (by as_aux_lemma => kernel_rfl)) (by as_aux_lemma => kernel_rfl)) (by as_aux_lemma => kernel_rfl)) (by as_aux_lemma => kernel_rfl)) (by as_aux_lemma => kernel_rfl)) (by as_aux_lemma => kernel_rfl)) (by as_aux_lemma => kernel_rfl))

theorem g0 : Rows.asmLinesRow.wfByText (OpenSpec.ofChange Rows.asmLinesSpec) = true := by kernel_rfl
theorem g1 : Tryz.pinned.checked.prog.mainIs = some (true, ("179c2d704976e3bb9efd4ed74722064d4dfdeddaf5975eae3d4532b7caa789ca" : String).toList) := by kernel_rfl
theorem g2 : Tryz.prog.funcNamed "gneiss/gneisslaw19.AsmLines" = some 5 := by kernel_rfl
theorem g3 : true = Tryz.pinned.checked.prog.looks [] := by kernel_rfl
theorem g4 : (Tryz.f5.params.toList.all fun t => !(Tryz.prog.wantsStandIn t)) = true := by kernel_rfl
theorem g5 : false = Rows.asmLinesRow.goesBy Tryz.pinned.checked.prog := by kernel_rfl
end Go.Proofs.YtggidjlffhakhaaGreatDoor.asmLines
