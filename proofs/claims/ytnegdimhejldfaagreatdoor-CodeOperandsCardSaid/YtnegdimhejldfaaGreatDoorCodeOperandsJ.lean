/- What the row of CodeOperands says of the program: closed facts. -/
import Derived.Test.YtnegdimhejldfaaGreatDoorRows
import Derived.WalkKit
import Derived.ProofKit
import Derived.OpenShut
import Derived.Below
import Derived.ChangeSame
import Derived.Test.YtnegdimhejldfaaGreatDoorTie
import Derived.Test.YtnegdimhejldfaaGreatDoorCards
import Derived.SevenTiedAt
namespace Go.Proofs.YtnegdimhejldfaaGreatDoor.codeOperands
open Go.ChangeShapes Go.WideShapes Go.ChangeAt Go.RowKit
set_option linter.unusedVariables false

theorem and2 {a b : Bool} (h : a = true) (k : b = true) : (a && b) = true := by rw [h, k]; rfl
set_option maxHeartbeats 8000000 in
theorem joined : joinedFacts Tryz.pinned.checked.prog 5 Tryz.f5 Rows.codeOperandsSpec Rows.codeOperandsRow = true := by
  unfold joinedFacts
  exact (and2 (and2 (and2 (and2 (and2 (and2 (and2 (and2 (and2 (and2 (and2 (and2 (and2 (and2 (and2 (and2 (and2 (and2 (and2 (and2 (and2 (and2 (and2 (and2 (and2 (and2 (and2 (and2 (and2 (and2 (and2 (by as_aux_lemma => kernel_rfl) (by as_aux_lemma => kernel_rfl)) (by as_aux_lemma => kernel_rfl)) (by as_aux_lemma => kernel_rfl)) (by as_aux_lemma => kernel_rfl)) (by as_aux_lemma => kernel_rfl)) (by as_aux_lemma => kernel_rfl)) (by as_aux_lemma => kernel_rfl)) (by as_aux_lemma => kernel_rfl)) (by as_aux_lemma => kernel_rfl)) (by as_aux_lemma => kernel_rfl)) (by as_aux_lemma => kernel_rfl)) (by as_aux_lemma => kernel_rfl)) (by as_aux_lemma => kernel_rfl)) (by as_aux_lemma => kernel_rfl)) (by as_aux_lemma => kernel_rfl)) (by as_aux_lemma => kernel_rfl)) (by as_aux_lemma => kernel_rfl)) (by as_aux_lemma => kernel_rfl)) (by as_aux_lemma => kernel_rfl)) (by as_aux_lemma => kernel_rfl)) (by as_aux_lemma => kernel_rfl)) (by as_aux_lemma => kernel_rfl)) (by as_aux_lemma => kernel_rfl)) (by as_aux_lemma => kernel_rfl)) (by as_aux_lemma => kernel_rfl)) (by as_aux_lemma => kernel_rfl)) (by as_aux_lemma => kernel_rfl)) (by as_aux_lemma => kernel_rfl)) (by as_aux_lemma => kernel_rfl)) (by as_aux_lemma => kernel_rfl)) (by as_aux_lemma => kernel_rfl))

theorem g0 : Rows.codeOperandsRow.wfByText (OpenSpec.ofChange Rows.codeOperandsSpec) = true := by kernel_rfl
theorem g1 : Tryz.pinned.checked.prog.mainIs = some (true, ("cce98c41ac5a1a9c25bdcc50907c18bb2f353722e5ff9255f8cf98c9d2362171" : String).toList) := by kernel_rfl
theorem g2 : Tryz.prog.funcNamed "gneiss/gneisslaw16.CodeOperands" = some 5 := by kernel_rfl
theorem g3 : true = Tryz.pinned.checked.prog.looks [] := by kernel_rfl
theorem g4 : (Tryz.f5.params.toList.all fun t => !(Tryz.prog.wantsStandIn t)) = true := by kernel_rfl
theorem g5 : false = Rows.codeOperandsRow.goesBy Tryz.pinned.checked.prog := by kernel_rfl
end Go.Proofs.YtnegdimhejldfaaGreatDoor.codeOperands
