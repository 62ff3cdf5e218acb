/- What the row of ModelSums says of the program: closed facts. -/
import Derived.Test.YtocficcmdlfafaaGreatDoorRows
import Derived.WalkKit
import Derived.ProofKit
import Derived.OpenShut
import Derived.Below
import Derived.ChangeSame
import Derived.Test.YtocficcmdlfafaaGreatDoorModelSumsM
import Derived.Test.YtocficcmdlfafaaGreatDoorModelSumsF
import Derived.Test.YtocficcmdlfafaaGreatDoorTie
import Derived.Test.YtocficcmdlfafaaGreatDoorCards
import Derived.SevenTiedAt
namespace Go.Proofs.YtocficcmdlfafaaGreatDoor.modelSums
open Go.ChangeShapes Go.WideShapes Go.ChangeAt Go.RowKit
set_option linter.unusedVariables false

theorem and2 {a b : Bool} (h : a = true) (k : b = true) : (a && b) = true := by rw [h, k]; rfl
set_option maxHeartbeats 8000000 in
theorem joined : joinedFacts Tryz.pinned.checked.prog 5 Tryz.f5 Rows.modelSumsSpec Rows.modelSumsRow = true := by
  unfold joinedFacts
  exact (and2 (and2 (and2 (and2 (and2 (and2 (and2 (and2 (and2 (and2 (and2 (and2 (and2 (and2 (and2 (and2 (and2 (and2 (and2 (and2 (and2 (and2 (and2 (and2 (and2 (and2 (and2 (and2 (and2 (and2 (and2 (by as_aux_lemma => kernel_rfl) (by as_aux_lemma => kernel_rfl)) (by as_aux_lemma => kernel_rfl)) (by as_aux_lemma => kernel_rfl)) (by as_aux_lemma => kernel_rfl)) (by as_aux_lemma => kernel_rfl)) (by as_aux_lemma => kernel_rfl)) (by as_aux_lemma => kernel_rfl)) (by as_aux_lemma => kernel_rfl)) (by as_aux_lemma => kernel_rfl)) (by as_aux_lemma => kernel_rfl)) (by as_aux_lemma => kernel_rfl)) (by as_aux_lemma => kernel_rfl)) (by as_aux_lemma => kernel_rfl)) (by as_aux_lemma => kernel_rfl)) (by as_aux_lemma => kernel_rfl)) (by as_aux_lemma => kernel_rfl)) (by as_aux_lemma => kernel_rfl)) (by as_aux_lemma => kernel_rfl)) (by as_aux_lemma => kernel_rfl)) (by as_aux_lemma => kernel_rfl)) (by as_aux_lemma => kernel_rfl)) (by as_aux_lemma => kernel_rfl)) (by as_aux_lemma => kernel_rfl)) (by as_aux_lemma => kernel_rfl)) (by as_aux_lemma => kernel_rfl)) (by as_aux_lemma => kernel_rfl)) (by as_aux_lemma => kernel_rfl)) (by as_aux_lemma => kernel_rfl)) (by as_aux_lemma => kernel_rfl)) (by as_aux_lemma => kernel_rfl)) (by as_aux_lemma => kernel_rfl))

theorem g0 : Rows.modelSumsRow.wfByText (OpenSpec.ofChange Rows.modelSumsSpec) = true := by kernel_rfl
theorem g1 : Tryz.pinned.checked.prog.mainIs = some (true, ("8609ea2ad4fb1bdddae7411b9f3c1d7cdb53ccd46ab9348ec24f64e3358e183c" : String).toList) := by kernel_rfl
theorem g2 : Tryz.prog.funcNamed "gneiss/gneisslaw21.ModelSums" = some 5 := by kernel_rfl
theorem g3 : true = Tryz.pinned.checked.prog.looks [] := by kernel_rfl
theorem g4 : (Tryz.f5.params.toList.all fun t => !(Tryz.prog.wantsStandIn t)) = true := by kernel_rfl
theorem g5 : false = Rows.modelSumsRow.goesBy Tryz.pinned.checked.prog := by kernel_rfl
end Go.Proofs.YtocficcmdlfafaaGreatDoor.modelSums
