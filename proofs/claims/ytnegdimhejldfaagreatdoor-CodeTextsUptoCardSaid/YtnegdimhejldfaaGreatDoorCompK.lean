/- The compiled program: each function's compiled form is what its text is. -/
import Derived.Test.YtnegdimhejldfaaGreatDoorProg
import Derived.Test.YtnegdimhejldfaaGreatDoorComp
import Derived.ProofKit
namespace Go.Proofs.YtnegdimhejldfaaGreatDoor.comp
open Go Go.Proofs Go.Ai
theorem allOk : allL (fun x => okF Tryz.prog x.1 x.2) tabL = true := by kernel_rfl
theorem tabOk : TabOk Tryz.prog (tabOf tabL) := tabOf_ok (allL_mem' allOk)
noncomputable def T : PT CFn := tabOf tabL
theorem TOk : TabOk Tryz.prog T := tabOk
theorem mixed : Tryz.prog.follows .mixedOrders = true := by kernel_rfl
end Go.Proofs.YtnegdimhejldfaaGreatDoor.comp
