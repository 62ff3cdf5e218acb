/- The compiled program: each function's compiled form is what its text is. -/
import Derived.Test.YtnldipiahcalhaaDoorProg
import Derived.Test.YtnldipiahcalhaaDoorComp
import Derived.ProofKit
namespace Go.Proofs.YtnldipiahcalhaaDoor.comp
open Go Go.Proofs Go.Ai
theorem allOk : allL (fun x => okF Tryd.prog x.1 x.2) tabL = true := by kernel_rfl
theorem tabOk : TabOk Tryd.prog (tabOf tabL) := tabOf_ok (allL_mem' allOk)
noncomputable def T : PT CFn := tabOf tabL
theorem TOk : TabOk Tryd.prog T := tabOk
theorem mixed : Tryd.prog.follows .mixedOrders = true := by kernel_rfl
end Go.Proofs.YtnldipiahcalhaaDoor.comp
