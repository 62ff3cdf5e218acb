/- The compiled program: each function's compiled form is what its text is. -/
import Derived.Test.YtmnfeljfemobkaaProg
import Derived.Test.YtmnfeljfemobkaaComp
import Derived.ProofKit
namespace Go.Proofs.Ytmnfeljfemobkaa.comp
open Go Go.Proofs Go.Ai
theorem allOk : allL (fun x => okF Try.prog x.1 x.2) tabL = true := by kernel_rfl
theorem tabOk : TabOk Try.prog (tabOf tabL) := tabOf_ok (allL_mem' allOk)
noncomputable def T : PT CFn := tabOf tabL
theorem TOk : TabOk Try.prog T := tabOk
theorem mixed : Try.prog.follows .mixedOrders = true := by kernel_rfl
end Go.Proofs.Ytmnfeljfemobkaa.comp
