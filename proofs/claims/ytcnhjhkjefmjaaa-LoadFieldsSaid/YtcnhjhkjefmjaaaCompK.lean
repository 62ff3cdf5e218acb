/- The compiled program: each function's compiled form is what its text is. -/
import Derived.Test.YtcnhjhkjefmjaaaProg
import Derived.Test.YtcnhjhkjefmjaaaComp
import Derived.ProofKit
namespace Go.Proofs.Ytcnhjhkjefmjaaa.comp
open Go Go.Proofs Go.Ai
theorem allOk : allL (fun x => okF Try.prog x.1 x.2) tabL = true := by kernel_rfl
theorem tabOk : TabOk Try.prog (tabOf tabL) := tabOf_ok (allL_mem' allOk)
noncomputable def T : PT CFn := tabOf tabL
theorem TOk : TabOk Try.prog T := tabOk
theorem mixed : Try.prog.follows .mixedOrders = true := by kernel_rfl
end Go.Proofs.Ytcnhjhkjefmjaaa.comp
