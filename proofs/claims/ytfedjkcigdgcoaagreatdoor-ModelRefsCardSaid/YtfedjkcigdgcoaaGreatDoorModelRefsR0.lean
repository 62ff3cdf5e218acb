/- Runs of gneiss/gneisslaw21.ModelRefs. -/
import Derived.Test.YtfedjkcigdgcoaaGreatDoorModelRefsR
namespace Go.Proofs.YtfedjkcigdgcoaaGreatDoor.modelRefs
open Go Go.Proofs Go.Ai
theorem r0 : yes (run [(.bin .and .i64 (.var 0) (.lit 3), .lit (.ofNat (nat_lit 0)))] []) = true := by kernel_rfl
end Go.Proofs.YtfedjkcigdgcoaaGreatDoor.modelRefs
