/- Runs of gneiss/gneisslaw21.ModelCallers. -/
import Derived.Test.YtpogefeioedgeaaGreatDoorModelCallersR
namespace Go.Proofs.YtpogefeioedgeaaGreatDoor.modelCallers
open Go Go.Proofs Go.Ai
theorem r1 : yes (run [(.bin .and .i64 (.var 0) (.lit 1), .lit (.ofNat (nat_lit 1)))] []) = true := by kernel_rfl
end Go.Proofs.YtpogefeioedgeaaGreatDoor.modelCallers
