/- Runs of gneiss/gneisslaw21.ModelFinals. -/
import Derived.Test.YtpogefeioedgeaaGreatDoorModelFinalsR
namespace Go.Proofs.YtpogefeioedgeaaGreatDoor.modelFinals
open Go Go.Proofs Go.Ai
theorem r0 : yes (run [(.bin .and .i64 (.var 0) (.lit 3), .lit (.ofNat (nat_lit 0)))] []) = true := by kernel_rfl
end Go.Proofs.YtpogefeioedgeaaGreatDoor.modelFinals
