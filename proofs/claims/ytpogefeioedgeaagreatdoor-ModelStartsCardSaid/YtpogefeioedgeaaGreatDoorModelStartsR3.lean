/- Runs of gneiss/gneisslaw21.ModelStarts. -/
import Derived.Test.YtpogefeioedgeaaGreatDoorModelStartsR
namespace Go.Proofs.YtpogefeioedgeaaGreatDoor.modelStarts
open Go Go.Proofs Go.Ai
theorem r3_f : yes (run [(.bin .and .i64 (.var 0) (.lit 3), .lit (.ofNat (nat_lit 3)))] [] false) = true := by kernel_rfl
theorem r3_t : yes (run [(.bin .and .i64 (.var 0) (.lit 3), .lit (.ofNat (nat_lit 3)))] [] true) = true := by kernel_rfl
end Go.Proofs.YtpogefeioedgeaaGreatDoor.modelStarts
