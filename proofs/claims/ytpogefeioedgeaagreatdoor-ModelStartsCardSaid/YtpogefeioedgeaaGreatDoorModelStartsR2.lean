/- Runs of gneiss/gneisslaw21.ModelStarts. -/
import Derived.Test.YtpogefeioedgeaaGreatDoorModelStartsR
namespace Go.Proofs.YtpogefeioedgeaaGreatDoor.modelStarts
open Go Go.Proofs Go.Ai
theorem r2_f : yes (run [(.bin .and .i64 (.var 0) (.lit 3), .lit (.ofNat (nat_lit 2)))] [] false) = true := by kernel_rfl
theorem r2_t : yes (run [(.bin .and .i64 (.var 0) (.lit 3), .lit (.ofNat (nat_lit 2)))] [] true) = true := by kernel_rfl
end Go.Proofs.YtpogefeioedgeaaGreatDoor.modelStarts
