/- Runs of gneiss/gneisslaw21.ModelWeaks. -/
import Derived.Test.YtpogefeioedgeaaGreatDoorModelWeaksR
namespace Go.Proofs.YtpogefeioedgeaaGreatDoor.modelWeaks
open Go Go.Proofs Go.Ai
theorem rf_0to15 : yes (run [] [(.bin .and .i64 (.var 1) (.lit 15), (.ofNat (nat_lit 0)), (.ofNat (nat_lit 15)))] false) = true := by kernel_rfl
end Go.Proofs.YtpogefeioedgeaaGreatDoor.modelWeaks
