/- Runs of gneiss/gneisslaw15.LoadAbove. -/
import Derived.Test.YtcnhjhkjefmjaaaLoadAboveR
namespace Go.Proofs.Ytcnhjhkjefmjaaa.loadAbove
open Go Go.Proofs Go.Ai
theorem r3 : yes (run 3) = true := by kernel_rfl
theorem r4 : yes (run 4) = true := by kernel_rfl
end Go.Proofs.Ytcnhjhkjefmjaaa.loadAbove
