/- Runs of gneiss/gneisslaw15.LoadAbove. -/
import Derived.Test.YtcnhjhkjefmjaaaLoadAboveR
namespace Go.Proofs.Ytcnhjhkjefmjaaa.loadAbove
open Go Go.Proofs Go.Ai
theorem r0 : yes (run 0) = true := by kernel_rfl
theorem r1 : yes (run 1) = true := by kernel_rfl
theorem r2 : yes (run 2) = true := by kernel_rfl
end Go.Proofs.Ytcnhjhkjefmjaaa.loadAbove
