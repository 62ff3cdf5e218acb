/- Runs of gneiss/gneisslaw15.LoadFaces. -/
import Derived.Test.YtcnhjhkjefmjaaaLoadFacesR
namespace Go.Proofs.Ytcnhjhkjefmjaaa.loadFaces
open Go Go.Proofs Go.Ai
theorem r0 : yes (run 0) = true := by kernel_rfl
theorem r1 : yes (run 1) = true := by kernel_rfl
theorem r2 : yes (run 2) = true := by kernel_rfl
theorem r3 : yes (run 3) = true := by kernel_rfl
end Go.Proofs.Ytcnhjhkjefmjaaa.loadFaces
