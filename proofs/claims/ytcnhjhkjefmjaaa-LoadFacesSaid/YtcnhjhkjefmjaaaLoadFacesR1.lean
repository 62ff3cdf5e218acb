/- Runs of gneiss/gneisslaw15.LoadFaces. -/
import Derived.Test.YtcnhjhkjefmjaaaLoadFacesR
namespace Go.Proofs.Ytcnhjhkjefmjaaa.loadFaces
open Go Go.Proofs Go.Ai
theorem r4 : yes (run 4) = true := by kernel_rfl
theorem r5 : yes (run 5) = true := by kernel_rfl
theorem r6 : yes (run 6) = true := by kernel_rfl
theorem r7 : yes (run 7) = true := by kernel_rfl
end Go.Proofs.Ytcnhjhkjefmjaaa.loadFaces
