/- Runs of gneiss/gneisslaw15.LoadCycles. -/
import Derived.Test.YtcnhjhkjefmjaaaLoadCyclesR
namespace Go.Proofs.Ytcnhjhkjefmjaaa.loadCycles
open Go Go.Proofs Go.Ai
theorem r6_f : yes (run 6 false) = true := by kernel_rfl
theorem r6_t : yes (run 6 true) = true := by kernel_rfl
theorem r7_f : yes (run 7 false) = true := by kernel_rfl
theorem r7_t : yes (run 7 true) = true := by kernel_rfl
end Go.Proofs.Ytcnhjhkjefmjaaa.loadCycles
