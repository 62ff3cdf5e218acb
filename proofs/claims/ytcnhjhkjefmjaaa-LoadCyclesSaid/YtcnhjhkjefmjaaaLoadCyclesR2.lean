/- Runs of gneiss/gneisslaw15.LoadCycles. -/
import Derived.Test.YtcnhjhkjefmjaaaLoadCyclesR
namespace Go.Proofs.Ytcnhjhkjefmjaaa.loadCycles
open Go Go.Proofs Go.Ai
theorem r4_f : yes (run 4 false) = true := by kernel_rfl
theorem r4_t : yes (run 4 true) = true := by kernel_rfl
theorem r5_f : yes (run 5 false) = true := by kernel_rfl
theorem r5_t : yes (run 5 true) = true := by kernel_rfl
end Go.Proofs.Ytcnhjhkjefmjaaa.loadCycles
