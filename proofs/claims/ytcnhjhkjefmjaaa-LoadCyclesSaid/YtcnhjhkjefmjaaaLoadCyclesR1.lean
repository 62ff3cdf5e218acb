/- Runs of gneiss/gneisslaw15.LoadCycles. -/
import Derived.Test.YtcnhjhkjefmjaaaLoadCyclesR
namespace Go.Proofs.Ytcnhjhkjefmjaaa.loadCycles
open Go Go.Proofs Go.Ai
theorem r2_f : yes (run 2 false) = true := by kernel_rfl
theorem r2_t : yes (run 2 true) = true := by kernel_rfl
theorem r3_f : yes (run 3 false) = true := by kernel_rfl
theorem r3_t : yes (run 3 true) = true := by kernel_rfl
end Go.Proofs.Ytcnhjhkjefmjaaa.loadCycles
