/- Runs of gneiss/gneisslaw15.LoadCycles. -/
import Derived.Test.YtcnhjhkjefmjaaaLoadCyclesR
namespace Go.Proofs.Ytcnhjhkjefmjaaa.loadCycles
open Go Go.Proofs Go.Ai
theorem r2_t : yes (run [(.bin .and .i64 (.var 0) (.lit 7), .lit (.ofNat (nat_lit 2)))] [] true) = true := by kernel_rfl
theorem r3_f : yes (run [(.bin .and .i64 (.var 0) (.lit 7), .lit (.ofNat (nat_lit 3)))] [] false) = true := by kernel_rfl
theorem r3_t : yes (run [(.bin .and .i64 (.var 0) (.lit 7), .lit (.ofNat (nat_lit 3)))] [] true) = true := by kernel_rfl
theorem r4_f : yes (run [(.bin .and .i64 (.var 0) (.lit 7), .lit (.ofNat (nat_lit 4)))] [] false) = true := by kernel_rfl
theorem r4_t : yes (run [(.bin .and .i64 (.var 0) (.lit 7), .lit (.ofNat (nat_lit 4)))] [] true) = true := by kernel_rfl
end Go.Proofs.Ytcnhjhkjefmjaaa.loadCycles
