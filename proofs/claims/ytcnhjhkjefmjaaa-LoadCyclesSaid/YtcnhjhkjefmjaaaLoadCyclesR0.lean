/- Runs of gneiss/gneisslaw15.LoadCycles. -/
import Derived.Test.YtcnhjhkjefmjaaaLoadCyclesR
namespace Go.Proofs.Ytcnhjhkjefmjaaa.loadCycles
open Go Go.Proofs Go.Ai
theorem r0_f : yes (run [(.bin .and .i64 (.var 0) (.lit 7), .lit (.ofNat (nat_lit 0)))] [] false) = true := by kernel_rfl
theorem r0_t : yes (run [(.bin .and .i64 (.var 0) (.lit 7), .lit (.ofNat (nat_lit 0)))] [] true) = true := by kernel_rfl
theorem r1_f : yes (run [(.bin .and .i64 (.var 0) (.lit 7), .lit (.ofNat (nat_lit 1)))] [] false) = true := by kernel_rfl
theorem r1_t : yes (run [(.bin .and .i64 (.var 0) (.lit 7), .lit (.ofNat (nat_lit 1)))] [] true) = true := by kernel_rfl
theorem r2_f : yes (run [(.bin .and .i64 (.var 0) (.lit 7), .lit (.ofNat (nat_lit 2)))] [] false) = true := by kernel_rfl
end Go.Proofs.Ytcnhjhkjefmjaaa.loadCycles
