/- Runs of gneiss/gneisslaw15.LoadCycles. -/
import Derived.Test.YtcnhjhkjefmjaaaLoadCyclesR
namespace Go.Proofs.Ytcnhjhkjefmjaaa.loadCycles
open Go Go.Proofs Go.Ai
theorem r5_f : yes (run [(.bin .and .i64 (.var 0) (.lit 7), .lit (.ofNat (nat_lit 5)))] [] false) = true := by kernel_rfl
theorem r5_t : yes (run [(.bin .and .i64 (.var 0) (.lit 7), .lit (.ofNat (nat_lit 5)))] [] true) = true := by kernel_rfl
theorem r6_f : yes (run [(.bin .and .i64 (.var 0) (.lit 7), .lit (.ofNat (nat_lit 6)))] [] false) = true := by kernel_rfl
theorem r6_t : yes (run [(.bin .and .i64 (.var 0) (.lit 7), .lit (.ofNat (nat_lit 6)))] [] true) = true := by kernel_rfl
theorem r7_f : yes (run [(.bin .and .i64 (.var 0) (.lit 7), .lit (.ofNat (nat_lit 7)))] [] false) = true := by kernel_rfl
end Go.Proofs.Ytcnhjhkjefmjaaa.loadCycles
