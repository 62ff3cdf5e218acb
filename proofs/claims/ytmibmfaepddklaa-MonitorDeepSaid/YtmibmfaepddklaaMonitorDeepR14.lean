/- Runs of gneiss/gneisslaw20.MonitorDeep. -/
import Derived.Test.YtmibmfaepddklaaMonitorDeepR
namespace Go.Proofs.Ytmibmfaepddklaa.monitorDeep
open Go Go.Proofs Go.Ai
theorem r56_0 : yes (run [(.bin .and .i64 (.var 0) (.lit 63), .lit (.ofNat (nat_lit 56))), (.bin .and .i64 (.var 1) (.lit 3), .lit (.ofNat (nat_lit 0)))] []) = true := by kernel_rfl
theorem r56_1 : yes (run [(.bin .and .i64 (.var 0) (.lit 63), .lit (.ofNat (nat_lit 56))), (.bin .and .i64 (.var 1) (.lit 3), .lit (.ofNat (nat_lit 1)))] []) = true := by kernel_rfl
theorem r56_2 : yes (run [(.bin .and .i64 (.var 0) (.lit 63), .lit (.ofNat (nat_lit 56))), (.bin .and .i64 (.var 1) (.lit 3), .lit (.ofNat (nat_lit 2)))] []) = true := by kernel_rfl
theorem r56_3 : yes (run [(.bin .and .i64 (.var 0) (.lit 63), .lit (.ofNat (nat_lit 56))), (.bin .and .i64 (.var 1) (.lit 3), .lit (.ofNat (nat_lit 3)))] []) = true := by kernel_rfl
theorem r57_0 : yes (run [(.bin .and .i64 (.var 0) (.lit 63), .lit (.ofNat (nat_lit 57))), (.bin .and .i64 (.var 1) (.lit 3), .lit (.ofNat (nat_lit 0)))] []) = true := by kernel_rfl
theorem r57_1 : yes (run [(.bin .and .i64 (.var 0) (.lit 63), .lit (.ofNat (nat_lit 57))), (.bin .and .i64 (.var 1) (.lit 3), .lit (.ofNat (nat_lit 1)))] []) = true := by kernel_rfl
theorem r57_2 : yes (run [(.bin .and .i64 (.var 0) (.lit 63), .lit (.ofNat (nat_lit 57))), (.bin .and .i64 (.var 1) (.lit 3), .lit (.ofNat (nat_lit 2)))] []) = true := by kernel_rfl
theorem r57_3 : yes (run [(.bin .and .i64 (.var 0) (.lit 63), .lit (.ofNat (nat_lit 57))), (.bin .and .i64 (.var 1) (.lit 3), .lit (.ofNat (nat_lit 3)))] []) = true := by kernel_rfl
theorem r58_0 : yes (run [(.bin .and .i64 (.var 0) (.lit 63), .lit (.ofNat (nat_lit 58))), (.bin .and .i64 (.var 1) (.lit 3), .lit (.ofNat (nat_lit 0)))] []) = true := by kernel_rfl
theorem r58_1 : yes (run [(.bin .and .i64 (.var 0) (.lit 63), .lit (.ofNat (nat_lit 58))), (.bin .and .i64 (.var 1) (.lit 3), .lit (.ofNat (nat_lit 1)))] []) = true := by kernel_rfl
theorem r58_2 : yes (run [(.bin .and .i64 (.var 0) (.lit 63), .lit (.ofNat (nat_lit 58))), (.bin .and .i64 (.var 1) (.lit 3), .lit (.ofNat (nat_lit 2)))] []) = true := by kernel_rfl
theorem r58_3 : yes (run [(.bin .and .i64 (.var 0) (.lit 63), .lit (.ofNat (nat_lit 58))), (.bin .and .i64 (.var 1) (.lit 3), .lit (.ofNat (nat_lit 3)))] []) = true := by kernel_rfl
theorem r59_0 : yes (run [(.bin .and .i64 (.var 0) (.lit 63), .lit (.ofNat (nat_lit 59))), (.bin .and .i64 (.var 1) (.lit 3), .lit (.ofNat (nat_lit 0)))] []) = true := by kernel_rfl
theorem r59_1 : yes (run [(.bin .and .i64 (.var 0) (.lit 63), .lit (.ofNat (nat_lit 59))), (.bin .and .i64 (.var 1) (.lit 3), .lit (.ofNat (nat_lit 1)))] []) = true := by kernel_rfl
theorem r59_2 : yes (run [(.bin .and .i64 (.var 0) (.lit 63), .lit (.ofNat (nat_lit 59))), (.bin .and .i64 (.var 1) (.lit 3), .lit (.ofNat (nat_lit 2)))] []) = true := by kernel_rfl
theorem r59_3 : yes (run [(.bin .and .i64 (.var 0) (.lit 63), .lit (.ofNat (nat_lit 59))), (.bin .and .i64 (.var 1) (.lit 3), .lit (.ofNat (nat_lit 3)))] []) = true := by kernel_rfl
end Go.Proofs.Ytmibmfaepddklaa.monitorDeep
