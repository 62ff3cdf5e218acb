/- Runs of gneiss/gneisslaw20.MonitorDeep. -/
import Derived.Test.YtmibmfaepddklaaMonitorDeepR
namespace Go.Proofs.Ytmibmfaepddklaa.monitorDeep
open Go Go.Proofs Go.Ai
theorem r32_0 : yes (run [(.bin .and .i64 (.var 0) (.lit 63), .lit (.ofNat (nat_lit 32))), (.bin .and .i64 (.var 1) (.lit 3), .lit (.ofNat (nat_lit 0)))] []) = true := by kernel_rfl
theorem r32_1 : yes (run [(.bin .and .i64 (.var 0) (.lit 63), .lit (.ofNat (nat_lit 32))), (.bin .and .i64 (.var 1) (.lit 3), .lit (.ofNat (nat_lit 1)))] []) = true := by kernel_rfl
theorem r32_2 : yes (run [(.bin .and .i64 (.var 0) (.lit 63), .lit (.ofNat (nat_lit 32))), (.bin .and .i64 (.var 1) (.lit 3), .lit (.ofNat (nat_lit 2)))] []) = true := by kernel_rfl
theorem r32_3 : yes (run [(.bin .and .i64 (.var 0) (.lit 63), .lit (.ofNat (nat_lit 32))), (.bin .and .i64 (.var 1) (.lit 3), .lit (.ofNat (nat_lit 3)))] []) = true := by kernel_rfl
theorem r33_0 : yes (run [(.bin .and .i64 (.var 0) (.lit 63), .lit (.ofNat (nat_lit 33))), (.bin .and .i64 (.var 1) (.lit 3), .lit (.ofNat (nat_lit 0)))] []) = true := by kernel_rfl
theorem r33_1 : yes (run [(.bin .and .i64 (.var 0) (.lit 63), .lit (.ofNat (nat_lit 33))), (.bin .and .i64 (.var 1) (.lit 3), .lit (.ofNat (nat_lit 1)))] []) = true := by kernel_rfl
theorem r33_2 : yes (run [(.bin .and .i64 (.var 0) (.lit 63), .lit (.ofNat (nat_lit 33))), (.bin .and .i64 (.var 1) (.lit 3), .lit (.ofNat (nat_lit 2)))] []) = true := by kernel_rfl
theorem r33_3 : yes (run [(.bin .and .i64 (.var 0) (.lit 63), .lit (.ofNat (nat_lit 33))), (.bin .and .i64 (.var 1) (.lit 3), .lit (.ofNat (nat_lit 3)))] []) = true := by kernel_rfl
theorem r34_0 : yes (run [(.bin .and .i64 (.var 0) (.lit 63), .lit (.ofNat (nat_lit 34))), (.bin .and .i64 (.var 1) (.lit 3), .lit (.ofNat (nat_lit 0)))] []) = true := by kernel_rfl
theorem r34_1 : yes (run [(.bin .and .i64 (.var 0) (.lit 63), .lit (.ofNat (nat_lit 34))), (.bin .and .i64 (.var 1) (.lit 3), .lit (.ofNat (nat_lit 1)))] []) = true := by kernel_rfl
theorem r34_2 : yes (run [(.bin .and .i64 (.var 0) (.lit 63), .lit (.ofNat (nat_lit 34))), (.bin .and .i64 (.var 1) (.lit 3), .lit (.ofNat (nat_lit 2)))] []) = true := by kernel_rfl
theorem r34_3 : yes (run [(.bin .and .i64 (.var 0) (.lit 63), .lit (.ofNat (nat_lit 34))), (.bin .and .i64 (.var 1) (.lit 3), .lit (.ofNat (nat_lit 3)))] []) = true := by kernel_rfl
theorem r35_0 : yes (run [(.bin .and .i64 (.var 0) (.lit 63), .lit (.ofNat (nat_lit 35))), (.bin .and .i64 (.var 1) (.lit 3), .lit (.ofNat (nat_lit 0)))] []) = true := by kernel_rfl
theorem r35_1 : yes (run [(.bin .and .i64 (.var 0) (.lit 63), .lit (.ofNat (nat_lit 35))), (.bin .and .i64 (.var 1) (.lit 3), .lit (.ofNat (nat_lit 1)))] []) = true := by kernel_rfl
theorem r35_2 : yes (run [(.bin .and .i64 (.var 0) (.lit 63), .lit (.ofNat (nat_lit 35))), (.bin .and .i64 (.var 1) (.lit 3), .lit (.ofNat (nat_lit 2)))] []) = true := by kernel_rfl
theorem r35_3 : yes (run [(.bin .and .i64 (.var 0) (.lit 63), .lit (.ofNat (nat_lit 35))), (.bin .and .i64 (.var 1) (.lit 3), .lit (.ofNat (nat_lit 3)))] []) = true := by kernel_rfl
end Go.Proofs.Ytmibmfaepddklaa.monitorDeep
