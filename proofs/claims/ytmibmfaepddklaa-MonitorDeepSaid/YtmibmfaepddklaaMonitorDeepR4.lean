/- Runs of gneiss/gneisslaw20.MonitorDeep. -/
import Derived.Test.YtmibmfaepddklaaMonitorDeepR
namespace Go.Proofs.Ytmibmfaepddklaa.monitorDeep
open Go Go.Proofs Go.Ai
theorem r16_0 : yes (run [(.bin .and .i64 (.var 0) (.lit 63), .lit (.ofNat (nat_lit 16))), (.bin .and .i64 (.var 1) (.lit 3), .lit (.ofNat (nat_lit 0)))] []) = true := by kernel_rfl
theorem r16_1 : yes (run [(.bin .and .i64 (.var 0) (.lit 63), .lit (.ofNat (nat_lit 16))), (.bin .and .i64 (.var 1) (.lit 3), .lit (.ofNat (nat_lit 1)))] []) = true := by kernel_rfl
theorem r16_2 : yes (run [(.bin .and .i64 (.var 0) (.lit 63), .lit (.ofNat (nat_lit 16))), (.bin .and .i64 (.var 1) (.lit 3), .lit (.ofNat (nat_lit 2)))] []) = true := by kernel_rfl
theorem r16_3 : yes (run [(.bin .and .i64 (.var 0) (.lit 63), .lit (.ofNat (nat_lit 16))), (.bin .and .i64 (.var 1) (.lit 3), .lit (.ofNat (nat_lit 3)))] []) = true := by kernel_rfl
theorem r17_0 : yes (run [(.bin .and .i64 (.var 0) (.lit 63), .lit (.ofNat (nat_lit 17))), (.bin .and .i64 (.var 1) (.lit 3), .lit (.ofNat (nat_lit 0)))] []) = true := by kernel_rfl
theorem r17_1 : yes (run [(.bin .and .i64 (.var 0) (.lit 63), .lit (.ofNat (nat_lit 17))), (.bin .and .i64 (.var 1) (.lit 3), .lit (.ofNat (nat_lit 1)))] []) = true := by kernel_rfl
theorem r17_2 : yes (run [(.bin .and .i64 (.var 0) (.lit 63), .lit (.ofNat (nat_lit 17))), (.bin .and .i64 (.var 1) (.lit 3), .lit (.ofNat (nat_lit 2)))] []) = true := by kernel_rfl
theorem r17_3 : yes (run [(.bin .and .i64 (.var 0) (.lit 63), .lit (.ofNat (nat_lit 17))), (.bin .and .i64 (.var 1) (.lit 3), .lit (.ofNat (nat_lit 3)))] []) = true := by kernel_rfl
theorem r18_0 : yes (run [(.bin .and .i64 (.var 0) (.lit 63), .lit (.ofNat (nat_lit 18))), (.bin .and .i64 (.var 1) (.lit 3), .lit (.ofNat (nat_lit 0)))] []) = true := by kernel_rfl
theorem r18_1 : yes (run [(.bin .and .i64 (.var 0) (.lit 63), .lit (.ofNat (nat_lit 18))), (.bin .and .i64 (.var 1) (.lit 3), .lit (.ofNat (nat_lit 1)))] []) = true := by kernel_rfl
theorem r18_2 : yes (run [(.bin .and .i64 (.var 0) (.lit 63), .lit (.ofNat (nat_lit 18))), (.bin .and .i64 (.var 1) (.lit 3), .lit (.ofNat (nat_lit 2)))] []) = true := by kernel_rfl
theorem r18_3 : yes (run [(.bin .and .i64 (.var 0) (.lit 63), .lit (.ofNat (nat_lit 18))), (.bin .and .i64 (.var 1) (.lit 3), .lit (.ofNat (nat_lit 3)))] []) = true := by kernel_rfl
theorem r19_0 : yes (run [(.bin .and .i64 (.var 0) (.lit 63), .lit (.ofNat (nat_lit 19))), (.bin .and .i64 (.var 1) (.lit 3), .lit (.ofNat (nat_lit 0)))] []) = true := by kernel_rfl
theorem r19_1 : yes (run [(.bin .and .i64 (.var 0) (.lit 63), .lit (.ofNat (nat_lit 19))), (.bin .and .i64 (.var 1) (.lit 3), .lit (.ofNat (nat_lit 1)))] []) = true := by kernel_rfl
theorem r19_2 : yes (run [(.bin .and .i64 (.var 0) (.lit 63), .lit (.ofNat (nat_lit 19))), (.bin .and .i64 (.var 1) (.lit 3), .lit (.ofNat (nat_lit 2)))] []) = true := by kernel_rfl
theorem r19_3 : yes (run [(.bin .and .i64 (.var 0) (.lit 63), .lit (.ofNat (nat_lit 19))), (.bin .and .i64 (.var 1) (.lit 3), .lit (.ofNat (nat_lit 3)))] []) = true := by kernel_rfl
end Go.Proofs.Ytmibmfaepddklaa.monitorDeep
