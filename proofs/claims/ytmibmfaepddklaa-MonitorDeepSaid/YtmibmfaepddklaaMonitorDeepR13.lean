/- Runs of gneiss/gneisslaw20.MonitorDeep. -/
import Derived.Test.YtmibmfaepddklaaMonitorDeepR
namespace Go.Proofs.Ytmibmfaepddklaa.monitorDeep
open Go Go.Proofs Go.Ai
theorem r52_0 : yes (run [(.bin .and .i64 (.var 0) (.lit 63), .lit (.ofNat (nat_lit 52))), (.bin .and .i64 (.var 1) (.lit 3), .lit (.ofNat (nat_lit 0)))] []) = true := by kernel_rfl
theorem r52_1 : yes (run [(.bin .and .i64 (.var 0) (.lit 63), .lit (.ofNat (nat_lit 52))), (.bin .and .i64 (.var 1) (.lit 3), .lit (.ofNat (nat_lit 1)))] []) = true := by kernel_rfl
theorem r52_2 : yes (run [(.bin .and .i64 (.var 0) (.lit 63), .lit (.ofNat (nat_lit 52))), (.bin .and .i64 (.var 1) (.lit 3), .lit (.ofNat (nat_lit 2)))] []) = true := by kernel_rfl
theorem r52_3 : yes (run [(.bin .and .i64 (.var 0) (.lit 63), .lit (.ofNat (nat_lit 52))), (.bin .and .i64 (.var 1) (.lit 3), .lit (.ofNat (nat_lit 3)))] []) = true := by kernel_rfl
theorem r53_0 : yes (run [(.bin .and .i64 (.var 0) (.lit 63), .lit (.ofNat (nat_lit 53))), (.bin .and .i64 (.var 1) (.lit 3), .lit (.ofNat (nat_lit 0)))] []) = true := by kernel_rfl
theorem r53_1 : yes (run [(.bin .and .i64 (.var 0) (.lit 63), .lit (.ofNat (nat_lit 53))), (.bin .and .i64 (.var 1) (.lit 3), .lit (.ofNat (nat_lit 1)))] []) = true := by kernel_rfl
theorem r53_2 : yes (run [(.bin .and .i64 (.var 0) (.lit 63), .lit (.ofNat (nat_lit 53))), (.bin .and .i64 (.var 1) (.lit 3), .lit (.ofNat (nat_lit 2)))] []) = true := by kernel_rfl
theorem r53_3 : yes (run [(.bin .and .i64 (.var 0) (.lit 63), .lit (.ofNat (nat_lit 53))), (.bin .and .i64 (.var 1) (.lit 3), .lit (.ofNat (nat_lit 3)))] []) = true := by kernel_rfl
theorem r54_0 : yes (run [(.bin .and .i64 (.var 0) (.lit 63), .lit (.ofNat (nat_lit 54))), (.bin .and .i64 (.var 1) (.lit 3), .lit (.ofNat (nat_lit 0)))] []) = true := by kernel_rfl
theorem r54_1 : yes (run [(.bin .and .i64 (.var 0) (.lit 63), .lit (.ofNat (nat_lit 54))), (.bin .and .i64 (.var 1) (.lit 3), .lit (.ofNat (nat_lit 1)))] []) = true := by kernel_rfl
theorem r54_2 : yes (run [(.bin .and .i64 (.var 0) (.lit 63), .lit (.ofNat (nat_lit 54))), (.bin .and .i64 (.var 1) (.lit 3), .lit (.ofNat (nat_lit 2)))] []) = true := by kernel_rfl
theorem r54_3 : yes (run [(.bin .and .i64 (.var 0) (.lit 63), .lit (.ofNat (nat_lit 54))), (.bin .and .i64 (.var 1) (.lit 3), .lit (.ofNat (nat_lit 3)))] []) = true := by kernel_rfl
theorem r55_0 : yes (run [(.bin .and .i64 (.var 0) (.lit 63), .lit (.ofNat (nat_lit 55))), (.bin .and .i64 (.var 1) (.lit 3), .lit (.ofNat (nat_lit 0)))] []) = true := by kernel_rfl
theorem r55_1 : yes (run [(.bin .and .i64 (.var 0) (.lit 63), .lit (.ofNat (nat_lit 55))), (.bin .and .i64 (.var 1) (.lit 3), .lit (.ofNat (nat_lit 1)))] []) = true := by kernel_rfl
theorem r55_2 : yes (run [(.bin .and .i64 (.var 0) (.lit 63), .lit (.ofNat (nat_lit 55))), (.bin .and .i64 (.var 1) (.lit 3), .lit (.ofNat (nat_lit 2)))] []) = true := by kernel_rfl
theorem r55_3 : yes (run [(.bin .and .i64 (.var 0) (.lit 63), .lit (.ofNat (nat_lit 55))), (.bin .and .i64 (.var 1) (.lit 3), .lit (.ofNat (nat_lit 3)))] []) = true := by kernel_rfl
end Go.Proofs.Ytmibmfaepddklaa.monitorDeep
