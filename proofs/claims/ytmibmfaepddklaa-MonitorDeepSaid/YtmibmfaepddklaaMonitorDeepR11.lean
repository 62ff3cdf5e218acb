/- Runs of gneiss/gneisslaw20.MonitorDeep. -/
import Derived.Test.YtmibmfaepddklaaMonitorDeepR
namespace Go.Proofs.Ytmibmfaepddklaa.monitorDeep
open Go Go.Proofs Go.Ai
theorem r44_0 : yes (run [(.bin .and .i64 (.var 0) (.lit 63), .lit (.ofNat (nat_lit 44))), (.bin .and .i64 (.var 1) (.lit 3), .lit (.ofNat (nat_lit 0)))] []) = true := by kernel_rfl
theorem r44_1 : yes (run [(.bin .and .i64 (.var 0) (.lit 63), .lit (.ofNat (nat_lit 44))), (.bin .and .i64 (.var 1) (.lit 3), .lit (.ofNat (nat_lit 1)))] []) = true := by kernel_rfl
theorem r44_2 : yes (run [(.bin .and .i64 (.var 0) (.lit 63), .lit (.ofNat (nat_lit 44))), (.bin .and .i64 (.var 1) (.lit 3), .lit (.ofNat (nat_lit 2)))] []) = true := by kernel_rfl
theorem r44_3 : yes (run [(.bin .and .i64 (.var 0) (.lit 63), .lit (.ofNat (nat_lit 44))), (.bin .and .i64 (.var 1) (.lit 3), .lit (.ofNat (nat_lit 3)))] []) = true := by kernel_rfl
theorem r45_0 : yes (run [(.bin .and .i64 (.var 0) (.lit 63), .lit (.ofNat (nat_lit 45))), (.bin .and .i64 (.var 1) (.lit 3), .lit (.ofNat (nat_lit 0)))] []) = true := by kernel_rfl
theorem r45_1 : yes (run [(.bin .and .i64 (.var 0) (.lit 63), .lit (.ofNat (nat_lit 45))), (.bin .and .i64 (.var 1) (.lit 3), .lit (.ofNat (nat_lit 1)))] []) = true := by kernel_rfl
theorem r45_2 : yes (run [(.bin .and .i64 (.var 0) (.lit 63), .lit (.ofNat (nat_lit 45))), (.bin .and .i64 (.var 1) (.lit 3), .lit (.ofNat (nat_lit 2)))] []) = true := by kernel_rfl
theorem r45_3 : yes (run [(.bin .and .i64 (.var 0) (.lit 63), .lit (.ofNat (nat_lit 45))), (.bin .and .i64 (.var 1) (.lit 3), .lit (.ofNat (nat_lit 3)))] []) = true := by kernel_rfl
theorem r46_0 : yes (run [(.bin .and .i64 (.var 0) (.lit 63), .lit (.ofNat (nat_lit 46))), (.bin .and .i64 (.var 1) (.lit 3), .lit (.ofNat (nat_lit 0)))] []) = true := by kernel_rfl
theorem r46_1 : yes (run [(.bin .and .i64 (.var 0) (.lit 63), .lit (.ofNat (nat_lit 46))), (.bin .and .i64 (.var 1) (.lit 3), .lit (.ofNat (nat_lit 1)))] []) = true := by kernel_rfl
theorem r46_2 : yes (run [(.bin .and .i64 (.var 0) (.lit 63), .lit (.ofNat (nat_lit 46))), (.bin .and .i64 (.var 1) (.lit 3), .lit (.ofNat (nat_lit 2)))] []) = true := by kernel_rfl
theorem r46_3 : yes (run [(.bin .and .i64 (.var 0) (.lit 63), .lit (.ofNat (nat_lit 46))), (.bin .and .i64 (.var 1) (.lit 3), .lit (.ofNat (nat_lit 3)))] []) = true := by kernel_rfl
theorem r47_0 : yes (run [(.bin .and .i64 (.var 0) (.lit 63), .lit (.ofNat (nat_lit 47))), (.bin .and .i64 (.var 1) (.lit 3), .lit (.ofNat (nat_lit 0)))] []) = true := by kernel_rfl
theorem r47_1 : yes (run [(.bin .and .i64 (.var 0) (.lit 63), .lit (.ofNat (nat_lit 47))), (.bin .and .i64 (.var 1) (.lit 3), .lit (.ofNat (nat_lit 1)))] []) = true := by kernel_rfl
theorem r47_2 : yes (run [(.bin .and .i64 (.var 0) (.lit 63), .lit (.ofNat (nat_lit 47))), (.bin .and .i64 (.var 1) (.lit 3), .lit (.ofNat (nat_lit 2)))] []) = true := by kernel_rfl
theorem r47_3 : yes (run [(.bin .and .i64 (.var 0) (.lit 63), .lit (.ofNat (nat_lit 47))), (.bin .and .i64 (.var 1) (.lit 3), .lit (.ofNat (nat_lit 3)))] []) = true := by kernel_rfl
end Go.Proofs.Ytmibmfaepddklaa.monitorDeep
