/- Runs of gneiss/gneisslaw4.SchedDead. -/
import Derived.Test.YtmnfeljfemobkaaSchedDeadR
namespace Go.Proofs.Ytmnfeljfemobkaa.schedDead
open Go Go.Proofs Go.Ai
theorem r4_0 : yes (run [(.bin .and .i64 (.var 0) (.lit 15), .lit (.ofNat (nat_lit 4))), (.bin .and .i64 (.var 1) (.lit 3), .lit (.ofNat (nat_lit 0)))] []) = true := by kernel_rfl
theorem r4_1 : yes (run [(.bin .and .i64 (.var 0) (.lit 15), .lit (.ofNat (nat_lit 4))), (.bin .and .i64 (.var 1) (.lit 3), .lit (.ofNat (nat_lit 1)))] []) = true := by kernel_rfl
theorem r4_2 : yes (run [(.bin .and .i64 (.var 0) (.lit 15), .lit (.ofNat (nat_lit 4))), (.bin .and .i64 (.var 1) (.lit 3), .lit (.ofNat (nat_lit 2)))] []) = true := by kernel_rfl
theorem r4_3 : yes (run [(.bin .and .i64 (.var 0) (.lit 15), .lit (.ofNat (nat_lit 4))), (.bin .and .i64 (.var 1) (.lit 3), .lit (.ofNat (nat_lit 3)))] []) = true := by kernel_rfl
theorem r5_0 : yes (run [(.bin .and .i64 (.var 0) (.lit 15), .lit (.ofNat (nat_lit 5))), (.bin .and .i64 (.var 1) (.lit 3), .lit (.ofNat (nat_lit 0)))] []) = true := by kernel_rfl
theorem r5_1 : yes (run [(.bin .and .i64 (.var 0) (.lit 15), .lit (.ofNat (nat_lit 5))), (.bin .and .i64 (.var 1) (.lit 3), .lit (.ofNat (nat_lit 1)))] []) = true := by kernel_rfl
theorem r5_2 : yes (run [(.bin .and .i64 (.var 0) (.lit 15), .lit (.ofNat (nat_lit 5))), (.bin .and .i64 (.var 1) (.lit 3), .lit (.ofNat (nat_lit 2)))] []) = true := by kernel_rfl
theorem r5_3 : yes (run [(.bin .and .i64 (.var 0) (.lit 15), .lit (.ofNat (nat_lit 5))), (.bin .and .i64 (.var 1) (.lit 3), .lit (.ofNat (nat_lit 3)))] []) = true := by kernel_rfl
theorem r6_0 : yes (run [(.bin .and .i64 (.var 0) (.lit 15), .lit (.ofNat (nat_lit 6))), (.bin .and .i64 (.var 1) (.lit 3), .lit (.ofNat (nat_lit 0)))] []) = true := by kernel_rfl
theorem r6_1 : yes (run [(.bin .and .i64 (.var 0) (.lit 15), .lit (.ofNat (nat_lit 6))), (.bin .and .i64 (.var 1) (.lit 3), .lit (.ofNat (nat_lit 1)))] []) = true := by kernel_rfl
theorem r6_2 : yes (run [(.bin .and .i64 (.var 0) (.lit 15), .lit (.ofNat (nat_lit 6))), (.bin .and .i64 (.var 1) (.lit 3), .lit (.ofNat (nat_lit 2)))] []) = true := by kernel_rfl
theorem r6_3 : yes (run [(.bin .and .i64 (.var 0) (.lit 15), .lit (.ofNat (nat_lit 6))), (.bin .and .i64 (.var 1) (.lit 3), .lit (.ofNat (nat_lit 3)))] []) = true := by kernel_rfl
theorem r7_0 : yes (run [(.bin .and .i64 (.var 0) (.lit 15), .lit (.ofNat (nat_lit 7))), (.bin .and .i64 (.var 1) (.lit 3), .lit (.ofNat (nat_lit 0)))] []) = true := by kernel_rfl
theorem r7_1 : yes (run [(.bin .and .i64 (.var 0) (.lit 15), .lit (.ofNat (nat_lit 7))), (.bin .and .i64 (.var 1) (.lit 3), .lit (.ofNat (nat_lit 1)))] []) = true := by kernel_rfl
theorem r7_2 : yes (run [(.bin .and .i64 (.var 0) (.lit 15), .lit (.ofNat (nat_lit 7))), (.bin .and .i64 (.var 1) (.lit 3), .lit (.ofNat (nat_lit 2)))] []) = true := by kernel_rfl
theorem r7_3 : yes (run [(.bin .and .i64 (.var 0) (.lit 15), .lit (.ofNat (nat_lit 7))), (.bin .and .i64 (.var 1) (.lit 3), .lit (.ofNat (nat_lit 3)))] []) = true := by kernel_rfl
end Go.Proofs.Ytmnfeljfemobkaa.schedDead
