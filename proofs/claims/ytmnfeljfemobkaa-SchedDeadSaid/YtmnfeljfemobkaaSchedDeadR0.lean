/- Runs of gneiss/gneisslaw4.SchedDead. -/
import Derived.Test.YtmnfeljfemobkaaSchedDeadR
namespace Go.Proofs.Ytmnfeljfemobkaa.schedDead
open Go Go.Proofs Go.Ai
theorem r0_0 : yes (run [(.bin .and .i64 (.var 0) (.lit 15), .lit (.ofNat (nat_lit 0))), (.bin .and .i64 (.var 1) (.lit 3), .lit (.ofNat (nat_lit 0)))] []) = true := by kernel_rfl
theorem r0_1 : yes (run [(.bin .and .i64 (.var 0) (.lit 15), .lit (.ofNat (nat_lit 0))), (.bin .and .i64 (.var 1) (.lit 3), .lit (.ofNat (nat_lit 1)))] []) = true := by kernel_rfl
theorem r0_2 : yes (run [(.bin .and .i64 (.var 0) (.lit 15), .lit (.ofNat (nat_lit 0))), (.bin .and .i64 (.var 1) (.lit 3), .lit (.ofNat (nat_lit 2)))] []) = true := by kernel_rfl
theorem r0_3 : yes (run [(.bin .and .i64 (.var 0) (.lit 15), .lit (.ofNat (nat_lit 0))), (.bin .and .i64 (.var 1) (.lit 3), .lit (.ofNat (nat_lit 3)))] []) = true := by kernel_rfl
theorem r1_0 : yes (run [(.bin .and .i64 (.var 0) (.lit 15), .lit (.ofNat (nat_lit 1))), (.bin .and .i64 (.var 1) (.lit 3), .lit (.ofNat (nat_lit 0)))] []) = true := by kernel_rfl
theorem r1_1 : yes (run [(.bin .and .i64 (.var 0) (.lit 15), .lit (.ofNat (nat_lit 1))), (.bin .and .i64 (.var 1) (.lit 3), .lit (.ofNat (nat_lit 1)))] []) = true := by kernel_rfl
theorem r1_2 : yes (run [(.bin .and .i64 (.var 0) (.lit 15), .lit (.ofNat (nat_lit 1))), (.bin .and .i64 (.var 1) (.lit 3), .lit (.ofNat (nat_lit 2)))] []) = true := by kernel_rfl
theorem r1_3 : yes (run [(.bin .and .i64 (.var 0) (.lit 15), .lit (.ofNat (nat_lit 1))), (.bin .and .i64 (.var 1) (.lit 3), .lit (.ofNat (nat_lit 3)))] []) = true := by kernel_rfl
theorem r2_0 : yes (run [(.bin .and .i64 (.var 0) (.lit 15), .lit (.ofNat (nat_lit 2))), (.bin .and .i64 (.var 1) (.lit 3), .lit (.ofNat (nat_lit 0)))] []) = true := by kernel_rfl
theorem r2_1 : yes (run [(.bin .and .i64 (.var 0) (.lit 15), .lit (.ofNat (nat_lit 2))), (.bin .and .i64 (.var 1) (.lit 3), .lit (.ofNat (nat_lit 1)))] []) = true := by kernel_rfl
theorem r2_2 : yes (run [(.bin .and .i64 (.var 0) (.lit 15), .lit (.ofNat (nat_lit 2))), (.bin .and .i64 (.var 1) (.lit 3), .lit (.ofNat (nat_lit 2)))] []) = true := by kernel_rfl
theorem r2_3 : yes (run [(.bin .and .i64 (.var 0) (.lit 15), .lit (.ofNat (nat_lit 2))), (.bin .and .i64 (.var 1) (.lit 3), .lit (.ofNat (nat_lit 3)))] []) = true := by kernel_rfl
theorem r3_0 : yes (run [(.bin .and .i64 (.var 0) (.lit 15), .lit (.ofNat (nat_lit 3))), (.bin .and .i64 (.var 1) (.lit 3), .lit (.ofNat (nat_lit 0)))] []) = true := by kernel_rfl
theorem r3_1 : yes (run [(.bin .and .i64 (.var 0) (.lit 15), .lit (.ofNat (nat_lit 3))), (.bin .and .i64 (.var 1) (.lit 3), .lit (.ofNat (nat_lit 1)))] []) = true := by kernel_rfl
theorem r3_2 : yes (run [(.bin .and .i64 (.var 0) (.lit 15), .lit (.ofNat (nat_lit 3))), (.bin .and .i64 (.var 1) (.lit 3), .lit (.ofNat (nat_lit 2)))] []) = true := by kernel_rfl
theorem r3_3 : yes (run [(.bin .and .i64 (.var 0) (.lit 15), .lit (.ofNat (nat_lit 3))), (.bin .and .i64 (.var 1) (.lit 3), .lit (.ofNat (nat_lit 3)))] []) = true := by kernel_rfl
end Go.Proofs.Ytmnfeljfemobkaa.schedDead
