/- Runs of gneiss/gneisslaw4.SchedDead. -/
import Derived.Test.YtmnfeljfemobkaaSchedDeadR
namespace Go.Proofs.Ytmnfeljfemobkaa.schedDead
open Go Go.Proofs Go.Ai
theorem r12_0 : yes (run [(.bin .and .i64 (.var 0) (.lit 15), .lit (.ofNat (nat_lit 12))), (.bin .and .i64 (.var 1) (.lit 3), .lit (.ofNat (nat_lit 0)))] []) = true := by kernel_rfl
theorem r12_1 : yes (run [(.bin .and .i64 (.var 0) (.lit 15), .lit (.ofNat (nat_lit 12))), (.bin .and .i64 (.var 1) (.lit 3), .lit (.ofNat (nat_lit 1)))] []) = true := by kernel_rfl
theorem r12_2 : yes (run [(.bin .and .i64 (.var 0) (.lit 15), .lit (.ofNat (nat_lit 12))), (.bin .and .i64 (.var 1) (.lit 3), .lit (.ofNat (nat_lit 2)))] []) = true := by kernel_rfl
theorem r12_3 : yes (run [(.bin .and .i64 (.var 0) (.lit 15), .lit (.ofNat (nat_lit 12))), (.bin .and .i64 (.var 1) (.lit 3), .lit (.ofNat (nat_lit 3)))] []) = true := by kernel_rfl
theorem r13_0 : yes (run [(.bin .and .i64 (.var 0) (.lit 15), .lit (.ofNat (nat_lit 13))), (.bin .and .i64 (.var 1) (.lit 3), .lit (.ofNat (nat_lit 0)))] []) = true := by kernel_rfl
theorem r13_1 : yes (run [(.bin .and .i64 (.var 0) (.lit 15), .lit (.ofNat (nat_lit 13))), (.bin .and .i64 (.var 1) (.lit 3), .lit (.ofNat (nat_lit 1)))] []) = true := by kernel_rfl
theorem r13_2 : yes (run [(.bin .and .i64 (.var 0) (.lit 15), .lit (.ofNat (nat_lit 13))), (.bin .and .i64 (.var 1) (.lit 3), .lit (.ofNat (nat_lit 2)))] []) = true := by kernel_rfl
theorem r13_3 : yes (run [(.bin .and .i64 (.var 0) (.lit 15), .lit (.ofNat (nat_lit 13))), (.bin .and .i64 (.var 1) (.lit 3), .lit (.ofNat (nat_lit 3)))] []) = true := by kernel_rfl
theorem r14_0 : yes (run [(.bin .and .i64 (.var 0) (.lit 15), .lit (.ofNat (nat_lit 14))), (.bin .and .i64 (.var 1) (.lit 3), .lit (.ofNat (nat_lit 0)))] []) = true := by kernel_rfl
theorem r14_1 : yes (run [(.bin .and .i64 (.var 0) (.lit 15), .lit (.ofNat (nat_lit 14))), (.bin .and .i64 (.var 1) (.lit 3), .lit (.ofNat (nat_lit 1)))] []) = true := by kernel_rfl
theorem r14_2 : yes (run [(.bin .and .i64 (.var 0) (.lit 15), .lit (.ofNat (nat_lit 14))), (.bin .and .i64 (.var 1) (.lit 3), .lit (.ofNat (nat_lit 2)))] []) = true := by kernel_rfl
theorem r14_3 : yes (run [(.bin .and .i64 (.var 0) (.lit 15), .lit (.ofNat (nat_lit 14))), (.bin .and .i64 (.var 1) (.lit 3), .lit (.ofNat (nat_lit 3)))] []) = true := by kernel_rfl
theorem r15_0 : yes (run [(.bin .and .i64 (.var 0) (.lit 15), .lit (.ofNat (nat_lit 15))), (.bin .and .i64 (.var 1) (.lit 3), .lit (.ofNat (nat_lit 0)))] []) = true := by kernel_rfl
theorem r15_1 : yes (run [(.bin .and .i64 (.var 0) (.lit 15), .lit (.ofNat (nat_lit 15))), (.bin .and .i64 (.var 1) (.lit 3), .lit (.ofNat (nat_lit 1)))] []) = true := by kernel_rfl
theorem r15_2 : yes (run [(.bin .and .i64 (.var 0) (.lit 15), .lit (.ofNat (nat_lit 15))), (.bin .and .i64 (.var 1) (.lit 3), .lit (.ofNat (nat_lit 2)))] []) = true := by kernel_rfl
theorem r15_3 : yes (run [(.bin .and .i64 (.var 0) (.lit 15), .lit (.ofNat (nat_lit 15))), (.bin .and .i64 (.var 1) (.lit 3), .lit (.ofNat (nat_lit 3)))] []) = true := by kernel_rfl
end Go.Proofs.Ytmnfeljfemobkaa.schedDead
