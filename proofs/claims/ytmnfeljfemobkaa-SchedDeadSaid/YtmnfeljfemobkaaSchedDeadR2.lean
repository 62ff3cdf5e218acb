/- Runs of gneiss/gneisslaw4.SchedDead. -/
import Derived.Test.YtmnfeljfemobkaaSchedDeadR
namespace Go.Proofs.Ytmnfeljfemobkaa.schedDead
open Go Go.Proofs Go.Ai
theorem r8_0 : yes (run [(.bin .and .i64 (.var 0) (.lit 15), .lit (.ofNat (nat_lit 8))), (.bin .and .i64 (.var 1) (.lit 3), .lit (.ofNat (nat_lit 0)))] []) = true := by kernel_rfl
theorem r8_1 : yes (run [(.bin .and .i64 (.var 0) (.lit 15), .lit (.ofNat (nat_lit 8))), (.bin .and .i64 (.var 1) (.lit 3), .lit (.ofNat (nat_lit 1)))] []) = true := by kernel_rfl
theorem r8_2 : yes (run [(.bin .and .i64 (.var 0) (.lit 15), .lit (.ofNat (nat_lit 8))), (.bin .and .i64 (.var 1) (.lit 3), .lit (.ofNat (nat_lit 2)))] []) = true := by kernel_rfl
theorem r8_3 : yes (run [(.bin .and .i64 (.var 0) (.lit 15), .lit (.ofNat (nat_lit 8))), (.bin .and .i64 (.var 1) (.lit 3), .lit (.ofNat (nat_lit 3)))] []) = true := by kernel_rfl
theorem r9_0 : yes (run [(.bin .and .i64 (.var 0) (.lit 15), .lit (.ofNat (nat_lit 9))), (.bin .and .i64 (.var 1) (.lit 3), .lit (.ofNat (nat_lit 0)))] []) = true := by kernel_rfl
theorem r9_1 : yes (run [(.bin .and .i64 (.var 0) (.lit 15), .lit (.ofNat (nat_lit 9))), (.bin .and .i64 (.var 1) (.lit 3), .lit (.ofNat (nat_lit 1)))] []) = true := by kernel_rfl
theorem r9_2 : yes (run [(.bin .and .i64 (.var 0) (.lit 15), .lit (.ofNat (nat_lit 9))), (.bin .and .i64 (.var 1) (.lit 3), .lit (.ofNat (nat_lit 2)))] []) = true := by kernel_rfl
theorem r9_3 : yes (run [(.bin .and .i64 (.var 0) (.lit 15), .lit (.ofNat (nat_lit 9))), (.bin .and .i64 (.var 1) (.lit 3), .lit (.ofNat (nat_lit 3)))] []) = true := by kernel_rfl
theorem r10_0 : yes (run [(.bin .and .i64 (.var 0) (.lit 15), .lit (.ofNat (nat_lit 10))), (.bin .and .i64 (.var 1) (.lit 3), .lit (.ofNat (nat_lit 0)))] []) = true := by kernel_rfl
theorem r10_1 : yes (run [(.bin .and .i64 (.var 0) (.lit 15), .lit (.ofNat (nat_lit 10))), (.bin .and .i64 (.var 1) (.lit 3), .lit (.ofNat (nat_lit 1)))] []) = true := by kernel_rfl
theorem r10_2 : yes (run [(.bin .and .i64 (.var 0) (.lit 15), .lit (.ofNat (nat_lit 10))), (.bin .and .i64 (.var 1) (.lit 3), .lit (.ofNat (nat_lit 2)))] []) = true := by kernel_rfl
theorem r10_3 : yes (run [(.bin .and .i64 (.var 0) (.lit 15), .lit (.ofNat (nat_lit 10))), (.bin .and .i64 (.var 1) (.lit 3), .lit (.ofNat (nat_lit 3)))] []) = true := by kernel_rfl
theorem r11_0 : yes (run [(.bin .and .i64 (.var 0) (.lit 15), .lit (.ofNat (nat_lit 11))), (.bin .and .i64 (.var 1) (.lit 3), .lit (.ofNat (nat_lit 0)))] []) = true := by kernel_rfl
theorem r11_1 : yes (run [(.bin .and .i64 (.var 0) (.lit 15), .lit (.ofNat (nat_lit 11))), (.bin .and .i64 (.var 1) (.lit 3), .lit (.ofNat (nat_lit 1)))] []) = true := by kernel_rfl
theorem r11_2 : yes (run [(.bin .and .i64 (.var 0) (.lit 15), .lit (.ofNat (nat_lit 11))), (.bin .and .i64 (.var 1) (.lit 3), .lit (.ofNat (nat_lit 2)))] []) = true := by kernel_rfl
theorem r11_3 : yes (run [(.bin .and .i64 (.var 0) (.lit 15), .lit (.ofNat (nat_lit 11))), (.bin .and .i64 (.var 1) (.lit 3), .lit (.ofNat (nat_lit 3)))] []) = true := by kernel_rfl
end Go.Proofs.Ytmnfeljfemobkaa.schedDead
