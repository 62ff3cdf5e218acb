/- Runs of gneiss/gneisslaw15.LoadFields. -/
import Derived.Test.YtcnhjhkjefmjaaaLoadFieldsR
namespace Go.Proofs.Ytcnhjhkjefmjaaa.loadFields
open Go Go.Proofs Go.Ai
theorem r2_0 : yes (run [(.bin .and .i64 (.var 0) (.lit 7), .lit (.ofNat (nat_lit 2))), (.bin .and .i64 (.var 1) (.lit 7), .lit (.ofNat (nat_lit 0)))] []) = true := by kernel_rfl
theorem r2_1 : yes (run [(.bin .and .i64 (.var 0) (.lit 7), .lit (.ofNat (nat_lit 2))), (.bin .and .i64 (.var 1) (.lit 7), .lit (.ofNat (nat_lit 1)))] []) = true := by kernel_rfl
theorem r2_2 : yes (run [(.bin .and .i64 (.var 0) (.lit 7), .lit (.ofNat (nat_lit 2))), (.bin .and .i64 (.var 1) (.lit 7), .lit (.ofNat (nat_lit 2)))] []) = true := by kernel_rfl
theorem r2_3 : yes (run [(.bin .and .i64 (.var 0) (.lit 7), .lit (.ofNat (nat_lit 2))), (.bin .and .i64 (.var 1) (.lit 7), .lit (.ofNat (nat_lit 3)))] []) = true := by kernel_rfl
theorem r2_4 : yes (run [(.bin .and .i64 (.var 0) (.lit 7), .lit (.ofNat (nat_lit 2))), (.bin .and .i64 (.var 1) (.lit 7), .lit (.ofNat (nat_lit 4)))] []) = true := by kernel_rfl
theorem r2_5 : yes (run [(.bin .and .i64 (.var 0) (.lit 7), .lit (.ofNat (nat_lit 2))), (.bin .and .i64 (.var 1) (.lit 7), .lit (.ofNat (nat_lit 5)))] []) = true := by kernel_rfl
theorem r2_6 : yes (run [(.bin .and .i64 (.var 0) (.lit 7), .lit (.ofNat (nat_lit 2))), (.bin .and .i64 (.var 1) (.lit 7), .lit (.ofNat (nat_lit 6)))] []) = true := by kernel_rfl
theorem r2_7 : yes (run [(.bin .and .i64 (.var 0) (.lit 7), .lit (.ofNat (nat_lit 2))), (.bin .and .i64 (.var 1) (.lit 7), .lit (.ofNat (nat_lit 7)))] []) = true := by kernel_rfl
end Go.Proofs.Ytcnhjhkjefmjaaa.loadFields
