/- Runs of gneiss/gneisslaw15.LoadTypes. -/
import Derived.Test.YtcnhjhkjefmjaaaLoadTypesR
namespace Go.Proofs.Ytcnhjhkjefmjaaa.loadTypes
open Go Go.Proofs Go.Ai
theorem r2_m39tom1 : yes (run [(.bin .and .i64 (.var 0) (.lit 3), .lit (.ofNat (nat_lit 2)))] [(.bin .rem .i64 (.var 1) (.lit 40), (.negSucc (nat_lit 38)), (.negSucc (nat_lit 0)))]) = true := by kernel_rfl
theorem r2_0 : yes (run [(.bin .and .i64 (.var 0) (.lit 3), .lit (.ofNat (nat_lit 2))), (.bin .rem .i64 (.var 1) (.lit 40), .lit (.ofNat (nat_lit 0)))] []) = true := by kernel_rfl
theorem r2_1 : yes (run [(.bin .and .i64 (.var 0) (.lit 3), .lit (.ofNat (nat_lit 2))), (.bin .rem .i64 (.var 1) (.lit 40), .lit (.ofNat (nat_lit 1)))] []) = true := by kernel_rfl
theorem r2_2 : yes (run [(.bin .and .i64 (.var 0) (.lit 3), .lit (.ofNat (nat_lit 2))), (.bin .rem .i64 (.var 1) (.lit 40), .lit (.ofNat (nat_lit 2)))] []) = true := by kernel_rfl
theorem r2_3 : yes (run [(.bin .and .i64 (.var 0) (.lit 3), .lit (.ofNat (nat_lit 2))), (.bin .rem .i64 (.var 1) (.lit 40), .lit (.ofNat (nat_lit 3)))] []) = true := by kernel_rfl
theorem r2_4 : yes (run [(.bin .and .i64 (.var 0) (.lit 3), .lit (.ofNat (nat_lit 2))), (.bin .rem .i64 (.var 1) (.lit 40), .lit (.ofNat (nat_lit 4)))] []) = true := by kernel_rfl
theorem r2_5to15 : yes (run [(.bin .and .i64 (.var 0) (.lit 3), .lit (.ofNat (nat_lit 2)))] [(.bin .rem .i64 (.var 1) (.lit 40), (.ofNat (nat_lit 5)), (.ofNat (nat_lit 15)))]) = true := by kernel_rfl
theorem r2_16to28 : yes (run [(.bin .and .i64 (.var 0) (.lit 3), .lit (.ofNat (nat_lit 2)))] [(.bin .rem .i64 (.var 1) (.lit 40), (.ofNat (nat_lit 16)), (.ofNat (nat_lit 28)))]) = true := by kernel_rfl
theorem r2_29to39 : yes (run [(.bin .and .i64 (.var 0) (.lit 3), .lit (.ofNat (nat_lit 2)))] [(.bin .rem .i64 (.var 1) (.lit 40), (.ofNat (nat_lit 29)), (.ofNat (nat_lit 39)))]) = true := by kernel_rfl
end Go.Proofs.Ytcnhjhkjefmjaaa.loadTypes
