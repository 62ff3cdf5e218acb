/- Runs of gneiss/gneisslaw15.LoadMains. -/
import Derived.Test.YtcnhjhkjefmjaaaLoadMainsR
namespace Go.Proofs.Ytcnhjhkjefmjaaa.loadMains
open Go Go.Proofs Go.Ai
theorem rm19to10_0 : yes (run [(.bin .and .i64 (.var 1) (.lit 3), .lit (.ofNat (nat_lit 0)))] [(.bin .rem .i64 (.var 0) (.lit 20), (.negSucc (nat_lit 18)), (.ofNat (nat_lit 10)))]) = true := by kernel_rfl
theorem r11_0 : yes (run [(.bin .and .i64 (.var 1) (.lit 3), .lit (.ofNat (nat_lit 0))), (.bin .rem .i64 (.var 0) (.lit 20), .lit (.ofNat (nat_lit 11)))] []) = true := by kernel_rfl
theorem r12_0 : yes (run [(.bin .and .i64 (.var 1) (.lit 3), .lit (.ofNat (nat_lit 0))), (.bin .rem .i64 (.var 0) (.lit 20), .lit (.ofNat (nat_lit 12)))] []) = true := by kernel_rfl
theorem r13_0 : yes (run [(.bin .and .i64 (.var 1) (.lit 3), .lit (.ofNat (nat_lit 0))), (.bin .rem .i64 (.var 0) (.lit 20), .lit (.ofNat (nat_lit 13)))] []) = true := by kernel_rfl
end Go.Proofs.Ytcnhjhkjefmjaaa.loadMains
