/- Runs of gneiss/gneisslaw15.LoadMains. -/
import Derived.Test.YtcnhjhkjefmjaaaLoadMainsR
namespace Go.Proofs.Ytcnhjhkjefmjaaa.loadMains
open Go Go.Proofs Go.Ai
theorem r14to19_0 : yes (run [(.bin .and .i64 (.var 1) (.lit 3), .lit (.ofNat (nat_lit 0)))] [(.bin .rem .i64 (.var 0) (.lit 20), (.ofNat (nat_lit 14)), (.ofNat (nat_lit 19)))]) = true := by kernel_rfl
theorem rx_1 : yes (run [(.bin .and .i64 (.var 1) (.lit 3), .lit (.ofNat (nat_lit 1)))] []) = true := by kernel_rfl
theorem rx_2 : yes (run [(.bin .and .i64 (.var 1) (.lit 3), .lit (.ofNat (nat_lit 2)))] []) = true := by kernel_rfl
theorem rx_3 : yes (run [(.bin .and .i64 (.var 1) (.lit 3), .lit (.ofNat (nat_lit 3)))] []) = true := by kernel_rfl
end Go.Proofs.Ytcnhjhkjefmjaaa.loadMains
