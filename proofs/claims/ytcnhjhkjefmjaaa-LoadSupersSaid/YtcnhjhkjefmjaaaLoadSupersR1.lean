/- Runs of gneiss/gneisslaw15.LoadSupers. -/
import Derived.Test.YtcnhjhkjefmjaaaLoadSupersR
namespace Go.Proofs.Ytcnhjhkjefmjaaa.loadSupers
open Go Go.Proofs Go.Ai
theorem r5 : yes (run [(.bin .rem .i64 (.var 0) (.lit 20), .lit (.ofNat (nat_lit 5)))] []) = true := by kernel_rfl
theorem r6 : yes (run [(.bin .rem .i64 (.var 0) (.lit 20), .lit (.ofNat (nat_lit 6)))] []) = true := by kernel_rfl
theorem r7 : yes (run [(.bin .rem .i64 (.var 0) (.lit 20), .lit (.ofNat (nat_lit 7)))] []) = true := by kernel_rfl
theorem r8 : yes (run [(.bin .rem .i64 (.var 0) (.lit 20), .lit (.ofNat (nat_lit 8)))] []) = true := by kernel_rfl
theorem r9 : yes (run [(.bin .rem .i64 (.var 0) (.lit 20), .lit (.ofNat (nat_lit 9)))] []) = true := by kernel_rfl
theorem r10 : yes (run [(.bin .rem .i64 (.var 0) (.lit 20), .lit (.ofNat (nat_lit 10)))] []) = true := by kernel_rfl
end Go.Proofs.Ytcnhjhkjefmjaaa.loadSupers
