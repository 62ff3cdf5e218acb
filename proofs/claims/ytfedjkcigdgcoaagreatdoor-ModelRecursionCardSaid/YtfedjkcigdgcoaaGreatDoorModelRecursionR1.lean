/- Runs of gneiss/gneisslaw21.ModelRecursion. -/
import Derived.Test.YtfedjkcigdgcoaaGreatDoorModelRecursionR
namespace Go.Proofs.YtfedjkcigdgcoaaGreatDoor.modelRecursion
open Go Go.Proofs Go.Ai
theorem r4 : yes (run [(.bin .and .i64 (.var 0) (.lit 31), .lit (.ofNat (nat_lit 4)))] []) = true := by kernel_rfl
theorem r5 : yes (run [(.bin .and .i64 (.var 0) (.lit 31), .lit (.ofNat (nat_lit 5)))] []) = true := by kernel_rfl
theorem r6 : yes (run [(.bin .and .i64 (.var 0) (.lit 31), .lit (.ofNat (nat_lit 6)))] []) = true := by kernel_rfl
theorem r7 : yes (run [(.bin .and .i64 (.var 0) (.lit 31), .lit (.ofNat (nat_lit 7)))] []) = true := by kernel_rfl
end Go.Proofs.YtfedjkcigdgcoaaGreatDoor.modelRecursion
