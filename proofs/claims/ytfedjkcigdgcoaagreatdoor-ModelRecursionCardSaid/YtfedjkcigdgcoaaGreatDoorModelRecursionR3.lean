/- Runs of gneiss/gneisslaw21.ModelRecursion. -/
import Derived.Test.YtfedjkcigdgcoaaGreatDoorModelRecursionR
namespace Go.Proofs.YtfedjkcigdgcoaaGreatDoor.modelRecursion
open Go Go.Proofs Go.Ai
theorem r12 : yes (run [(.bin .and .i64 (.var 0) (.lit 31), .lit (.ofNat (nat_lit 12)))] []) = true := by kernel_rfl
theorem r13 : yes (run [(.bin .and .i64 (.var 0) (.lit 31), .lit (.ofNat (nat_lit 13)))] []) = true := by kernel_rfl
theorem r14 : yes (run [(.bin .and .i64 (.var 0) (.lit 31), .lit (.ofNat (nat_lit 14)))] []) = true := by kernel_rfl
theorem r15 : yes (run [(.bin .and .i64 (.var 0) (.lit 31), .lit (.ofNat (nat_lit 15)))] []) = true := by kernel_rfl
end Go.Proofs.YtfedjkcigdgcoaaGreatDoor.modelRecursion
