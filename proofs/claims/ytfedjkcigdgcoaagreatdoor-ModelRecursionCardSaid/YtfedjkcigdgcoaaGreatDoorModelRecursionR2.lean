/- Runs of gneiss/gneisslaw21.ModelRecursion. -/
import Derived.Test.YtfedjkcigdgcoaaGreatDoorModelRecursionR
namespace Go.Proofs.YtfedjkcigdgcoaaGreatDoor.modelRecursion
open Go Go.Proofs Go.Ai
theorem r8 : yes (run [(.bin .and .i64 (.var 0) (.lit 31), .lit (.ofNat (nat_lit 8)))] []) = true := by kernel_rfl
theorem r9 : yes (run [(.bin .and .i64 (.var 0) (.lit 31), .lit (.ofNat (nat_lit 9)))] []) = true := by kernel_rfl
theorem r10 : yes (run [(.bin .and .i64 (.var 0) (.lit 31), .lit (.ofNat (nat_lit 10)))] []) = true := by kernel_rfl
theorem r11 : yes (run [(.bin .and .i64 (.var 0) (.lit 31), .lit (.ofNat (nat_lit 11)))] []) = true := by kernel_rfl
end Go.Proofs.YtfedjkcigdgcoaaGreatDoor.modelRecursion
