/- Runs of gneiss/gneisslaw21.ModelRecursion. -/
import Derived.Test.YtfedjkcigdgcoaaGreatDoorModelRecursionR
namespace Go.Proofs.YtfedjkcigdgcoaaGreatDoor.modelRecursion
open Go Go.Proofs Go.Ai
theorem r24 : yes (run [(.bin .and .i64 (.var 0) (.lit 31), .lit (.ofNat (nat_lit 24)))] []) = true := by kernel_rfl
theorem r25 : yes (run [(.bin .and .i64 (.var 0) (.lit 31), .lit (.ofNat (nat_lit 25)))] []) = true := by kernel_rfl
theorem r26 : yes (run [(.bin .and .i64 (.var 0) (.lit 31), .lit (.ofNat (nat_lit 26)))] []) = true := by kernel_rfl
theorem r27 : yes (run [(.bin .and .i64 (.var 0) (.lit 31), .lit (.ofNat (nat_lit 27)))] []) = true := by kernel_rfl
end Go.Proofs.YtfedjkcigdgcoaaGreatDoor.modelRecursion
