/- Runs of gneiss/gneisslaw21.ModelRecursion. -/
import Derived.Test.YtfedjkcigdgcoaaGreatDoorModelRecursionR
namespace Go.Proofs.YtfedjkcigdgcoaaGreatDoor.modelRecursion
open Go Go.Proofs Go.Ai
set_option maxRecDepth 1000000
theorem f21 : fact (.ofNat (nat_lit 21)) m21 = true := by kernel_rfl
theorem r21 : yes (runN (.ofNat (nat_lit 21)) m21) = true := by kernel_rfl
theorem f22 : fact (.ofNat (nat_lit 22)) m22 = true := by kernel_rfl
theorem r22 : yes (runN (.ofNat (nat_lit 22)) m22) = true := by kernel_rfl
theorem r23 : yes (run [(.bin .and .i64 (.var 0) (.lit 31), .lit (.ofNat (nat_lit 23)))] []) = true := by kernel_rfl
end Go.Proofs.YtfedjkcigdgcoaaGreatDoor.modelRecursion
