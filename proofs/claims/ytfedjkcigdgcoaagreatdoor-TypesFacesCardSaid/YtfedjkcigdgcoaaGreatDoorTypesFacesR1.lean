/- Runs of gneiss/gneisslaw17.TypesFaces. -/
import Derived.Test.YtfedjkcigdgcoaaGreatDoorTypesFacesR
namespace Go.Proofs.YtfedjkcigdgcoaaGreatDoor.typesFaces
open Go Go.Proofs Go.Ai
theorem r1_0 : yes (run [(.bin .and .i64 (.var 0) (.lit 3), .lit (.ofNat (nat_lit 1))), (.bin .and .i64 (.var 1) (.lit 3), .lit (.ofNat (nat_lit 0)))] []) = true := by kernel_rfl
theorem r1_1 : yes (run [(.bin .and .i64 (.var 0) (.lit 3), .lit (.ofNat (nat_lit 1))), (.bin .and .i64 (.var 1) (.lit 3), .lit (.ofNat (nat_lit 1)))] []) = true := by kernel_rfl
theorem r1_2 : yes (run [(.bin .and .i64 (.var 0) (.lit 3), .lit (.ofNat (nat_lit 1))), (.bin .and .i64 (.var 1) (.lit 3), .lit (.ofNat (nat_lit 2)))] []) = true := by kernel_rfl
theorem r1_3 : yes (run [(.bin .and .i64 (.var 0) (.lit 3), .lit (.ofNat (nat_lit 1))), (.bin .and .i64 (.var 1) (.lit 3), .lit (.ofNat (nat_lit 3)))] []) = true := by kernel_rfl
end Go.Proofs.YtfedjkcigdgcoaaGreatDoor.typesFaces
