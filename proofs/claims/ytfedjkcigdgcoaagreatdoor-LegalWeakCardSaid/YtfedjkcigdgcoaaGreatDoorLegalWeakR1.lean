/- Runs of gneiss/gneisslaw22.LegalWeak. -/
import Derived.Test.YtfedjkcigdgcoaaGreatDoorLegalWeakR
namespace Go.Proofs.YtfedjkcigdgcoaaGreatDoor.legalWeak
open Go Go.Proofs Go.Ai
theorem rf_2 : yes (run [(.bin .and .i64 (.var 1) (.lit 3), .lit (.ofNat (nat_lit 2)))] [] false) = true := by kernel_rfl
theorem rf_3 : yes (run [(.bin .and .i64 (.var 1) (.lit 3), .lit (.ofNat (nat_lit 3)))] [] false) = true := by kernel_rfl
end Go.Proofs.YtfedjkcigdgcoaaGreatDoor.legalWeak
