/- Runs of gneiss/gneisslaw22.LegalWeak. -/
import Derived.Test.YtfedjkcigdgcoaaGreatDoorLegalWeakR
namespace Go.Proofs.YtfedjkcigdgcoaaGreatDoor.legalWeak
open Go Go.Proofs Go.Ai
theorem rt_0 : yes (run [(.bin .and .i64 (.var 1) (.lit 3), .lit (.ofNat (nat_lit 0)))] [] true) = true := by kernel_rfl
theorem rt_1 : yes (run [(.bin .and .i64 (.var 1) (.lit 3), .lit (.ofNat (nat_lit 1)))] [] true) = true := by kernel_rfl
end Go.Proofs.YtfedjkcigdgcoaaGreatDoor.legalWeak
