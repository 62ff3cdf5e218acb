/- Runs of gneiss/gneisslaw21.ModelVirtuals. -/
import Derived.Test.YtfedjkcigdgcoaaGreatDoorModelVirtualsR
namespace Go.Proofs.YtfedjkcigdgcoaaGreatDoor.modelVirtuals
open Go Go.Proofs Go.Ai
theorem r0_f : yes (run [(.bin .rem .u64 (.conv .u64 (.var 0)) (.lit 3), .lit (.ofNat (nat_lit 0)))] [] false) = true := by kernel_rfl
theorem r0_t : yes (run [(.bin .rem .u64 (.conv .u64 (.var 0)) (.lit 3), .lit (.ofNat (nat_lit 0)))] [] true) = true := by kernel_rfl
end Go.Proofs.YtfedjkcigdgcoaaGreatDoor.modelVirtuals
