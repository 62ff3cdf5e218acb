/- Runs of gneiss/gneisslaw21.ModelCasts. -/
import Derived.Test.YtfedjkcigdgcoaaGreatDoorModelCastsR
namespace Go.Proofs.YtfedjkcigdgcoaaGreatDoor.modelCasts
open Go Go.Proofs Go.Ai
theorem r0_0 : yes (run [(.bin .rem .u64 (.conv .u64 (.var 0)) (.lit 4), .lit (.ofNat (nat_lit 0))), (.bin .rem .u64 (.conv .u64 (.var 1)) (.lit 5), .lit (.ofNat (nat_lit 0)))] []) = true := by kernel_rfl
theorem r0_1 : yes (run [(.bin .rem .u64 (.conv .u64 (.var 0)) (.lit 4), .lit (.ofNat (nat_lit 0))), (.bin .rem .u64 (.conv .u64 (.var 1)) (.lit 5), .lit (.ofNat (nat_lit 1)))] []) = true := by kernel_rfl
theorem r0_2 : yes (run [(.bin .rem .u64 (.conv .u64 (.var 0)) (.lit 4), .lit (.ofNat (nat_lit 0))), (.bin .rem .u64 (.conv .u64 (.var 1)) (.lit 5), .lit (.ofNat (nat_lit 2)))] []) = true := by kernel_rfl
theorem r0_3 : yes (run [(.bin .rem .u64 (.conv .u64 (.var 0)) (.lit 4), .lit (.ofNat (nat_lit 0))), (.bin .rem .u64 (.conv .u64 (.var 1)) (.lit 5), .lit (.ofNat (nat_lit 3)))] []) = true := by kernel_rfl
end Go.Proofs.YtfedjkcigdgcoaaGreatDoor.modelCasts
