/- Runs of gneiss/gneisslaw21.ModelCasts. -/
import Derived.Test.YtfedjkcigdgcoaaGreatDoorModelCastsR
namespace Go.Proofs.YtfedjkcigdgcoaaGreatDoor.modelCasts
open Go Go.Proofs Go.Ai
theorem r1_3 : yes (run [(.bin .rem .u64 (.conv .u64 (.var 0)) (.lit 4), .lit (.ofNat (nat_lit 1))), (.bin .rem .u64 (.conv .u64 (.var 1)) (.lit 5), .lit (.ofNat (nat_lit 3)))] []) = true := by kernel_rfl
theorem r1_4 : yes (run [(.bin .rem .u64 (.conv .u64 (.var 0)) (.lit 4), .lit (.ofNat (nat_lit 1))), (.bin .rem .u64 (.conv .u64 (.var 1)) (.lit 5), .lit (.ofNat (nat_lit 4)))] []) = true := by kernel_rfl
theorem r2_0 : yes (run [(.bin .rem .u64 (.conv .u64 (.var 0)) (.lit 4), .lit (.ofNat (nat_lit 2))), (.bin .rem .u64 (.conv .u64 (.var 1)) (.lit 5), .lit (.ofNat (nat_lit 0)))] []) = true := by kernel_rfl
theorem r2_1 : yes (run [(.bin .rem .u64 (.conv .u64 (.var 0)) (.lit 4), .lit (.ofNat (nat_lit 2))), (.bin .rem .u64 (.conv .u64 (.var 1)) (.lit 5), .lit (.ofNat (nat_lit 1)))] []) = true := by kernel_rfl
end Go.Proofs.YtfedjkcigdgcoaaGreatDoor.modelCasts
