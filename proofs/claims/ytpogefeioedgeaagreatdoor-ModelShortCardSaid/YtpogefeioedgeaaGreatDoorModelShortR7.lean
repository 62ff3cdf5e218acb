/- Runs of gneiss/gneisslaw21.ModelShort. -/
import Derived.Test.YtpogefeioedgeaaGreatDoorModelShortR
namespace Go.Proofs.YtpogefeioedgeaaGreatDoor.modelShort
open Go Go.Proofs Go.Ai
theorem r2_12 : yes (run [(.bin .rem .u64 (.conv .u64 (.var 0)) (.lit 3), .lit (.ofNat (nat_lit 2))), (.bin .and .i64 (.var 1) (.lit 63), .lit (.ofNat (nat_lit 12)))] []) = true := by kernel_rfl
theorem r2_13 : yes (run [(.bin .rem .u64 (.conv .u64 (.var 0)) (.lit 3), .lit (.ofNat (nat_lit 2))), (.bin .and .i64 (.var 1) (.lit 63), .lit (.ofNat (nat_lit 13)))] []) = true := by kernel_rfl
theorem r2_14 : yes (run [(.bin .rem .u64 (.conv .u64 (.var 0)) (.lit 3), .lit (.ofNat (nat_lit 2))), (.bin .and .i64 (.var 1) (.lit 63), .lit (.ofNat (nat_lit 14)))] []) = true := by kernel_rfl
theorem r2_15 : yes (run [(.bin .rem .u64 (.conv .u64 (.var 0)) (.lit 3), .lit (.ofNat (nat_lit 2))), (.bin .and .i64 (.var 1) (.lit 63), .lit (.ofNat (nat_lit 15)))] []) = true := by kernel_rfl
theorem r2_16 : yes (run [(.bin .rem .u64 (.conv .u64 (.var 0)) (.lit 3), .lit (.ofNat (nat_lit 2))), (.bin .and .i64 (.var 1) (.lit 63), .lit (.ofNat (nat_lit 16)))] []) = true := by kernel_rfl
theorem r2_17 : yes (run [(.bin .rem .u64 (.conv .u64 (.var 0)) (.lit 3), .lit (.ofNat (nat_lit 2))), (.bin .and .i64 (.var 1) (.lit 63), .lit (.ofNat (nat_lit 17)))] []) = true := by kernel_rfl
theorem r2_18 : yes (run [(.bin .rem .u64 (.conv .u64 (.var 0)) (.lit 3), .lit (.ofNat (nat_lit 2))), (.bin .and .i64 (.var 1) (.lit 63), .lit (.ofNat (nat_lit 18)))] []) = true := by kernel_rfl
theorem r2_19 : yes (run [(.bin .rem .u64 (.conv .u64 (.var 0)) (.lit 3), .lit (.ofNat (nat_lit 2))), (.bin .and .i64 (.var 1) (.lit 63), .lit (.ofNat (nat_lit 19)))] []) = true := by kernel_rfl
theorem r2_20 : yes (run [(.bin .rem .u64 (.conv .u64 (.var 0)) (.lit 3), .lit (.ofNat (nat_lit 2))), (.bin .and .i64 (.var 1) (.lit 63), .lit (.ofNat (nat_lit 20)))] []) = true := by kernel_rfl
theorem r2_21 : yes (run [(.bin .rem .u64 (.conv .u64 (.var 0)) (.lit 3), .lit (.ofNat (nat_lit 2))), (.bin .and .i64 (.var 1) (.lit 63), .lit (.ofNat (nat_lit 21)))] []) = true := by kernel_rfl
theorem r2_22 : yes (run [(.bin .rem .u64 (.conv .u64 (.var 0)) (.lit 3), .lit (.ofNat (nat_lit 2))), (.bin .and .i64 (.var 1) (.lit 63), .lit (.ofNat (nat_lit 22)))] []) = true := by kernel_rfl
end Go.Proofs.YtpogefeioedgeaaGreatDoor.modelShort
