/- Runs of gneiss/gneisslaw21.ModelShort. -/
import Derived.Test.YtpogefeioedgeaaGreatDoorModelShortR
namespace Go.Proofs.YtpogefeioedgeaaGreatDoor.modelShort
open Go Go.Proofs Go.Ai
theorem r1_10 : yes (run [(.bin .rem .u64 (.conv .u64 (.var 0)) (.lit 3), .lit (.ofNat (nat_lit 1))), (.bin .and .i64 (.var 1) (.lit 63), .lit (.ofNat (nat_lit 10)))] []) = true := by kernel_rfl
theorem r1_11 : yes (run [(.bin .rem .u64 (.conv .u64 (.var 0)) (.lit 3), .lit (.ofNat (nat_lit 1))), (.bin .and .i64 (.var 1) (.lit 63), .lit (.ofNat (nat_lit 11)))] []) = true := by kernel_rfl
theorem r1_12 : yes (run [(.bin .rem .u64 (.conv .u64 (.var 0)) (.lit 3), .lit (.ofNat (nat_lit 1))), (.bin .and .i64 (.var 1) (.lit 63), .lit (.ofNat (nat_lit 12)))] []) = true := by kernel_rfl
theorem r1_13 : yes (run [(.bin .rem .u64 (.conv .u64 (.var 0)) (.lit 3), .lit (.ofNat (nat_lit 1))), (.bin .and .i64 (.var 1) (.lit 63), .lit (.ofNat (nat_lit 13)))] []) = true := by kernel_rfl
theorem r1_14 : yes (run [(.bin .rem .u64 (.conv .u64 (.var 0)) (.lit 3), .lit (.ofNat (nat_lit 1))), (.bin .and .i64 (.var 1) (.lit 63), .lit (.ofNat (nat_lit 14)))] []) = true := by kernel_rfl
theorem r1_15 : yes (run [(.bin .rem .u64 (.conv .u64 (.var 0)) (.lit 3), .lit (.ofNat (nat_lit 1))), (.bin .and .i64 (.var 1) (.lit 63), .lit (.ofNat (nat_lit 15)))] []) = true := by kernel_rfl
theorem r1_16 : yes (run [(.bin .rem .u64 (.conv .u64 (.var 0)) (.lit 3), .lit (.ofNat (nat_lit 1))), (.bin .and .i64 (.var 1) (.lit 63), .lit (.ofNat (nat_lit 16)))] []) = true := by kernel_rfl
theorem r1_17 : yes (run [(.bin .rem .u64 (.conv .u64 (.var 0)) (.lit 3), .lit (.ofNat (nat_lit 1))), (.bin .and .i64 (.var 1) (.lit 63), .lit (.ofNat (nat_lit 17)))] []) = true := by kernel_rfl
theorem r1_18 : yes (run [(.bin .rem .u64 (.conv .u64 (.var 0)) (.lit 3), .lit (.ofNat (nat_lit 1))), (.bin .and .i64 (.var 1) (.lit 63), .lit (.ofNat (nat_lit 18)))] []) = true := by kernel_rfl
theorem r1_19 : yes (run [(.bin .rem .u64 (.conv .u64 (.var 0)) (.lit 3), .lit (.ofNat (nat_lit 1))), (.bin .and .i64 (.var 1) (.lit 63), .lit (.ofNat (nat_lit 19)))] []) = true := by kernel_rfl
theorem r1_20 : yes (run [(.bin .rem .u64 (.conv .u64 (.var 0)) (.lit 3), .lit (.ofNat (nat_lit 1))), (.bin .and .i64 (.var 1) (.lit 63), .lit (.ofNat (nat_lit 20)))] []) = true := by kernel_rfl
end Go.Proofs.YtpogefeioedgeaaGreatDoor.modelShort
