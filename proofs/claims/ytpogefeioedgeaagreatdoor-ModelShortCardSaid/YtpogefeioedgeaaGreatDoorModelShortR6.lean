/- Runs of gneiss/gneisslaw21.ModelShort. -/
import Derived.Test.YtpogefeioedgeaaGreatDoorModelShortR
namespace Go.Proofs.YtpogefeioedgeaaGreatDoor.modelShort
open Go Go.Proofs Go.Ai
theorem r2_1 : yes (run [(.bin .rem .u64 (.conv .u64 (.var 0)) (.lit 3), .lit (.ofNat (nat_lit 2))), (.bin .and .i64 (.var 1) (.lit 63), .lit (.ofNat (nat_lit 1)))] []) = true := by kernel_rfl
theorem r2_2 : yes (run [(.bin .rem .u64 (.conv .u64 (.var 0)) (.lit 3), .lit (.ofNat (nat_lit 2))), (.bin .and .i64 (.var 1) (.lit 63), .lit (.ofNat (nat_lit 2)))] []) = true := by kernel_rfl
theorem r2_3 : yes (run [(.bin .rem .u64 (.conv .u64 (.var 0)) (.lit 3), .lit (.ofNat (nat_lit 2))), (.bin .and .i64 (.var 1) (.lit 63), .lit (.ofNat (nat_lit 3)))] []) = true := by kernel_rfl
theorem r2_4 : yes (run [(.bin .rem .u64 (.conv .u64 (.var 0)) (.lit 3), .lit (.ofNat (nat_lit 2))), (.bin .and .i64 (.var 1) (.lit 63), .lit (.ofNat (nat_lit 4)))] []) = true := by kernel_rfl
theorem r2_5 : yes (run [(.bin .rem .u64 (.conv .u64 (.var 0)) (.lit 3), .lit (.ofNat (nat_lit 2))), (.bin .and .i64 (.var 1) (.lit 63), .lit (.ofNat (nat_lit 5)))] []) = true := by kernel_rfl
theorem r2_6 : yes (run [(.bin .rem .u64 (.conv .u64 (.var 0)) (.lit 3), .lit (.ofNat (nat_lit 2))), (.bin .and .i64 (.var 1) (.lit 63), .lit (.ofNat (nat_lit 6)))] []) = true := by kernel_rfl
theorem r2_7 : yes (run [(.bin .rem .u64 (.conv .u64 (.var 0)) (.lit 3), .lit (.ofNat (nat_lit 2))), (.bin .and .i64 (.var 1) (.lit 63), .lit (.ofNat (nat_lit 7)))] []) = true := by kernel_rfl
theorem r2_8 : yes (run [(.bin .rem .u64 (.conv .u64 (.var 0)) (.lit 3), .lit (.ofNat (nat_lit 2))), (.bin .and .i64 (.var 1) (.lit 63), .lit (.ofNat (nat_lit 8)))] []) = true := by kernel_rfl
theorem r2_9 : yes (run [(.bin .rem .u64 (.conv .u64 (.var 0)) (.lit 3), .lit (.ofNat (nat_lit 2))), (.bin .and .i64 (.var 1) (.lit 63), .lit (.ofNat (nat_lit 9)))] []) = true := by kernel_rfl
theorem r2_10 : yes (run [(.bin .rem .u64 (.conv .u64 (.var 0)) (.lit 3), .lit (.ofNat (nat_lit 2))), (.bin .and .i64 (.var 1) (.lit 63), .lit (.ofNat (nat_lit 10)))] []) = true := by kernel_rfl
theorem r2_11 : yes (run [(.bin .rem .u64 (.conv .u64 (.var 0)) (.lit 3), .lit (.ofNat (nat_lit 2))), (.bin .and .i64 (.var 1) (.lit 63), .lit (.ofNat (nat_lit 11)))] []) = true := by kernel_rfl
end Go.Proofs.YtpogefeioedgeaaGreatDoor.modelShort
