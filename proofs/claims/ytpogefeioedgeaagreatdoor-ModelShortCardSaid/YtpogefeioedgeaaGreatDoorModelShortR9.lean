/- Runs of gneiss/gneisslaw21.ModelShort. -/
import Derived.Test.YtpogefeioedgeaaGreatDoorModelShortR
namespace Go.Proofs.YtpogefeioedgeaaGreatDoor.modelShort
open Go Go.Proofs Go.Ai
theorem r2_34 : yes (run [(.bin .rem .u64 (.conv .u64 (.var 0)) (.lit 3), .lit (.ofNat (nat_lit 2))), (.bin .and .i64 (.var 1) (.lit 63), .lit (.ofNat (nat_lit 34)))] []) = true := by kernel_rfl
theorem r2_35 : yes (run [(.bin .rem .u64 (.conv .u64 (.var 0)) (.lit 3), .lit (.ofNat (nat_lit 2))), (.bin .and .i64 (.var 1) (.lit 63), .lit (.ofNat (nat_lit 35)))] []) = true := by kernel_rfl
theorem r2_36 : yes (run [(.bin .rem .u64 (.conv .u64 (.var 0)) (.lit 3), .lit (.ofNat (nat_lit 2))), (.bin .and .i64 (.var 1) (.lit 63), .lit (.ofNat (nat_lit 36)))] []) = true := by kernel_rfl
theorem r2_37 : yes (run [(.bin .rem .u64 (.conv .u64 (.var 0)) (.lit 3), .lit (.ofNat (nat_lit 2))), (.bin .and .i64 (.var 1) (.lit 63), .lit (.ofNat (nat_lit 37)))] []) = true := by kernel_rfl
theorem r2_38 : yes (run [(.bin .rem .u64 (.conv .u64 (.var 0)) (.lit 3), .lit (.ofNat (nat_lit 2))), (.bin .and .i64 (.var 1) (.lit 63), .lit (.ofNat (nat_lit 38)))] []) = true := by kernel_rfl
theorem r2_39 : yes (run [(.bin .rem .u64 (.conv .u64 (.var 0)) (.lit 3), .lit (.ofNat (nat_lit 2))), (.bin .and .i64 (.var 1) (.lit 63), .lit (.ofNat (nat_lit 39)))] []) = true := by kernel_rfl
theorem r2_40 : yes (run [(.bin .rem .u64 (.conv .u64 (.var 0)) (.lit 3), .lit (.ofNat (nat_lit 2))), (.bin .and .i64 (.var 1) (.lit 63), .lit (.ofNat (nat_lit 40)))] []) = true := by kernel_rfl
theorem r2_41 : yes (run [(.bin .rem .u64 (.conv .u64 (.var 0)) (.lit 3), .lit (.ofNat (nat_lit 2))), (.bin .and .i64 (.var 1) (.lit 63), .lit (.ofNat (nat_lit 41)))] []) = true := by kernel_rfl
theorem r2_42 : yes (run [(.bin .rem .u64 (.conv .u64 (.var 0)) (.lit 3), .lit (.ofNat (nat_lit 2))), (.bin .and .i64 (.var 1) (.lit 63), .lit (.ofNat (nat_lit 42)))] []) = true := by kernel_rfl
theorem r2_43 : yes (run [(.bin .rem .u64 (.conv .u64 (.var 0)) (.lit 3), .lit (.ofNat (nat_lit 2))), (.bin .and .i64 (.var 1) (.lit 63), .lit (.ofNat (nat_lit 43)))] []) = true := by kernel_rfl
theorem r2_44 : yes (run [(.bin .rem .u64 (.conv .u64 (.var 0)) (.lit 3), .lit (.ofNat (nat_lit 2))), (.bin .and .i64 (.var 1) (.lit 63), .lit (.ofNat (nat_lit 44)))] []) = true := by kernel_rfl
end Go.Proofs.YtpogefeioedgeaaGreatDoor.modelShort
