/- Runs of gneiss/gneisslaw21.ModelShort. -/
import Derived.Test.YtpogefeioedgeaaGreatDoorModelShortR
namespace Go.Proofs.YtpogefeioedgeaaGreatDoor.modelShort
open Go Go.Proofs Go.Ai
theorem r1_32 : yes (run [(.bin .rem .u64 (.conv .u64 (.var 0)) (.lit 3), .lit (.ofNat (nat_lit 1))), (.bin .and .i64 (.var 1) (.lit 63), .lit (.ofNat (nat_lit 32)))] []) = true := by kernel_rfl
theorem r1_33 : yes (run [(.bin .rem .u64 (.conv .u64 (.var 0)) (.lit 3), .lit (.ofNat (nat_lit 1))), (.bin .and .i64 (.var 1) (.lit 63), .lit (.ofNat (nat_lit 33)))] []) = true := by kernel_rfl
theorem r1_34 : yes (run [(.bin .rem .u64 (.conv .u64 (.var 0)) (.lit 3), .lit (.ofNat (nat_lit 1))), (.bin .and .i64 (.var 1) (.lit 63), .lit (.ofNat (nat_lit 34)))] []) = true := by kernel_rfl
theorem r1_35 : yes (run [(.bin .rem .u64 (.conv .u64 (.var 0)) (.lit 3), .lit (.ofNat (nat_lit 1))), (.bin .and .i64 (.var 1) (.lit 63), .lit (.ofNat (nat_lit 35)))] []) = true := by kernel_rfl
theorem r1_36 : yes (run [(.bin .rem .u64 (.conv .u64 (.var 0)) (.lit 3), .lit (.ofNat (nat_lit 1))), (.bin .and .i64 (.var 1) (.lit 63), .lit (.ofNat (nat_lit 36)))] []) = true := by kernel_rfl
theorem r1_37 : yes (run [(.bin .rem .u64 (.conv .u64 (.var 0)) (.lit 3), .lit (.ofNat (nat_lit 1))), (.bin .and .i64 (.var 1) (.lit 63), .lit (.ofNat (nat_lit 37)))] []) = true := by kernel_rfl
theorem r1_38 : yes (run [(.bin .rem .u64 (.conv .u64 (.var 0)) (.lit 3), .lit (.ofNat (nat_lit 1))), (.bin .and .i64 (.var 1) (.lit 63), .lit (.ofNat (nat_lit 38)))] []) = true := by kernel_rfl
theorem r1_39 : yes (run [(.bin .rem .u64 (.conv .u64 (.var 0)) (.lit 3), .lit (.ofNat (nat_lit 1))), (.bin .and .i64 (.var 1) (.lit 63), .lit (.ofNat (nat_lit 39)))] []) = true := by kernel_rfl
theorem r1_40 : yes (run [(.bin .rem .u64 (.conv .u64 (.var 0)) (.lit 3), .lit (.ofNat (nat_lit 1))), (.bin .and .i64 (.var 1) (.lit 63), .lit (.ofNat (nat_lit 40)))] []) = true := by kernel_rfl
theorem r1_41 : yes (run [(.bin .rem .u64 (.conv .u64 (.var 0)) (.lit 3), .lit (.ofNat (nat_lit 1))), (.bin .and .i64 (.var 1) (.lit 63), .lit (.ofNat (nat_lit 41)))] []) = true := by kernel_rfl
theorem r1_42 : yes (run [(.bin .rem .u64 (.conv .u64 (.var 0)) (.lit 3), .lit (.ofNat (nat_lit 1))), (.bin .and .i64 (.var 1) (.lit 63), .lit (.ofNat (nat_lit 42)))] []) = true := by kernel_rfl
end Go.Proofs.YtpogefeioedgeaaGreatDoor.modelShort
