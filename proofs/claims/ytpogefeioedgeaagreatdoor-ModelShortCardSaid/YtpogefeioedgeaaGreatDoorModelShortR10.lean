/- Runs of gneiss/gneisslaw21.ModelShort. -/
import Derived.Test.YtpogefeioedgeaaGreatDoorModelShortR
namespace Go.Proofs.YtpogefeioedgeaaGreatDoor.modelShort
open Go Go.Proofs Go.Ai
theorem r2_45 : yes (run [(.bin .rem .u64 (.conv .u64 (.var 0)) (.lit 3), .lit (.ofNat (nat_lit 2))), (.bin .and .i64 (.var 1) (.lit 63), .lit (.ofNat (nat_lit 45)))] []) = true := by kernel_rfl
theorem r2_46 : yes (run [(.bin .rem .u64 (.conv .u64 (.var 0)) (.lit 3), .lit (.ofNat (nat_lit 2))), (.bin .and .i64 (.var 1) (.lit 63), .lit (.ofNat (nat_lit 46)))] []) = true := by kernel_rfl
theorem r2_47 : yes (run [(.bin .rem .u64 (.conv .u64 (.var 0)) (.lit 3), .lit (.ofNat (nat_lit 2))), (.bin .and .i64 (.var 1) (.lit 63), .lit (.ofNat (nat_lit 47)))] []) = true := by kernel_rfl
theorem r2_48 : yes (run [(.bin .rem .u64 (.conv .u64 (.var 0)) (.lit 3), .lit (.ofNat (nat_lit 2))), (.bin .and .i64 (.var 1) (.lit 63), .lit (.ofNat (nat_lit 48)))] []) = true := by kernel_rfl
theorem r2_49 : yes (run [(.bin .rem .u64 (.conv .u64 (.var 0)) (.lit 3), .lit (.ofNat (nat_lit 2))), (.bin .and .i64 (.var 1) (.lit 63), .lit (.ofNat (nat_lit 49)))] []) = true := by kernel_rfl
theorem r2_50 : yes (run [(.bin .rem .u64 (.conv .u64 (.var 0)) (.lit 3), .lit (.ofNat (nat_lit 2))), (.bin .and .i64 (.var 1) (.lit 63), .lit (.ofNat (nat_lit 50)))] []) = true := by kernel_rfl
theorem r2_51 : yes (run [(.bin .rem .u64 (.conv .u64 (.var 0)) (.lit 3), .lit (.ofNat (nat_lit 2))), (.bin .and .i64 (.var 1) (.lit 63), .lit (.ofNat (nat_lit 51)))] []) = true := by kernel_rfl
theorem r2_52 : yes (run [(.bin .rem .u64 (.conv .u64 (.var 0)) (.lit 3), .lit (.ofNat (nat_lit 2))), (.bin .and .i64 (.var 1) (.lit 63), .lit (.ofNat (nat_lit 52)))] []) = true := by kernel_rfl
theorem r2_53 : yes (run [(.bin .rem .u64 (.conv .u64 (.var 0)) (.lit 3), .lit (.ofNat (nat_lit 2))), (.bin .and .i64 (.var 1) (.lit 63), .lit (.ofNat (nat_lit 53)))] []) = true := by kernel_rfl
theorem r2_54 : yes (run [(.bin .rem .u64 (.conv .u64 (.var 0)) (.lit 3), .lit (.ofNat (nat_lit 2))), (.bin .and .i64 (.var 1) (.lit 63), .lit (.ofNat (nat_lit 54)))] []) = true := by kernel_rfl
theorem r2_55 : yes (run [(.bin .rem .u64 (.conv .u64 (.var 0)) (.lit 3), .lit (.ofNat (nat_lit 2))), (.bin .and .i64 (.var 1) (.lit 63), .lit (.ofNat (nat_lit 55)))] []) = true := by kernel_rfl
end Go.Proofs.YtpogefeioedgeaaGreatDoor.modelShort
