/- Runs of gneiss/gneisslaw21.ModelShort. -/
import Derived.Test.YtpogefeioedgeaaGreatDoorModelShortR
namespace Go.Proofs.YtpogefeioedgeaaGreatDoor.modelShort
open Go Go.Proofs Go.Ai
theorem r1_43 : yes (run [(.bin .rem .u64 (.conv .u64 (.var 0)) (.lit 3), .lit (.ofNat (nat_lit 1))), (.bin .and .i64 (.var 1) (.lit 63), .lit (.ofNat (nat_lit 43)))] []) = true := by kernel_rfl
theorem r1_44 : yes (run [(.bin .rem .u64 (.conv .u64 (.var 0)) (.lit 3), .lit (.ofNat (nat_lit 1))), (.bin .and .i64 (.var 1) (.lit 63), .lit (.ofNat (nat_lit 44)))] []) = true := by kernel_rfl
theorem r1_45 : yes (run [(.bin .rem .u64 (.conv .u64 (.var 0)) (.lit 3), .lit (.ofNat (nat_lit 1))), (.bin .and .i64 (.var 1) (.lit 63), .lit (.ofNat (nat_lit 45)))] []) = true := by kernel_rfl
theorem r1_46 : yes (run [(.bin .rem .u64 (.conv .u64 (.var 0)) (.lit 3), .lit (.ofNat (nat_lit 1))), (.bin .and .i64 (.var 1) (.lit 63), .lit (.ofNat (nat_lit 46)))] []) = true := by kernel_rfl
theorem r1_47 : yes (run [(.bin .rem .u64 (.conv .u64 (.var 0)) (.lit 3), .lit (.ofNat (nat_lit 1))), (.bin .and .i64 (.var 1) (.lit 63), .lit (.ofNat (nat_lit 47)))] []) = true := by kernel_rfl
theorem r1_48 : yes (run [(.bin .rem .u64 (.conv .u64 (.var 0)) (.lit 3), .lit (.ofNat (nat_lit 1))), (.bin .and .i64 (.var 1) (.lit 63), .lit (.ofNat (nat_lit 48)))] []) = true := by kernel_rfl
theorem r1_49 : yes (run [(.bin .rem .u64 (.conv .u64 (.var 0)) (.lit 3), .lit (.ofNat (nat_lit 1))), (.bin .and .i64 (.var 1) (.lit 63), .lit (.ofNat (nat_lit 49)))] []) = true := by kernel_rfl
theorem r1_50 : yes (run [(.bin .rem .u64 (.conv .u64 (.var 0)) (.lit 3), .lit (.ofNat (nat_lit 1))), (.bin .and .i64 (.var 1) (.lit 63), .lit (.ofNat (nat_lit 50)))] []) = true := by kernel_rfl
theorem r1_51 : yes (run [(.bin .rem .u64 (.conv .u64 (.var 0)) (.lit 3), .lit (.ofNat (nat_lit 1))), (.bin .and .i64 (.var 1) (.lit 63), .lit (.ofNat (nat_lit 51)))] []) = true := by kernel_rfl
theorem r1_52 : yes (run [(.bin .rem .u64 (.conv .u64 (.var 0)) (.lit 3), .lit (.ofNat (nat_lit 1))), (.bin .and .i64 (.var 1) (.lit 63), .lit (.ofNat (nat_lit 52)))] []) = true := by kernel_rfl
theorem r1_53 : yes (run [(.bin .rem .u64 (.conv .u64 (.var 0)) (.lit 3), .lit (.ofNat (nat_lit 1))), (.bin .and .i64 (.var 1) (.lit 63), .lit (.ofNat (nat_lit 53)))] []) = true := by kernel_rfl
end Go.Proofs.YtpogefeioedgeaaGreatDoor.modelShort
