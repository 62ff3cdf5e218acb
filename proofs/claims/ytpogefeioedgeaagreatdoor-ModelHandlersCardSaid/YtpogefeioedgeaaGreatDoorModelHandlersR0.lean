/- Runs of gneiss/gneisslaw21.ModelHandlers. -/
import Derived.Test.YtpogefeioedgeaaGreatDoorModelHandlersR
namespace Go.Proofs.YtpogefeioedgeaaGreatDoor.modelHandlers
open Go Go.Proofs Go.Ai
theorem r0_0_0 : yes (run [(.bin .and .i64 (.var 0) (.lit 3), .lit (.ofNat (nat_lit 0))), (.bin .and .i64 (.var 1) (.lit 3), .lit (.ofNat (nat_lit 0))), (.bin .and .i64 (.var 2) (.lit 3), .lit (.ofNat (nat_lit 0)))] []) = true := by kernel_rfl
theorem r0_0_1 : yes (run [(.bin .and .i64 (.var 0) (.lit 3), .lit (.ofNat (nat_lit 0))), (.bin .and .i64 (.var 1) (.lit 3), .lit (.ofNat (nat_lit 0))), (.bin .and .i64 (.var 2) (.lit 3), .lit (.ofNat (nat_lit 1)))] []) = true := by kernel_rfl
theorem r0_0_2 : yes (run [(.bin .and .i64 (.var 0) (.lit 3), .lit (.ofNat (nat_lit 0))), (.bin .and .i64 (.var 1) (.lit 3), .lit (.ofNat (nat_lit 0))), (.bin .and .i64 (.var 2) (.lit 3), .lit (.ofNat (nat_lit 2)))] []) = true := by kernel_rfl
theorem r0_0_3 : yes (run [(.bin .and .i64 (.var 0) (.lit 3), .lit (.ofNat (nat_lit 0))), (.bin .and .i64 (.var 1) (.lit 3), .lit (.ofNat (nat_lit 0))), (.bin .and .i64 (.var 2) (.lit 3), .lit (.ofNat (nat_lit 3)))] []) = true := by kernel_rfl
theorem r0_1_0 : yes (run [(.bin .and .i64 (.var 0) (.lit 3), .lit (.ofNat (nat_lit 0))), (.bin .and .i64 (.var 1) (.lit 3), .lit (.ofNat (nat_lit 1))), (.bin .and .i64 (.var 2) (.lit 3), .lit (.ofNat (nat_lit 0)))] []) = true := by kernel_rfl
end Go.Proofs.YtpogefeioedgeaaGreatDoor.modelHandlers
