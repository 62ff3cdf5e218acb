/- Runs of gneiss/gneisslaw21.ModelLocals. -/
import Derived.Test.YtfedjkcigdgcoaaGreatDoorModelLocalsR
namespace Go.Proofs.YtfedjkcigdgcoaaGreatDoor.modelLocals
open Go Go.Proofs Go.Ai
set_option maxRecDepth 1000000
theorem rc0_0 : yes (run [(.bin .and .i64 (.var 1) (.lit 15), .lit (.ofNat (nat_lit 0)))] [] [(.conv .i32 (.var 0), (.negSucc (nat_lit 2147483647)), (.ofNat (nat_lit 2147483647))), (.bin .and .i64 (.var 1) (.lit 15), (.ofNat (nat_lit 0)), (.ofNat (nat_lit 0)))]) = true := by kernel_rfl
theorem rc0_1 : yes (run [(.bin .and .i64 (.var 1) (.lit 15), .lit (.ofNat (nat_lit 1)))] [] [(.conv .i32 (.var 0), (.negSucc (nat_lit 2147483647)), (.ofNat (nat_lit 2147483647))), (.bin .and .i64 (.var 1) (.lit 15), (.ofNat (nat_lit 1)), (.ofNat (nat_lit 1)))]) = true := by kernel_rfl
theorem rc0_2 : yes (run [(.bin .and .i64 (.var 1) (.lit 15), .lit (.ofNat (nat_lit 2)))] [] [(.conv .i32 (.var 0), (.negSucc (nat_lit 2147483647)), (.ofNat (nat_lit 2147483647))), (.bin .and .i64 (.var 1) (.lit 15), (.ofNat (nat_lit 2)), (.ofNat (nat_lit 2)))]) = true := by kernel_rfl
theorem rc0_3 : yes (run [(.bin .and .i64 (.var 1) (.lit 15), .lit (.ofNat (nat_lit 3)))] [] [(.conv .i32 (.var 0), (.negSucc (nat_lit 2147483647)), (.ofNat (nat_lit 2147483647))), (.bin .and .i64 (.var 1) (.lit 15), (.ofNat (nat_lit 3)), (.ofNat (nat_lit 3)))]) = true := by kernel_rfl
end Go.Proofs.YtfedjkcigdgcoaaGreatDoor.modelLocals
