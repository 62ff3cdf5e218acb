/- Runs of gneiss/gneisslaw21.ModelLocals. -/
import Derived.Test.YtfedjkcigdgcoaaGreatDoorModelLocalsR
namespace Go.Proofs.YtfedjkcigdgcoaaGreatDoor.modelLocals
open Go Go.Proofs Go.Ai
set_option maxRecDepth 1000000
theorem rc0_4 : yes (run [(.bin .and .i64 (.var 1) (.lit 15), .lit (.ofNat (nat_lit 4)))] [] [(.conv .i32 (.var 0), (.negSucc (nat_lit 2147483647)), (.ofNat (nat_lit 2147483647))), (.bin .and .i64 (.var 1) (.lit 15), (.ofNat (nat_lit 4)), (.ofNat (nat_lit 4)))]) = true := by kernel_rfl
theorem rc0_5 : yes (run [(.bin .and .i64 (.var 1) (.lit 15), .lit (.ofNat (nat_lit 5)))] [] [(.conv .i32 (.var 0), (.negSucc (nat_lit 2147483647)), (.ofNat (nat_lit 2147483647))), (.bin .and .i64 (.var 1) (.lit 15), (.ofNat (nat_lit 5)), (.ofNat (nat_lit 5)))]) = true := by kernel_rfl
theorem rc0_6 : yes (run [(.bin .and .i64 (.var 1) (.lit 15), .lit (.ofNat (nat_lit 6)))] [] [(.conv .i32 (.var 0), (.negSucc (nat_lit 2147483647)), (.ofNat (nat_lit 2147483647))), (.bin .and .i64 (.var 1) (.lit 15), (.ofNat (nat_lit 6)), (.ofNat (nat_lit 6)))]) = true := by kernel_rfl
theorem rc0_7 : yes (run [(.bin .and .i64 (.var 1) (.lit 15), .lit (.ofNat (nat_lit 7)))] [] [(.conv .i32 (.var 0), (.negSucc (nat_lit 2147483647)), (.ofNat (nat_lit 2147483647))), (.bin .and .i64 (.var 1) (.lit 15), (.ofNat (nat_lit 7)), (.ofNat (nat_lit 7)))]) = true := by kernel_rfl
end Go.Proofs.YtfedjkcigdgcoaaGreatDoor.modelLocals
