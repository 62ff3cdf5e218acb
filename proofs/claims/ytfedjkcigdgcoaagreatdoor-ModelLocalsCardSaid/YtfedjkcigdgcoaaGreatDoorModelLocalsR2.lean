/- Runs of gneiss/gneisslaw21.ModelLocals. -/
import Derived.Test.YtfedjkcigdgcoaaGreatDoorModelLocalsR
namespace Go.Proofs.YtfedjkcigdgcoaaGreatDoor.modelLocals
open Go Go.Proofs Go.Ai
set_option maxRecDepth 1000000
theorem rc0_8 : yes (run [(.bin .and .i64 (.var 1) (.lit 15), .lit (.ofNat (nat_lit 8)))] [] [(.conv .i32 (.var 0), (.negSucc (nat_lit 2147483647)), (.ofNat (nat_lit 2147483647))), (.bin .and .i64 (.var 1) (.lit 15), (.ofNat (nat_lit 8)), (.ofNat (nat_lit 8)))]) = true := by kernel_rfl
theorem rc0_9 : yes (run [(.bin .and .i64 (.var 1) (.lit 15), .lit (.ofNat (nat_lit 9)))] [] [(.conv .i32 (.var 0), (.negSucc (nat_lit 2147483647)), (.ofNat (nat_lit 2147483647))), (.bin .and .i64 (.var 1) (.lit 15), (.ofNat (nat_lit 9)), (.ofNat (nat_lit 9)))]) = true := by kernel_rfl
theorem rc0_10 : yes (run [(.bin .and .i64 (.var 1) (.lit 15), .lit (.ofNat (nat_lit 10)))] [] [(.conv .i32 (.var 0), (.negSucc (nat_lit 2147483647)), (.ofNat (nat_lit 2147483647))), (.bin .and .i64 (.var 1) (.lit 15), (.ofNat (nat_lit 10)), (.ofNat (nat_lit 10)))]) = true := by kernel_rfl
theorem rc0_11 : yes (run [(.bin .and .i64 (.var 1) (.lit 15), .lit (.ofNat (nat_lit 11)))] [] [(.conv .i32 (.var 0), (.negSucc (nat_lit 2147483647)), (.ofNat (nat_lit 2147483647))), (.bin .and .i64 (.var 1) (.lit 15), (.ofNat (nat_lit 11)), (.ofNat (nat_lit 11)))]) = true := by kernel_rfl
end Go.Proofs.YtfedjkcigdgcoaaGreatDoor.modelLocals
