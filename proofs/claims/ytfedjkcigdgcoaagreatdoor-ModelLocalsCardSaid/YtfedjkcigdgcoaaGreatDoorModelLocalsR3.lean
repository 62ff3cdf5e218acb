/- Runs of gneiss/gneisslaw21.ModelLocals. -/
import Derived.Test.YtfedjkcigdgcoaaGreatDoorModelLocalsR
namespace Go.Proofs.YtfedjkcigdgcoaaGreatDoor.modelLocals
open Go Go.Proofs Go.Ai
set_option maxRecDepth 1000000
theorem rc0_12 : yes (run [(.bin .and .i64 (.var 1) (.lit 15), .lit (.ofNat (nat_lit 12)))] [] [(.conv .i32 (.var 0), (.negSucc (nat_lit 2147483647)), (.ofNat (nat_lit 2147483647))), (.bin .and .i64 (.var 1) (.lit 15), (.ofNat (nat_lit 12)), (.ofNat (nat_lit 12)))]) = true := by kernel_rfl
theorem rc0_13 : yes (run [(.bin .and .i64 (.var 1) (.lit 15), .lit (.ofNat (nat_lit 13)))] [] [(.conv .i32 (.var 0), (.negSucc (nat_lit 2147483647)), (.ofNat (nat_lit 2147483647))), (.bin .and .i64 (.var 1) (.lit 15), (.ofNat (nat_lit 13)), (.ofNat (nat_lit 13)))]) = true := by kernel_rfl
theorem rc0_14 : yes (run [(.bin .and .i64 (.var 1) (.lit 15), .lit (.ofNat (nat_lit 14)))] [] [(.conv .i32 (.var 0), (.negSucc (nat_lit 2147483647)), (.ofNat (nat_lit 2147483647))), (.bin .and .i64 (.var 1) (.lit 15), (.ofNat (nat_lit 14)), (.ofNat (nat_lit 14)))]) = true := by kernel_rfl
theorem rc0_15 : yes (run [(.bin .and .i64 (.var 1) (.lit 15), .lit (.ofNat (nat_lit 15)))] [] [(.conv .i32 (.var 0), (.negSucc (nat_lit 2147483647)), (.ofNat (nat_lit 2147483647))), (.bin .and .i64 (.var 1) (.lit 15), (.ofNat (nat_lit 15)), (.ofNat (nat_lit 15)))]) = true := by kernel_rfl
end Go.Proofs.YtfedjkcigdgcoaaGreatDoor.modelLocals
