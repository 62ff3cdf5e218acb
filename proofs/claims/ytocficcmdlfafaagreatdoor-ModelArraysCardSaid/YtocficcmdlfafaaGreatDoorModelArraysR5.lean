/- gneiss/gneisslaw21.ModelArrays: what is reckoned. -/
import Derived.Test.YtocficcmdlfafaaGreatDoorModelArraysR
namespace Go.Proofs.YtocficcmdlfafaaGreatDoor.modelArrays
open Go Go.Proofs Go.Ai
set_option maxRecDepth 1000000
theorem rh18 : yes (run m1 [(.bin .rem .i64 (.var 1) (.lit 20), .lit (.ofNat (nat_lit 18)))] [] [(.bin .rem .i64 (.var 0) (.lit 1100), (.ofNat (nat_lit 19)), (.ofNat (nat_lit 1000))), (.bin .rem .i64 (.var 1) (.lit 20), (.ofNat (nat_lit 18)), (.ofNat (nat_lit 18))), (.conv .i32 (.var 2), (.negSucc (nat_lit 2147483647)), (.ofNat (nat_lit 2147483647)))]) = true := by kernel_rfl
theorem rl19 : yes (run m1 [(.bin .rem .i64 (.var 1) (.lit 20), .lit (.ofNat (nat_lit 19)))] [] [(.bin .rem .i64 (.var 0) (.lit 1100), (.ofNat (nat_lit 0)), (.ofNat (nat_lit 19))), (.bin .rem .i64 (.var 1) (.lit 20), (.ofNat (nat_lit 19)), (.ofNat (nat_lit 19))), (.conv .i32 (.var 2), (.negSucc (nat_lit 2147483647)), (.ofNat (nat_lit 2147483647)))]) = true := by kernel_rfl
theorem rh19 : yes (run m1 [(.bin .rem .i64 (.var 1) (.lit 20), .lit (.ofNat (nat_lit 19)))] [] [(.bin .rem .i64 (.var 0) (.lit 1100), (.ofNat (nat_lit 20)), (.ofNat (nat_lit 1000))), (.bin .rem .i64 (.var 1) (.lit 20), (.ofNat (nat_lit 19)), (.ofNat (nat_lit 19))), (.conv .i32 (.var 2), (.negSucc (nat_lit 2147483647)), (.ofNat (nat_lit 2147483647)))]) = true := by kernel_rfl
end Go.Proofs.YtocficcmdlfafaaGreatDoor.modelArrays
