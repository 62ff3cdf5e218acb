/- Runs of gneiss/gneisslaw24.ReplayOuts. -/
import Derived.Test.YtfedjkcigdgcoaaGreatDoorReplayOutsR
namespace Go.Proofs.YtfedjkcigdgcoaaGreatDoor.replayOuts
open Go Go.Proofs Go.Ai
theorem r11_0 : yes (run [(.bin .rem .i64 (.var 0) (.lit 2147483648), .lit (.ofNat (nat_lit 11))), (.bin .and .i64 (.var 1) (.lit 3), .lit (.ofNat (nat_lit 0)))] [] []) = true := by kernel_rfl
theorem r11_1 : yes (run [(.bin .rem .i64 (.var 0) (.lit 2147483648), .lit (.ofNat (nat_lit 11))), (.bin .and .i64 (.var 1) (.lit 3), .lit (.ofNat (nat_lit 1)))] [] []) = true := by kernel_rfl
theorem r11_2 : yes (run [(.bin .rem .i64 (.var 0) (.lit 2147483648), .lit (.ofNat (nat_lit 11))), (.bin .and .i64 (.var 1) (.lit 3), .lit (.ofNat (nat_lit 2)))] [] []) = true := by kernel_rfl
theorem r11_3 : yes (run [(.bin .rem .i64 (.var 0) (.lit 2147483648), .lit (.ofNat (nat_lit 11))), (.bin .and .i64 (.var 1) (.lit 3), .lit (.ofNat (nat_lit 3)))] [] []) = true := by kernel_rfl
theorem r12to63_0 : yes (run [(.bin .and .i64 (.var 1) (.lit 3), .lit (.ofNat (nat_lit 0)))] [(.bin .rem .i64 (.var 0) (.lit 2147483648), (.ofNat (nat_lit 12)), (.ofNat (nat_lit 63)))] []) = true := by kernel_rfl
theorem r12to63_1 : yes (run [(.bin .and .i64 (.var 1) (.lit 3), .lit (.ofNat (nat_lit 1)))] [(.bin .rem .i64 (.var 0) (.lit 2147483648), (.ofNat (nat_lit 12)), (.ofNat (nat_lit 63)))] []) = true := by kernel_rfl
end Go.Proofs.YtfedjkcigdgcoaaGreatDoor.replayOuts
