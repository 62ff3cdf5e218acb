/- Runs of gneiss/gneisslaw24.ReplayOuts. -/
import Derived.Test.YtfedjkcigdgcoaaGreatDoorReplayOutsR
namespace Go.Proofs.YtfedjkcigdgcoaaGreatDoor.replayOuts
open Go Go.Proofs Go.Ai
theorem rm64tom1_2 : yes (run [(.bin .and .i64 (.var 1) (.lit 3), .lit (.ofNat (nat_lit 2)))] [(.bin .rem .i64 (.var 0) (.lit 2147483648), (.negSucc (nat_lit 63)), (.negSucc (nat_lit 0)))] [(.neq, .bin .add .i64 (.bin .rem .i64 (.var 0) (.lit 2147483648)) (.lit 1), .bin .rem .i64 (.var 0) (.lit 2147483648), true), (.eql, .bin .add .i64 (.bin .rem .i64 (.var 0) (.lit 2147483648)) (.lit 1), .bin .rem .i64 (.var 0) (.lit 2147483648), false)]) = true := by kernel_rfl
theorem rm64tom1_3 : yes (run [(.bin .and .i64 (.var 1) (.lit 3), .lit (.ofNat (nat_lit 3)))] [(.bin .rem .i64 (.var 0) (.lit 2147483648), (.negSucc (nat_lit 63)), (.negSucc (nat_lit 0)))] []) = true := by kernel_rfl
theorem r0to10_0 : yes (run [(.bin .and .i64 (.var 1) (.lit 3), .lit (.ofNat (nat_lit 0)))] [(.bin .rem .i64 (.var 0) (.lit 2147483648), (.ofNat (nat_lit 0)), (.ofNat (nat_lit 10)))] []) = true := by kernel_rfl
theorem r0to10_1 : yes (run [(.bin .and .i64 (.var 1) (.lit 3), .lit (.ofNat (nat_lit 1)))] [(.bin .rem .i64 (.var 0) (.lit 2147483648), (.ofNat (nat_lit 0)), (.ofNat (nat_lit 10)))] []) = true := by kernel_rfl
theorem r0to10_2 : yes (run [(.bin .and .i64 (.var 1) (.lit 3), .lit (.ofNat (nat_lit 2)))] [(.bin .rem .i64 (.var 0) (.lit 2147483648), (.ofNat (nat_lit 0)), (.ofNat (nat_lit 10)))] [(.neq, .bin .add .i64 (.bin .rem .i64 (.var 0) (.lit 2147483648)) (.lit 1), .bin .rem .i64 (.var 0) (.lit 2147483648), true), (.eql, .bin .add .i64 (.bin .rem .i64 (.var 0) (.lit 2147483648)) (.lit 1), .bin .rem .i64 (.var 0) (.lit 2147483648), false)]) = true := by kernel_rfl
theorem r0to10_3 : yes (run [(.bin .and .i64 (.var 1) (.lit 3), .lit (.ofNat (nat_lit 3)))] [(.bin .rem .i64 (.var 0) (.lit 2147483648), (.ofNat (nat_lit 0)), (.ofNat (nat_lit 10)))] []) = true := by kernel_rfl
end Go.Proofs.YtfedjkcigdgcoaaGreatDoor.replayOuts
