/- Runs of gneiss/gneisslaw24.ReplayOuts. -/
import Derived.Test.YtfedjkcigdgcoaaGreatDoorReplayOutsR
namespace Go.Proofs.YtfedjkcigdgcoaaGreatDoor.replayOuts
open Go Go.Proofs Go.Ai
theorem r12to63_2 : yes (run [(.bin .and .i64 (.var 1) (.lit 3), .lit (.ofNat (nat_lit 2)))] [(.bin .rem .i64 (.var 0) (.lit 2147483648), (.ofNat (nat_lit 12)), (.ofNat (nat_lit 63)))] [(.neq, .bin .add .i64 (.bin .rem .i64 (.var 0) (.lit 2147483648)) (.lit 1), .bin .rem .i64 (.var 0) (.lit 2147483648), true), (.eql, .bin .add .i64 (.bin .rem .i64 (.var 0) (.lit 2147483648)) (.lit 1), .bin .rem .i64 (.var 0) (.lit 2147483648), false)]) = true := by kernel_rfl
theorem r12to63_3 : yes (run [(.bin .and .i64 (.var 1) (.lit 3), .lit (.ofNat (nat_lit 3)))] [(.bin .rem .i64 (.var 0) (.lit 2147483648), (.ofNat (nat_lit 12)), (.ofNat (nat_lit 63)))] []) = true := by kernel_rfl
theorem r64to8191_0 : yes (run [(.bin .and .i64 (.var 1) (.lit 3), .lit (.ofNat (nat_lit 0)))] [(.bin .rem .i64 (.var 0) (.lit 2147483648), (.ofNat (nat_lit 64)), (.ofNat (nat_lit 8191)))] []) = true := by kernel_rfl
theorem r64to8191_1 : yes (run [(.bin .and .i64 (.var 1) (.lit 3), .lit (.ofNat (nat_lit 1)))] [(.bin .rem .i64 (.var 0) (.lit 2147483648), (.ofNat (nat_lit 64)), (.ofNat (nat_lit 8191)))] []) = true := by kernel_rfl
theorem r64to8191_2 : yes (run [(.bin .and .i64 (.var 1) (.lit 3), .lit (.ofNat (nat_lit 2)))] [(.bin .rem .i64 (.var 0) (.lit 2147483648), (.ofNat (nat_lit 64)), (.ofNat (nat_lit 8191)))] [(.neq, .bin .add .i64 (.bin .rem .i64 (.var 0) (.lit 2147483648)) (.lit 1), .bin .rem .i64 (.var 0) (.lit 2147483648), true), (.eql, .bin .add .i64 (.bin .rem .i64 (.var 0) (.lit 2147483648)) (.lit 1), .bin .rem .i64 (.var 0) (.lit 2147483648), false)]) = true := by kernel_rfl
theorem r64to8191_3 : yes (run [(.bin .and .i64 (.var 1) (.lit 3), .lit (.ofNat (nat_lit 3)))] [(.bin .rem .i64 (.var 0) (.lit 2147483648), (.ofNat (nat_lit 64)), (.ofNat (nat_lit 8191)))] []) = true := by kernel_rfl
end Go.Proofs.YtfedjkcigdgcoaaGreatDoor.replayOuts
