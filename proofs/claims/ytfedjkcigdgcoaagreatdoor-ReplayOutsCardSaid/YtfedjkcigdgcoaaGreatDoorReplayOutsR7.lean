/- Runs of gneiss/gneisslaw24.ReplayOuts. -/
import Derived.Test.YtfedjkcigdgcoaaGreatDoorReplayOutsR
namespace Go.Proofs.YtfedjkcigdgcoaaGreatDoor.replayOuts
open Go Go.Proofs Go.Ai
theorem r1048576to134217727_2 : yes (run [(.bin .and .i64 (.var 1) (.lit 3), .lit (.ofNat (nat_lit 2)))] [(.bin .rem .i64 (.var 0) (.lit 2147483648), (.ofNat (nat_lit 1048576)), (.ofNat (nat_lit 134217727)))] [(.neq, .bin .add .i64 (.bin .rem .i64 (.var 0) (.lit 2147483648)) (.lit 1), .bin .rem .i64 (.var 0) (.lit 2147483648), true), (.eql, .bin .add .i64 (.bin .rem .i64 (.var 0) (.lit 2147483648)) (.lit 1), .bin .rem .i64 (.var 0) (.lit 2147483648), false)]) = true := by kernel_rfl
theorem r1048576to134217727_3 : yes (run [(.bin .and .i64 (.var 1) (.lit 3), .lit (.ofNat (nat_lit 3)))] [(.bin .rem .i64 (.var 0) (.lit 2147483648), (.ofNat (nat_lit 1048576)), (.ofNat (nat_lit 134217727)))] []) = true := by kernel_rfl
theorem r134217728to2147483647_0 : yes (run [(.bin .and .i64 (.var 1) (.lit 3), .lit (.ofNat (nat_lit 0)))] [(.bin .rem .i64 (.var 0) (.lit 2147483648), (.ofNat (nat_lit 134217728)), (.ofNat (nat_lit 2147483647)))] []) = true := by kernel_rfl
theorem r134217728to2147483647_1 : yes (run [(.bin .and .i64 (.var 1) (.lit 3), .lit (.ofNat (nat_lit 1)))] [(.bin .rem .i64 (.var 0) (.lit 2147483648), (.ofNat (nat_lit 134217728)), (.ofNat (nat_lit 2147483647)))] []) = true := by kernel_rfl
theorem r134217728to2147483647_2 : yes (run [(.bin .and .i64 (.var 1) (.lit 3), .lit (.ofNat (nat_lit 2)))] [(.bin .rem .i64 (.var 0) (.lit 2147483648), (.ofNat (nat_lit 134217728)), (.ofNat (nat_lit 2147483647)))] [(.neq, .bin .add .i64 (.bin .rem .i64 (.var 0) (.lit 2147483648)) (.lit 1), .bin .rem .i64 (.var 0) (.lit 2147483648), true), (.eql, .bin .add .i64 (.bin .rem .i64 (.var 0) (.lit 2147483648)) (.lit 1), .bin .rem .i64 (.var 0) (.lit 2147483648), false)]) = true := by kernel_rfl
theorem r134217728to2147483647_3 : yes (run [(.bin .and .i64 (.var 1) (.lit 3), .lit (.ofNat (nat_lit 3)))] [(.bin .rem .i64 (.var 0) (.lit 2147483648), (.ofNat (nat_lit 134217728)), (.ofNat (nat_lit 2147483647)))] []) = true := by kernel_rfl
end Go.Proofs.YtfedjkcigdgcoaaGreatDoor.replayOuts
