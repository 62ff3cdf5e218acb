/- Runs of gneiss/gneisslaw24.ReplayOuts. -/
import Derived.Test.YtfedjkcigdgcoaaGreatDoorReplayOutsR
namespace Go.Proofs.YtfedjkcigdgcoaaGreatDoor.replayOuts
open Go Go.Proofs Go.Ai
theorem rm2147483647tom134217729_0 : yes (run [(.bin .and .i64 (.var 1) (.lit 3), .lit (.ofNat (nat_lit 0)))] [(.bin .rem .i64 (.var 0) (.lit 2147483648), (.negSucc (nat_lit 2147483646)), (.negSucc (nat_lit 134217728)))] []) = true := by kernel_rfl
theorem rm2147483647tom134217729_1 : yes (run [(.bin .and .i64 (.var 1) (.lit 3), .lit (.ofNat (nat_lit 1)))] [(.bin .rem .i64 (.var 0) (.lit 2147483648), (.negSucc (nat_lit 2147483646)), (.negSucc (nat_lit 134217728)))] []) = true := by kernel_rfl
theorem rm2147483647tom134217729_2 : yes (run [(.bin .and .i64 (.var 1) (.lit 3), .lit (.ofNat (nat_lit 2)))] [(.bin .rem .i64 (.var 0) (.lit 2147483648), (.negSucc (nat_lit 2147483646)), (.negSucc (nat_lit 134217728)))] [(.neq, .bin .add .i64 (.bin .rem .i64 (.var 0) (.lit 2147483648)) (.lit 1), .bin .rem .i64 (.var 0) (.lit 2147483648), true), (.eql, .bin .add .i64 (.bin .rem .i64 (.var 0) (.lit 2147483648)) (.lit 1), .bin .rem .i64 (.var 0) (.lit 2147483648), false)]) = true := by kernel_rfl
theorem rm2147483647tom134217729_3 : yes (run [(.bin .and .i64 (.var 1) (.lit 3), .lit (.ofNat (nat_lit 3)))] [(.bin .rem .i64 (.var 0) (.lit 2147483648), (.negSucc (nat_lit 2147483646)), (.negSucc (nat_lit 134217728)))] []) = true := by kernel_rfl
theorem rm134217728tom1048577_0 : yes (run [(.bin .and .i64 (.var 1) (.lit 3), .lit (.ofNat (nat_lit 0)))] [(.bin .rem .i64 (.var 0) (.lit 2147483648), (.negSucc (nat_lit 134217727)), (.negSucc (nat_lit 1048576)))] []) = true := by kernel_rfl
theorem rm134217728tom1048577_1 : yes (run [(.bin .and .i64 (.var 1) (.lit 3), .lit (.ofNat (nat_lit 1)))] [(.bin .rem .i64 (.var 0) (.lit 2147483648), (.negSucc (nat_lit 134217727)), (.negSucc (nat_lit 1048576)))] []) = true := by kernel_rfl
end Go.Proofs.YtfedjkcigdgcoaaGreatDoor.replayOuts
