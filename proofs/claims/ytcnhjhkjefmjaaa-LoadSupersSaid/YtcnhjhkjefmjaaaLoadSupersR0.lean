/- Runs of gneiss/gneisslaw15.LoadSupers. -/
import Derived.Test.YtcnhjhkjefmjaaaLoadSupersR
namespace Go.Proofs.Ytcnhjhkjefmjaaa.loadSupers
open Go Go.Proofs Go.Ai
theorem rm19tom1 : yes (run [] [(.bin .rem .i64 (.var 0) (.lit 20), (.negSucc (nat_lit 18)), (.negSucc (nat_lit 0)))]) = true := by kernel_rfl
theorem r0 : yes (run [(.bin .rem .i64 (.var 0) (.lit 20), .lit (.ofNat (nat_lit 0)))] []) = true := by kernel_rfl
theorem r1 : yes (run [(.bin .rem .i64 (.var 0) (.lit 20), .lit (.ofNat (nat_lit 1)))] []) = true := by kernel_rfl
theorem r2 : yes (run [(.bin .rem .i64 (.var 0) (.lit 20), .lit (.ofNat (nat_lit 2)))] []) = true := by kernel_rfl
theorem r3 : yes (run [(.bin .rem .i64 (.var 0) (.lit 20), .lit (.ofNat (nat_lit 3)))] []) = true := by kernel_rfl
theorem r4 : yes (run [(.bin .rem .i64 (.var 0) (.lit 20), .lit (.ofNat (nat_lit 4)))] []) = true := by kernel_rfl
end Go.Proofs.Ytcnhjhkjefmjaaa.loadSupers
