/- Runs of gneiss/gneisslaw15.LoadSupers. -/
import Derived.Test.YtcnhjhkjefmjaaaLoadSupersR
namespace Go.Proofs.Ytcnhjhkjefmjaaa.loadSupers
open Go Go.Proofs Go.Ai
theorem r11 : yes (run [(.bin .rem .i64 (.var 0) (.lit 20), .lit (.ofNat (nat_lit 11)))] []) = true := by kernel_rfl
theorem r12 : yes (run [(.bin .rem .i64 (.var 0) (.lit 20), .lit (.ofNat (nat_lit 12)))] []) = true := by kernel_rfl
theorem r13 : yes (run [(.bin .rem .i64 (.var 0) (.lit 20), .lit (.ofNat (nat_lit 13)))] []) = true := by kernel_rfl
theorem r14to19 : yes (run [] [(.bin .rem .i64 (.var 0) (.lit 20), (.ofNat (nat_lit 14)), (.ofNat (nat_lit 19)))]) = true := by kernel_rfl
end Go.Proofs.Ytcnhjhkjefmjaaa.loadSupers
