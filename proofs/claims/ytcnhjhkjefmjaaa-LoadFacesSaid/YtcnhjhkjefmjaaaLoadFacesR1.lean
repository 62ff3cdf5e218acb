/- Runs of gneiss/gneisslaw15.LoadFaces. -/
import Derived.Test.YtcnhjhkjefmjaaaLoadFacesR
namespace Go.Proofs.Ytcnhjhkjefmjaaa.loadFaces
open Go Go.Proofs Go.Ai
theorem r5 : yes (run [(.bin .and .i64 (.var 0) (.lit 7), .lit (.ofNat (nat_lit 5)))] []) = true := by kernel_rfl
theorem r6 : yes (run [(.bin .and .i64 (.var 0) (.lit 7), .lit (.ofNat (nat_lit 6)))] []) = true := by kernel_rfl
theorem r7 : yes (run [(.bin .and .i64 (.var 0) (.lit 7), .lit (.ofNat (nat_lit 7)))] []) = true := by kernel_rfl
end Go.Proofs.Ytcnhjhkjefmjaaa.loadFaces
