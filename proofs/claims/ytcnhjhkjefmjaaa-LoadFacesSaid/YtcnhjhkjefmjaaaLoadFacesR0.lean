/- Runs of gneiss/gneisslaw15.LoadFaces. -/
import Derived.Test.YtcnhjhkjefmjaaaLoadFacesR
namespace Go.Proofs.Ytcnhjhkjefmjaaa.loadFaces
open Go Go.Proofs Go.Ai
theorem r0 : yes (run [(.bin .and .i64 (.var 0) (.lit 7), .lit (.ofNat (nat_lit 0)))] []) = true := by kernel_rfl
theorem r1 : yes (run [(.bin .and .i64 (.var 0) (.lit 7), .lit (.ofNat (nat_lit 1)))] []) = true := by kernel_rfl
theorem r2 : yes (run [(.bin .and .i64 (.var 0) (.lit 7), .lit (.ofNat (nat_lit 2)))] []) = true := by kernel_rfl
theorem r3 : yes (run [(.bin .and .i64 (.var 0) (.lit 7), .lit (.ofNat (nat_lit 3)))] []) = true := by kernel_rfl
theorem r4 : yes (run [(.bin .and .i64 (.var 0) (.lit 7), .lit (.ofNat (nat_lit 4)))] []) = true := by kernel_rfl
end Go.Proofs.Ytcnhjhkjefmjaaa.loadFaces
