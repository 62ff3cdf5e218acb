/- Runs of gneiss/gneisslaw19.AsmMissing. -/
import Derived.Test.YtggidjlffhakhaaGreatDoorAsmMissingR
namespace Go.Proofs.YtggidjlffhakhaaGreatDoor.asmMissing
open Go Go.Proofs Go.Ai
theorem r1_t : yes (run [(.bin .rem .u64 (.conv .u64 (.var 0)) (.lit 6), .lit (.ofNat (nat_lit 1)))] [] true) = true := by kernel_rfl
theorem r2_f : yes (run [(.bin .rem .u64 (.conv .u64 (.var 0)) (.lit 6), .lit (.ofNat (nat_lit 2)))] [] false) = true := by kernel_rfl
theorem r2_t : yes (run [(.bin .rem .u64 (.conv .u64 (.var 0)) (.lit 6), .lit (.ofNat (nat_lit 2)))] [] true) = true := by kernel_rfl
end Go.Proofs.YtggidjlffhakhaaGreatDoor.asmMissing
