/- Runs of gneiss/gneisslaw19.AsmMissing. -/
import Derived.Test.YtggidjlffhakhaaGreatDoorAsmMissingR
namespace Go.Proofs.YtggidjlffhakhaaGreatDoor.asmMissing
open Go Go.Proofs Go.Ai
theorem r0_f : yes (run [(.bin .rem .u64 (.conv .u64 (.var 0)) (.lit 6), .lit (.ofNat (nat_lit 0)))] [] false) = true := by kernel_rfl
theorem r0_t : yes (run [(.bin .rem .u64 (.conv .u64 (.var 0)) (.lit 6), .lit (.ofNat (nat_lit 0)))] [] true) = true := by kernel_rfl
theorem r1_f : yes (run [(.bin .rem .u64 (.conv .u64 (.var 0)) (.lit 6), .lit (.ofNat (nat_lit 1)))] [] false) = true := by kernel_rfl
end Go.Proofs.YtggidjlffhakhaaGreatDoor.asmMissing
