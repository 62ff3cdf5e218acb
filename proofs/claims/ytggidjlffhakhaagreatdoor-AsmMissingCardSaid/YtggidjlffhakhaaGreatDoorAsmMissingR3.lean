/- Runs of gneiss/gneisslaw19.AsmMissing. -/
import Derived.Test.YtggidjlffhakhaaGreatDoorAsmMissingR
namespace Go.Proofs.YtggidjlffhakhaaGreatDoor.asmMissing
open Go Go.Proofs Go.Ai
theorem r4_t : yes (run [(.bin .rem .u64 (.conv .u64 (.var 0)) (.lit 6), .lit (.ofNat (nat_lit 4)))] [] true) = true := by kernel_rfl
theorem r5_f : yes (run [(.bin .rem .u64 (.conv .u64 (.var 0)) (.lit 6), .lit (.ofNat (nat_lit 5)))] [] false) = true := by kernel_rfl
theorem r5_t : yes (run [(.bin .rem .u64 (.conv .u64 (.var 0)) (.lit 6), .lit (.ofNat (nat_lit 5)))] [] true) = true := by kernel_rfl
end Go.Proofs.YtggidjlffhakhaaGreatDoor.asmMissing
