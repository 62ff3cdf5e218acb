/- Runs of gneiss/gneisslaw19.AsmMissing. -/
import Derived.Test.YtggidjlffhakhaaGreatDoorAsmMissingR
namespace Go.Proofs.YtggidjlffhakhaaGreatDoor.asmMissing
open Go Go.Proofs Go.Ai
theorem r3_f : yes (run [(.bin .rem .u64 (.conv .u64 (.var 0)) (.lit 6), .lit (.ofNat (nat_lit 3)))] [] false) = true := by kernel_rfl
theorem r3_t : yes (run [(.bin .rem .u64 (.conv .u64 (.var 0)) (.lit 6), .lit (.ofNat (nat_lit 3)))] [] true) = true := by kernel_rfl
theorem r4_f : yes (run [(.bin .rem .u64 (.conv .u64 (.var 0)) (.lit 6), .lit (.ofNat (nat_lit 4)))] [] false) = true := by kernel_rfl
end Go.Proofs.YtggidjlffhakhaaGreatDoor.asmMissing
