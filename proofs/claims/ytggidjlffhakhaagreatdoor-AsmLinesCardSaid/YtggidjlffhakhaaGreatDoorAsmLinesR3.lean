/- Runs of gneiss/gneisslaw19.AsmLines. -/
import Derived.Test.YtggidjlffhakhaaGreatDoorAsmLinesR
namespace Go.Proofs.YtggidjlffhakhaaGreatDoor.asmLines
open Go Go.Proofs Go.Ai
theorem r6_0 : yes (run [(.bin .rem .u64 (.conv .u64 (.var 0)) (.lit 8), .lit (.ofNat (nat_lit 6))), (.bin .rem .u64 (.conv .u64 (.var 1)) (.lit 6), .lit (.ofNat (nat_lit 0)))] []) = true := by kernel_rfl
theorem r6_1 : yes (run [(.bin .rem .u64 (.conv .u64 (.var 0)) (.lit 8), .lit (.ofNat (nat_lit 6))), (.bin .rem .u64 (.conv .u64 (.var 1)) (.lit 6), .lit (.ofNat (nat_lit 1)))] []) = true := by kernel_rfl
theorem r6_2 : yes (run [(.bin .rem .u64 (.conv .u64 (.var 0)) (.lit 8), .lit (.ofNat (nat_lit 6))), (.bin .rem .u64 (.conv .u64 (.var 1)) (.lit 6), .lit (.ofNat (nat_lit 2)))] []) = true := by kernel_rfl
theorem r6_3 : yes (run [(.bin .rem .u64 (.conv .u64 (.var 0)) (.lit 8), .lit (.ofNat (nat_lit 6))), (.bin .rem .u64 (.conv .u64 (.var 1)) (.lit 6), .lit (.ofNat (nat_lit 3)))] []) = true := by kernel_rfl
theorem r6_4 : yes (run [(.bin .rem .u64 (.conv .u64 (.var 0)) (.lit 8), .lit (.ofNat (nat_lit 6))), (.bin .rem .u64 (.conv .u64 (.var 1)) (.lit 6), .lit (.ofNat (nat_lit 4)))] []) = true := by kernel_rfl
theorem r6_5 : yes (run [(.bin .rem .u64 (.conv .u64 (.var 0)) (.lit 8), .lit (.ofNat (nat_lit 6))), (.bin .rem .u64 (.conv .u64 (.var 1)) (.lit 6), .lit (.ofNat (nat_lit 5)))] []) = true := by kernel_rfl
theorem r7_0 : yes (run [(.bin .rem .u64 (.conv .u64 (.var 0)) (.lit 8), .lit (.ofNat (nat_lit 7))), (.bin .rem .u64 (.conv .u64 (.var 1)) (.lit 6), .lit (.ofNat (nat_lit 0)))] []) = true := by kernel_rfl
theorem r7_1 : yes (run [(.bin .rem .u64 (.conv .u64 (.var 0)) (.lit 8), .lit (.ofNat (nat_lit 7))), (.bin .rem .u64 (.conv .u64 (.var 1)) (.lit 6), .lit (.ofNat (nat_lit 1)))] []) = true := by kernel_rfl
theorem r7_2 : yes (run [(.bin .rem .u64 (.conv .u64 (.var 0)) (.lit 8), .lit (.ofNat (nat_lit 7))), (.bin .rem .u64 (.conv .u64 (.var 1)) (.lit 6), .lit (.ofNat (nat_lit 2)))] []) = true := by kernel_rfl
theorem r7_3 : yes (run [(.bin .rem .u64 (.conv .u64 (.var 0)) (.lit 8), .lit (.ofNat (nat_lit 7))), (.bin .rem .u64 (.conv .u64 (.var 1)) (.lit 6), .lit (.ofNat (nat_lit 3)))] []) = true := by kernel_rfl
theorem r7_4 : yes (run [(.bin .rem .u64 (.conv .u64 (.var 0)) (.lit 8), .lit (.ofNat (nat_lit 7))), (.bin .rem .u64 (.conv .u64 (.var 1)) (.lit 6), .lit (.ofNat (nat_lit 4)))] []) = true := by kernel_rfl
theorem r7_5 : yes (run [(.bin .rem .u64 (.conv .u64 (.var 0)) (.lit 8), .lit (.ofNat (nat_lit 7))), (.bin .rem .u64 (.conv .u64 (.var 1)) (.lit 6), .lit (.ofNat (nat_lit 5)))] []) = true := by kernel_rfl
end Go.Proofs.YtggidjlffhakhaaGreatDoor.asmLines
