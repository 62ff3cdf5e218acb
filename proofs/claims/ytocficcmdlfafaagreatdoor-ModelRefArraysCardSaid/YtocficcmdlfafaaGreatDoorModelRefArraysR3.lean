/- gneiss/gneisslaw21.ModelRefArrays: what is reckoned. -/
import Derived.Test.YtocficcmdlfafaaGreatDoorModelRefArraysR
namespace Go.Proofs.YtocficcmdlfafaaGreatDoor.modelRefArrays
open Go Go.Proofs Go.Ai
set_option maxRecDepth 1000000
theorem r31_23 : yes (run (.ofNat (nat_lit 30)) (.ofNat (nat_lit 31)) (.ofNat (nat_lit 23))) = true := by kernel_rfl
theorem r31_24 : yes (run (.ofNat (nat_lit 30)) (.ofNat (nat_lit 31)) (.ofNat (nat_lit 24))) = true := by kernel_rfl
theorem r31_25 : yes (run (.ofNat (nat_lit 30)) (.ofNat (nat_lit 31)) (.ofNat (nat_lit 25))) = true := by kernel_rfl
theorem r31_26 : yes (run (.ofNat (nat_lit 30)) (.ofNat (nat_lit 31)) (.ofNat (nat_lit 26))) = true := by kernel_rfl
theorem r31_27 : yes (run (.ofNat (nat_lit 30)) (.ofNat (nat_lit 31)) (.ofNat (nat_lit 27))) = true := by kernel_rfl
theorem r31_28 : yes (run (.ofNat (nat_lit 30)) (.ofNat (nat_lit 31)) (.ofNat (nat_lit 28))) = true := by kernel_rfl
theorem r31_29 : yes (run (.ofNat (nat_lit 30)) (.ofNat (nat_lit 31)) (.ofNat (nat_lit 29))) = true := by kernel_rfl
theorem r31_30 : yes (run (.ofNat (nat_lit 30)) (.ofNat (nat_lit 31)) (.ofNat (nat_lit 30))) = true := by kernel_rfl
theorem r30_0 : yes (run (.ofNat (nat_lit 29)) (.ofNat (nat_lit 30)) (.ofNat (nat_lit 0))) = true := by kernel_rfl
theorem r30_1 : yes (run (.ofNat (nat_lit 29)) (.ofNat (nat_lit 30)) (.ofNat (nat_lit 1))) = true := by kernel_rfl
theorem r30_2 : yes (run (.ofNat (nat_lit 29)) (.ofNat (nat_lit 30)) (.ofNat (nat_lit 2))) = true := by kernel_rfl
theorem r30_3 : yes (run (.ofNat (nat_lit 29)) (.ofNat (nat_lit 30)) (.ofNat (nat_lit 3))) = true := by kernel_rfl
theorem r30_4 : yes (run (.ofNat (nat_lit 29)) (.ofNat (nat_lit 30)) (.ofNat (nat_lit 4))) = true := by kernel_rfl
theorem r30_5 : yes (run (.ofNat (nat_lit 29)) (.ofNat (nat_lit 30)) (.ofNat (nat_lit 5))) = true := by kernel_rfl
theorem r30_6 : yes (run (.ofNat (nat_lit 29)) (.ofNat (nat_lit 30)) (.ofNat (nat_lit 6))) = true := by kernel_rfl
theorem r30_7 : yes (run (.ofNat (nat_lit 29)) (.ofNat (nat_lit 30)) (.ofNat (nat_lit 7))) = true := by kernel_rfl
theorem r30_8 : yes (run (.ofNat (nat_lit 29)) (.ofNat (nat_lit 30)) (.ofNat (nat_lit 8))) = true := by kernel_rfl
theorem r30_9 : yes (run (.ofNat (nat_lit 29)) (.ofNat (nat_lit 30)) (.ofNat (nat_lit 9))) = true := by kernel_rfl
theorem r30_10 : yes (run (.ofNat (nat_lit 29)) (.ofNat (nat_lit 30)) (.ofNat (nat_lit 10))) = true := by kernel_rfl
end Go.Proofs.YtocficcmdlfafaaGreatDoor.modelRefArrays
