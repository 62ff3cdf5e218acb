/- gneiss/gneisslaw21.ModelRefArrays: what is reckoned. -/
import Derived.Test.YtocficcmdlfafaaGreatDoorModelRefArraysR
namespace Go.Proofs.YtocficcmdlfafaaGreatDoor.modelRefArrays
open Go Go.Proofs Go.Ai
set_option maxRecDepth 1000000
theorem r31_4 : yes (run (.ofNat (nat_lit 30)) (.ofNat (nat_lit 31)) (.ofNat (nat_lit 4))) = true := by kernel_rfl
theorem r31_5 : yes (run (.ofNat (nat_lit 30)) (.ofNat (nat_lit 31)) (.ofNat (nat_lit 5))) = true := by kernel_rfl
theorem r31_6 : yes (run (.ofNat (nat_lit 30)) (.ofNat (nat_lit 31)) (.ofNat (nat_lit 6))) = true := by kernel_rfl
theorem r31_7 : yes (run (.ofNat (nat_lit 30)) (.ofNat (nat_lit 31)) (.ofNat (nat_lit 7))) = true := by kernel_rfl
theorem r31_8 : yes (run (.ofNat (nat_lit 30)) (.ofNat (nat_lit 31)) (.ofNat (nat_lit 8))) = true := by kernel_rfl
theorem r31_9 : yes (run (.ofNat (nat_lit 30)) (.ofNat (nat_lit 31)) (.ofNat (nat_lit 9))) = true := by kernel_rfl
theorem r31_10 : yes (run (.ofNat (nat_lit 30)) (.ofNat (nat_lit 31)) (.ofNat (nat_lit 10))) = true := by kernel_rfl
theorem r31_11 : yes (run (.ofNat (nat_lit 30)) (.ofNat (nat_lit 31)) (.ofNat (nat_lit 11))) = true := by kernel_rfl
theorem r31_12 : yes (run (.ofNat (nat_lit 30)) (.ofNat (nat_lit 31)) (.ofNat (nat_lit 12))) = true := by kernel_rfl
theorem r31_13 : yes (run (.ofNat (nat_lit 30)) (.ofNat (nat_lit 31)) (.ofNat (nat_lit 13))) = true := by kernel_rfl
theorem r31_14 : yes (run (.ofNat (nat_lit 30)) (.ofNat (nat_lit 31)) (.ofNat (nat_lit 14))) = true := by kernel_rfl
theorem r31_15 : yes (run (.ofNat (nat_lit 30)) (.ofNat (nat_lit 31)) (.ofNat (nat_lit 15))) = true := by kernel_rfl
theorem r31_16 : yes (run (.ofNat (nat_lit 30)) (.ofNat (nat_lit 31)) (.ofNat (nat_lit 16))) = true := by kernel_rfl
theorem r31_17 : yes (run (.ofNat (nat_lit 30)) (.ofNat (nat_lit 31)) (.ofNat (nat_lit 17))) = true := by kernel_rfl
theorem r31_18 : yes (run (.ofNat (nat_lit 30)) (.ofNat (nat_lit 31)) (.ofNat (nat_lit 18))) = true := by kernel_rfl
theorem r31_19 : yes (run (.ofNat (nat_lit 30)) (.ofNat (nat_lit 31)) (.ofNat (nat_lit 19))) = true := by kernel_rfl
theorem r31_20 : yes (run (.ofNat (nat_lit 30)) (.ofNat (nat_lit 31)) (.ofNat (nat_lit 20))) = true := by kernel_rfl
theorem r31_21 : yes (run (.ofNat (nat_lit 30)) (.ofNat (nat_lit 31)) (.ofNat (nat_lit 21))) = true := by kernel_rfl
theorem r31_22 : yes (run (.ofNat (nat_lit 30)) (.ofNat (nat_lit 31)) (.ofNat (nat_lit 22))) = true := by kernel_rfl
end Go.Proofs.YtocficcmdlfafaaGreatDoor.modelRefArrays
