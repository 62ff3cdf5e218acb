/- gneiss/gneisslaw21.ModelRefArrays: what is reckoned. -/
import Derived.Test.YtocficcmdlfafaaGreatDoorModelRefArraysR
namespace Go.Proofs.YtocficcmdlfafaaGreatDoor.modelRefArrays
open Go Go.Proofs Go.Ai
set_option maxRecDepth 1000000
theorem r32_18 : yes (run (.ofNat (nat_lit 31)) (.ofNat (nat_lit 32)) (.ofNat (nat_lit 18))) = true := by kernel_rfl
theorem r32_19 : yes (run (.ofNat (nat_lit 31)) (.ofNat (nat_lit 32)) (.ofNat (nat_lit 19))) = true := by kernel_rfl
theorem r32_20 : yes (run (.ofNat (nat_lit 31)) (.ofNat (nat_lit 32)) (.ofNat (nat_lit 20))) = true := by kernel_rfl
theorem r32_21 : yes (run (.ofNat (nat_lit 31)) (.ofNat (nat_lit 32)) (.ofNat (nat_lit 21))) = true := by kernel_rfl
theorem r32_22 : yes (run (.ofNat (nat_lit 31)) (.ofNat (nat_lit 32)) (.ofNat (nat_lit 22))) = true := by kernel_rfl
theorem r32_23 : yes (run (.ofNat (nat_lit 31)) (.ofNat (nat_lit 32)) (.ofNat (nat_lit 23))) = true := by kernel_rfl
theorem r32_24 : yes (run (.ofNat (nat_lit 31)) (.ofNat (nat_lit 32)) (.ofNat (nat_lit 24))) = true := by kernel_rfl
theorem r32_25 : yes (run (.ofNat (nat_lit 31)) (.ofNat (nat_lit 32)) (.ofNat (nat_lit 25))) = true := by kernel_rfl
theorem r32_26 : yes (run (.ofNat (nat_lit 31)) (.ofNat (nat_lit 32)) (.ofNat (nat_lit 26))) = true := by kernel_rfl
theorem r32_27 : yes (run (.ofNat (nat_lit 31)) (.ofNat (nat_lit 32)) (.ofNat (nat_lit 27))) = true := by kernel_rfl
theorem r32_28 : yes (run (.ofNat (nat_lit 31)) (.ofNat (nat_lit 32)) (.ofNat (nat_lit 28))) = true := by kernel_rfl
theorem r32_29 : yes (run (.ofNat (nat_lit 31)) (.ofNat (nat_lit 32)) (.ofNat (nat_lit 29))) = true := by kernel_rfl
theorem r32_30 : yes (run (.ofNat (nat_lit 31)) (.ofNat (nat_lit 32)) (.ofNat (nat_lit 30))) = true := by kernel_rfl
theorem r32_31 : yes (run (.ofNat (nat_lit 31)) (.ofNat (nat_lit 32)) (.ofNat (nat_lit 31))) = true := by kernel_rfl
theorem r31_0 : yes (run (.ofNat (nat_lit 30)) (.ofNat (nat_lit 31)) (.ofNat (nat_lit 0))) = true := by kernel_rfl
theorem r31_1 : yes (run (.ofNat (nat_lit 30)) (.ofNat (nat_lit 31)) (.ofNat (nat_lit 1))) = true := by kernel_rfl
theorem r31_2 : yes (run (.ofNat (nat_lit 30)) (.ofNat (nat_lit 31)) (.ofNat (nat_lit 2))) = true := by kernel_rfl
theorem r31_3 : yes (run (.ofNat (nat_lit 30)) (.ofNat (nat_lit 31)) (.ofNat (nat_lit 3))) = true := by kernel_rfl
end Go.Proofs.YtocficcmdlfafaaGreatDoor.modelRefArrays
