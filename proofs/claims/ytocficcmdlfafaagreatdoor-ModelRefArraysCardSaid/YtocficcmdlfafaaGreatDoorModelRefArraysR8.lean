/- gneiss/gneisslaw21.ModelRefArrays: what is reckoned. -/
import Derived.Test.YtocficcmdlfafaaGreatDoorModelRefArraysR
namespace Go.Proofs.YtocficcmdlfafaaGreatDoor.modelRefArrays
open Go Go.Proofs Go.Ai
set_option maxRecDepth 1000000
theorem r27_4 : yes (run (.ofNat (nat_lit 26)) (.ofNat (nat_lit 27)) (.ofNat (nat_lit 4))) = true := by kernel_rfl
theorem r27_5 : yes (run (.ofNat (nat_lit 26)) (.ofNat (nat_lit 27)) (.ofNat (nat_lit 5))) = true := by kernel_rfl
theorem r27_6 : yes (run (.ofNat (nat_lit 26)) (.ofNat (nat_lit 27)) (.ofNat (nat_lit 6))) = true := by kernel_rfl
theorem r27_7 : yes (run (.ofNat (nat_lit 26)) (.ofNat (nat_lit 27)) (.ofNat (nat_lit 7))) = true := by kernel_rfl
theorem r27_8 : yes (run (.ofNat (nat_lit 26)) (.ofNat (nat_lit 27)) (.ofNat (nat_lit 8))) = true := by kernel_rfl
theorem r27_9 : yes (run (.ofNat (nat_lit 26)) (.ofNat (nat_lit 27)) (.ofNat (nat_lit 9))) = true := by kernel_rfl
theorem r27_10 : yes (run (.ofNat (nat_lit 26)) (.ofNat (nat_lit 27)) (.ofNat (nat_lit 10))) = true := by kernel_rfl
theorem r27_11 : yes (run (.ofNat (nat_lit 26)) (.ofNat (nat_lit 27)) (.ofNat (nat_lit 11))) = true := by kernel_rfl
theorem r27_12 : yes (run (.ofNat (nat_lit 26)) (.ofNat (nat_lit 27)) (.ofNat (nat_lit 12))) = true := by kernel_rfl
theorem r27_13 : yes (run (.ofNat (nat_lit 26)) (.ofNat (nat_lit 27)) (.ofNat (nat_lit 13))) = true := by kernel_rfl
theorem r27_14 : yes (run (.ofNat (nat_lit 26)) (.ofNat (nat_lit 27)) (.ofNat (nat_lit 14))) = true := by kernel_rfl
theorem r27_15 : yes (run (.ofNat (nat_lit 26)) (.ofNat (nat_lit 27)) (.ofNat (nat_lit 15))) = true := by kernel_rfl
theorem r27_16 : yes (run (.ofNat (nat_lit 26)) (.ofNat (nat_lit 27)) (.ofNat (nat_lit 16))) = true := by kernel_rfl
theorem r27_17 : yes (run (.ofNat (nat_lit 26)) (.ofNat (nat_lit 27)) (.ofNat (nat_lit 17))) = true := by kernel_rfl
theorem r27_18 : yes (run (.ofNat (nat_lit 26)) (.ofNat (nat_lit 27)) (.ofNat (nat_lit 18))) = true := by kernel_rfl
theorem r27_19 : yes (run (.ofNat (nat_lit 26)) (.ofNat (nat_lit 27)) (.ofNat (nat_lit 19))) = true := by kernel_rfl
theorem r27_20 : yes (run (.ofNat (nat_lit 26)) (.ofNat (nat_lit 27)) (.ofNat (nat_lit 20))) = true := by kernel_rfl
theorem r27_21 : yes (run (.ofNat (nat_lit 26)) (.ofNat (nat_lit 27)) (.ofNat (nat_lit 21))) = true := by kernel_rfl
theorem r27_22 : yes (run (.ofNat (nat_lit 26)) (.ofNat (nat_lit 27)) (.ofNat (nat_lit 22))) = true := by kernel_rfl
theorem r27_23 : yes (run (.ofNat (nat_lit 26)) (.ofNat (nat_lit 27)) (.ofNat (nat_lit 23))) = true := by kernel_rfl
theorem r27_24 : yes (run (.ofNat (nat_lit 26)) (.ofNat (nat_lit 27)) (.ofNat (nat_lit 24))) = true := by kernel_rfl
end Go.Proofs.YtocficcmdlfafaaGreatDoor.modelRefArrays
