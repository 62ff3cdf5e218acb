/- gneiss/gneisslaw21.ModelRefArrays: what is reckoned. -/
import Derived.Test.YtocficcmdlfafaaGreatDoorModelRefArraysR
namespace Go.Proofs.YtocficcmdlfafaaGreatDoor.modelRefArrays
open Go Go.Proofs Go.Ai
set_option maxRecDepth 1000000
theorem r28_11 : yes (run (.ofNat (nat_lit 27)) (.ofNat (nat_lit 28)) (.ofNat (nat_lit 11))) = true := by kernel_rfl
theorem r28_12 : yes (run (.ofNat (nat_lit 27)) (.ofNat (nat_lit 28)) (.ofNat (nat_lit 12))) = true := by kernel_rfl
theorem r28_13 : yes (run (.ofNat (nat_lit 27)) (.ofNat (nat_lit 28)) (.ofNat (nat_lit 13))) = true := by kernel_rfl
theorem r28_14 : yes (run (.ofNat (nat_lit 27)) (.ofNat (nat_lit 28)) (.ofNat (nat_lit 14))) = true := by kernel_rfl
theorem r28_15 : yes (run (.ofNat (nat_lit 27)) (.ofNat (nat_lit 28)) (.ofNat (nat_lit 15))) = true := by kernel_rfl
theorem r28_16 : yes (run (.ofNat (nat_lit 27)) (.ofNat (nat_lit 28)) (.ofNat (nat_lit 16))) = true := by kernel_rfl
theorem r28_17 : yes (run (.ofNat (nat_lit 27)) (.ofNat (nat_lit 28)) (.ofNat (nat_lit 17))) = true := by kernel_rfl
theorem r28_18 : yes (run (.ofNat (nat_lit 27)) (.ofNat (nat_lit 28)) (.ofNat (nat_lit 18))) = true := by kernel_rfl
theorem r28_19 : yes (run (.ofNat (nat_lit 27)) (.ofNat (nat_lit 28)) (.ofNat (nat_lit 19))) = true := by kernel_rfl
theorem r28_20 : yes (run (.ofNat (nat_lit 27)) (.ofNat (nat_lit 28)) (.ofNat (nat_lit 20))) = true := by kernel_rfl
theorem r28_21 : yes (run (.ofNat (nat_lit 27)) (.ofNat (nat_lit 28)) (.ofNat (nat_lit 21))) = true := by kernel_rfl
theorem r28_22 : yes (run (.ofNat (nat_lit 27)) (.ofNat (nat_lit 28)) (.ofNat (nat_lit 22))) = true := by kernel_rfl
theorem r28_23 : yes (run (.ofNat (nat_lit 27)) (.ofNat (nat_lit 28)) (.ofNat (nat_lit 23))) = true := by kernel_rfl
theorem r28_24 : yes (run (.ofNat (nat_lit 27)) (.ofNat (nat_lit 28)) (.ofNat (nat_lit 24))) = true := by kernel_rfl
theorem r28_25 : yes (run (.ofNat (nat_lit 27)) (.ofNat (nat_lit 28)) (.ofNat (nat_lit 25))) = true := by kernel_rfl
theorem r28_26 : yes (run (.ofNat (nat_lit 27)) (.ofNat (nat_lit 28)) (.ofNat (nat_lit 26))) = true := by kernel_rfl
theorem r28_27 : yes (run (.ofNat (nat_lit 27)) (.ofNat (nat_lit 28)) (.ofNat (nat_lit 27))) = true := by kernel_rfl
theorem r27_0 : yes (run (.ofNat (nat_lit 26)) (.ofNat (nat_lit 27)) (.ofNat (nat_lit 0))) = true := by kernel_rfl
theorem r27_1 : yes (run (.ofNat (nat_lit 26)) (.ofNat (nat_lit 27)) (.ofNat (nat_lit 1))) = true := by kernel_rfl
theorem r27_2 : yes (run (.ofNat (nat_lit 26)) (.ofNat (nat_lit 27)) (.ofNat (nat_lit 2))) = true := by kernel_rfl
theorem r27_3 : yes (run (.ofNat (nat_lit 26)) (.ofNat (nat_lit 27)) (.ofNat (nat_lit 3))) = true := by kernel_rfl
end Go.Proofs.YtocficcmdlfafaaGreatDoor.modelRefArrays
