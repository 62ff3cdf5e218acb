/- gneiss/gneisslaw21.ModelRefArrays: what is reckoned. -/
import Derived.Test.YtocficcmdlfafaaGreatDoorModelRefArraysR
namespace Go.Proofs.YtocficcmdlfafaaGreatDoor.modelRefArrays
open Go Go.Proofs Go.Ai
set_option maxRecDepth 1000000
theorem r27_25 : yes (run (.ofNat (nat_lit 26)) (.ofNat (nat_lit 27)) (.ofNat (nat_lit 25))) = true := by kernel_rfl
theorem r27_26 : yes (run (.ofNat (nat_lit 26)) (.ofNat (nat_lit 27)) (.ofNat (nat_lit 26))) = true := by kernel_rfl
theorem r26_0 : yes (run (.ofNat (nat_lit 25)) (.ofNat (nat_lit 26)) (.ofNat (nat_lit 0))) = true := by kernel_rfl
theorem r26_1 : yes (run (.ofNat (nat_lit 25)) (.ofNat (nat_lit 26)) (.ofNat (nat_lit 1))) = true := by kernel_rfl
theorem r26_2 : yes (run (.ofNat (nat_lit 25)) (.ofNat (nat_lit 26)) (.ofNat (nat_lit 2))) = true := by kernel_rfl
theorem r26_3 : yes (run (.ofNat (nat_lit 25)) (.ofNat (nat_lit 26)) (.ofNat (nat_lit 3))) = true := by kernel_rfl
theorem r26_4 : yes (run (.ofNat (nat_lit 25)) (.ofNat (nat_lit 26)) (.ofNat (nat_lit 4))) = true := by kernel_rfl
theorem r26_5 : yes (run (.ofNat (nat_lit 25)) (.ofNat (nat_lit 26)) (.ofNat (nat_lit 5))) = true := by kernel_rfl
theorem r26_6 : yes (run (.ofNat (nat_lit 25)) (.ofNat (nat_lit 26)) (.ofNat (nat_lit 6))) = true := by kernel_rfl
theorem r26_7 : yes (run (.ofNat (nat_lit 25)) (.ofNat (nat_lit 26)) (.ofNat (nat_lit 7))) = true := by kernel_rfl
theorem r26_8 : yes (run (.ofNat (nat_lit 25)) (.ofNat (nat_lit 26)) (.ofNat (nat_lit 8))) = true := by kernel_rfl
theorem r26_9 : yes (run (.ofNat (nat_lit 25)) (.ofNat (nat_lit 26)) (.ofNat (nat_lit 9))) = true := by kernel_rfl
theorem r26_10 : yes (run (.ofNat (nat_lit 25)) (.ofNat (nat_lit 26)) (.ofNat (nat_lit 10))) = true := by kernel_rfl
theorem r26_11 : yes (run (.ofNat (nat_lit 25)) (.ofNat (nat_lit 26)) (.ofNat (nat_lit 11))) = true := by kernel_rfl
theorem r26_12 : yes (run (.ofNat (nat_lit 25)) (.ofNat (nat_lit 26)) (.ofNat (nat_lit 12))) = true := by kernel_rfl
theorem r26_13 : yes (run (.ofNat (nat_lit 25)) (.ofNat (nat_lit 26)) (.ofNat (nat_lit 13))) = true := by kernel_rfl
theorem r26_14 : yes (run (.ofNat (nat_lit 25)) (.ofNat (nat_lit 26)) (.ofNat (nat_lit 14))) = true := by kernel_rfl
theorem r26_15 : yes (run (.ofNat (nat_lit 25)) (.ofNat (nat_lit 26)) (.ofNat (nat_lit 15))) = true := by kernel_rfl
theorem r26_16 : yes (run (.ofNat (nat_lit 25)) (.ofNat (nat_lit 26)) (.ofNat (nat_lit 16))) = true := by kernel_rfl
theorem r26_17 : yes (run (.ofNat (nat_lit 25)) (.ofNat (nat_lit 26)) (.ofNat (nat_lit 17))) = true := by kernel_rfl
theorem r26_18 : yes (run (.ofNat (nat_lit 25)) (.ofNat (nat_lit 26)) (.ofNat (nat_lit 18))) = true := by kernel_rfl
theorem r26_19 : yes (run (.ofNat (nat_lit 25)) (.ofNat (nat_lit 26)) (.ofNat (nat_lit 19))) = true := by kernel_rfl
end Go.Proofs.YtocficcmdlfafaaGreatDoor.modelRefArrays
