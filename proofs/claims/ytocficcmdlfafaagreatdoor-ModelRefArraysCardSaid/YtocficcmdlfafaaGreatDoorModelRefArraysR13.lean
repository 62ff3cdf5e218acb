/- gneiss/gneisslaw21.ModelRefArrays: what is reckoned. -/
import Derived.Test.YtocficcmdlfafaaGreatDoorModelRefArraysR
namespace Go.Proofs.YtocficcmdlfafaaGreatDoor.modelRefArrays
open Go Go.Proofs Go.Ai
set_option maxRecDepth 1000000
theorem r23_15 : yes (run (.ofNat (nat_lit 22)) (.ofNat (nat_lit 23)) (.ofNat (nat_lit 15))) = true := by kernel_rfl
theorem r23_16 : yes (run (.ofNat (nat_lit 22)) (.ofNat (nat_lit 23)) (.ofNat (nat_lit 16))) = true := by kernel_rfl
theorem r23_17 : yes (run (.ofNat (nat_lit 22)) (.ofNat (nat_lit 23)) (.ofNat (nat_lit 17))) = true := by kernel_rfl
theorem r23_18 : yes (run (.ofNat (nat_lit 22)) (.ofNat (nat_lit 23)) (.ofNat (nat_lit 18))) = true := by kernel_rfl
theorem r23_19 : yes (run (.ofNat (nat_lit 22)) (.ofNat (nat_lit 23)) (.ofNat (nat_lit 19))) = true := by kernel_rfl
theorem r23_20 : yes (run (.ofNat (nat_lit 22)) (.ofNat (nat_lit 23)) (.ofNat (nat_lit 20))) = true := by kernel_rfl
theorem r23_21 : yes (run (.ofNat (nat_lit 22)) (.ofNat (nat_lit 23)) (.ofNat (nat_lit 21))) = true := by kernel_rfl
theorem r23_22 : yes (run (.ofNat (nat_lit 22)) (.ofNat (nat_lit 23)) (.ofNat (nat_lit 22))) = true := by kernel_rfl
theorem r22_0 : yes (run (.ofNat (nat_lit 21)) (.ofNat (nat_lit 22)) (.ofNat (nat_lit 0))) = true := by kernel_rfl
theorem r22_1 : yes (run (.ofNat (nat_lit 21)) (.ofNat (nat_lit 22)) (.ofNat (nat_lit 1))) = true := by kernel_rfl
theorem r22_2 : yes (run (.ofNat (nat_lit 21)) (.ofNat (nat_lit 22)) (.ofNat (nat_lit 2))) = true := by kernel_rfl
theorem r22_3 : yes (run (.ofNat (nat_lit 21)) (.ofNat (nat_lit 22)) (.ofNat (nat_lit 3))) = true := by kernel_rfl
theorem r22_4 : yes (run (.ofNat (nat_lit 21)) (.ofNat (nat_lit 22)) (.ofNat (nat_lit 4))) = true := by kernel_rfl
theorem r22_5 : yes (run (.ofNat (nat_lit 21)) (.ofNat (nat_lit 22)) (.ofNat (nat_lit 5))) = true := by kernel_rfl
theorem r22_6 : yes (run (.ofNat (nat_lit 21)) (.ofNat (nat_lit 22)) (.ofNat (nat_lit 6))) = true := by kernel_rfl
theorem r22_7 : yes (run (.ofNat (nat_lit 21)) (.ofNat (nat_lit 22)) (.ofNat (nat_lit 7))) = true := by kernel_rfl
theorem r22_8 : yes (run (.ofNat (nat_lit 21)) (.ofNat (nat_lit 22)) (.ofNat (nat_lit 8))) = true := by kernel_rfl
theorem r22_9 : yes (run (.ofNat (nat_lit 21)) (.ofNat (nat_lit 22)) (.ofNat (nat_lit 9))) = true := by kernel_rfl
theorem r22_10 : yes (run (.ofNat (nat_lit 21)) (.ofNat (nat_lit 22)) (.ofNat (nat_lit 10))) = true := by kernel_rfl
theorem r22_11 : yes (run (.ofNat (nat_lit 21)) (.ofNat (nat_lit 22)) (.ofNat (nat_lit 11))) = true := by kernel_rfl
theorem r22_12 : yes (run (.ofNat (nat_lit 21)) (.ofNat (nat_lit 22)) (.ofNat (nat_lit 12))) = true := by kernel_rfl
theorem r22_13 : yes (run (.ofNat (nat_lit 21)) (.ofNat (nat_lit 22)) (.ofNat (nat_lit 13))) = true := by kernel_rfl
theorem r22_14 : yes (run (.ofNat (nat_lit 21)) (.ofNat (nat_lit 22)) (.ofNat (nat_lit 14))) = true := by kernel_rfl
theorem r22_15 : yes (run (.ofNat (nat_lit 21)) (.ofNat (nat_lit 22)) (.ofNat (nat_lit 15))) = true := by kernel_rfl
theorem r22_16 : yes (run (.ofNat (nat_lit 21)) (.ofNat (nat_lit 22)) (.ofNat (nat_lit 16))) = true := by kernel_rfl
end Go.Proofs.YtocficcmdlfafaaGreatDoor.modelRefArrays
