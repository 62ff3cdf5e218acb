/- gneiss/gneisslaw21.ModelRefArrays: what is reckoned. -/
import Derived.Test.YtocficcmdlfafaaGreatDoorModelRefArraysR
namespace Go.Proofs.YtocficcmdlfafaaGreatDoor.modelRefArrays
open Go Go.Proofs Go.Ai
set_option maxRecDepth 1000000
theorem r24_15 : yes (run (.ofNat (nat_lit 23)) (.ofNat (nat_lit 24)) (.ofNat (nat_lit 15))) = true := by kernel_rfl
theorem r24_16 : yes (run (.ofNat (nat_lit 23)) (.ofNat (nat_lit 24)) (.ofNat (nat_lit 16))) = true := by kernel_rfl
theorem r24_17 : yes (run (.ofNat (nat_lit 23)) (.ofNat (nat_lit 24)) (.ofNat (nat_lit 17))) = true := by kernel_rfl
theorem r24_18 : yes (run (.ofNat (nat_lit 23)) (.ofNat (nat_lit 24)) (.ofNat (nat_lit 18))) = true := by kernel_rfl
theorem r24_19 : yes (run (.ofNat (nat_lit 23)) (.ofNat (nat_lit 24)) (.ofNat (nat_lit 19))) = true := by kernel_rfl
theorem r24_20 : yes (run (.ofNat (nat_lit 23)) (.ofNat (nat_lit 24)) (.ofNat (nat_lit 20))) = true := by kernel_rfl
theorem r24_21 : yes (run (.ofNat (nat_lit 23)) (.ofNat (nat_lit 24)) (.ofNat (nat_lit 21))) = true := by kernel_rfl
theorem r24_22 : yes (run (.ofNat (nat_lit 23)) (.ofNat (nat_lit 24)) (.ofNat (nat_lit 22))) = true := by kernel_rfl
theorem r24_23 : yes (run (.ofNat (nat_lit 23)) (.ofNat (nat_lit 24)) (.ofNat (nat_lit 23))) = true := by kernel_rfl
theorem r23_0 : yes (run (.ofNat (nat_lit 22)) (.ofNat (nat_lit 23)) (.ofNat (nat_lit 0))) = true := by kernel_rfl
theorem r23_1 : yes (run (.ofNat (nat_lit 22)) (.ofNat (nat_lit 23)) (.ofNat (nat_lit 1))) = true := by kernel_rfl
theorem r23_2 : yes (run (.ofNat (nat_lit 22)) (.ofNat (nat_lit 23)) (.ofNat (nat_lit 2))) = true := by kernel_rfl
theorem r23_3 : yes (run (.ofNat (nat_lit 22)) (.ofNat (nat_lit 23)) (.ofNat (nat_lit 3))) = true := by kernel_rfl
theorem r23_4 : yes (run (.ofNat (nat_lit 22)) (.ofNat (nat_lit 23)) (.ofNat (nat_lit 4))) = true := by kernel_rfl
theorem r23_5 : yes (run (.ofNat (nat_lit 22)) (.ofNat (nat_lit 23)) (.ofNat (nat_lit 5))) = true := by kernel_rfl
theorem r23_6 : yes (run (.ofNat (nat_lit 22)) (.ofNat (nat_lit 23)) (.ofNat (nat_lit 6))) = true := by kernel_rfl
theorem r23_7 : yes (run (.ofNat (nat_lit 22)) (.ofNat (nat_lit 23)) (.ofNat (nat_lit 7))) = true := by kernel_rfl
theorem r23_8 : yes (run (.ofNat (nat_lit 22)) (.ofNat (nat_lit 23)) (.ofNat (nat_lit 8))) = true := by kernel_rfl
theorem r23_9 : yes (run (.ofNat (nat_lit 22)) (.ofNat (nat_lit 23)) (.ofNat (nat_lit 9))) = true := by kernel_rfl
theorem r23_10 : yes (run (.ofNat (nat_lit 22)) (.ofNat (nat_lit 23)) (.ofNat (nat_lit 10))) = true := by kernel_rfl
theorem r23_11 : yes (run (.ofNat (nat_lit 22)) (.ofNat (nat_lit 23)) (.ofNat (nat_lit 11))) = true := by kernel_rfl
theorem r23_12 : yes (run (.ofNat (nat_lit 22)) (.ofNat (nat_lit 23)) (.ofNat (nat_lit 12))) = true := by kernel_rfl
theorem r23_13 : yes (run (.ofNat (nat_lit 22)) (.ofNat (nat_lit 23)) (.ofNat (nat_lit 13))) = true := by kernel_rfl
theorem r23_14 : yes (run (.ofNat (nat_lit 22)) (.ofNat (nat_lit 23)) (.ofNat (nat_lit 14))) = true := by kernel_rfl
end Go.Proofs.YtocficcmdlfafaaGreatDoor.modelRefArrays
