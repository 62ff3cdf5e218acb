/- gneiss/gneisslaw21.ModelRefArrays: what is reckoned. -/
import Derived.Test.YtocficcmdlfafaaGreatDoorModelRefArraysR
namespace Go.Proofs.YtocficcmdlfafaaGreatDoor.modelRefArrays
open Go Go.Proofs Go.Ai
set_option maxRecDepth 1000000
theorem r17_1 : yes (run (.ofNat (nat_lit 16)) (.ofNat (nat_lit 17)) (.ofNat (nat_lit 1))) = true := by kernel_rfl
theorem r17_2 : yes (run (.ofNat (nat_lit 16)) (.ofNat (nat_lit 17)) (.ofNat (nat_lit 2))) = true := by kernel_rfl
theorem r17_3 : yes (run (.ofNat (nat_lit 16)) (.ofNat (nat_lit 17)) (.ofNat (nat_lit 3))) = true := by kernel_rfl
theorem r17_4 : yes (run (.ofNat (nat_lit 16)) (.ofNat (nat_lit 17)) (.ofNat (nat_lit 4))) = true := by kernel_rfl
theorem r17_5 : yes (run (.ofNat (nat_lit 16)) (.ofNat (nat_lit 17)) (.ofNat (nat_lit 5))) = true := by kernel_rfl
theorem r17_6 : yes (run (.ofNat (nat_lit 16)) (.ofNat (nat_lit 17)) (.ofNat (nat_lit 6))) = true := by kernel_rfl
theorem r17_7 : yes (run (.ofNat (nat_lit 16)) (.ofNat (nat_lit 17)) (.ofNat (nat_lit 7))) = true := by kernel_rfl
theorem r17_8 : yes (run (.ofNat (nat_lit 16)) (.ofNat (nat_lit 17)) (.ofNat (nat_lit 8))) = true := by kernel_rfl
theorem r17_9 : yes (run (.ofNat (nat_lit 16)) (.ofNat (nat_lit 17)) (.ofNat (nat_lit 9))) = true := by kernel_rfl
theorem r17_10 : yes (run (.ofNat (nat_lit 16)) (.ofNat (nat_lit 17)) (.ofNat (nat_lit 10))) = true := by kernel_rfl
theorem r17_11 : yes (run (.ofNat (nat_lit 16)) (.ofNat (nat_lit 17)) (.ofNat (nat_lit 11))) = true := by kernel_rfl
theorem r17_12 : yes (run (.ofNat (nat_lit 16)) (.ofNat (nat_lit 17)) (.ofNat (nat_lit 12))) = true := by kernel_rfl
theorem r17_13 : yes (run (.ofNat (nat_lit 16)) (.ofNat (nat_lit 17)) (.ofNat (nat_lit 13))) = true := by kernel_rfl
theorem r17_14 : yes (run (.ofNat (nat_lit 16)) (.ofNat (nat_lit 17)) (.ofNat (nat_lit 14))) = true := by kernel_rfl
theorem r17_15 : yes (run (.ofNat (nat_lit 16)) (.ofNat (nat_lit 17)) (.ofNat (nat_lit 15))) = true := by kernel_rfl
theorem r17_16 : yes (run (.ofNat (nat_lit 16)) (.ofNat (nat_lit 17)) (.ofNat (nat_lit 16))) = true := by kernel_rfl
theorem r16_0 : yes (run (.ofNat (nat_lit 15)) (.ofNat (nat_lit 16)) (.ofNat (nat_lit 0))) = true := by kernel_rfl
theorem r16_1 : yes (run (.ofNat (nat_lit 15)) (.ofNat (nat_lit 16)) (.ofNat (nat_lit 1))) = true := by kernel_rfl
theorem r16_2 : yes (run (.ofNat (nat_lit 15)) (.ofNat (nat_lit 16)) (.ofNat (nat_lit 2))) = true := by kernel_rfl
theorem r16_3 : yes (run (.ofNat (nat_lit 15)) (.ofNat (nat_lit 16)) (.ofNat (nat_lit 3))) = true := by kernel_rfl
theorem r16_4 : yes (run (.ofNat (nat_lit 15)) (.ofNat (nat_lit 16)) (.ofNat (nat_lit 4))) = true := by kernel_rfl
theorem r16_5 : yes (run (.ofNat (nat_lit 15)) (.ofNat (nat_lit 16)) (.ofNat (nat_lit 5))) = true := by kernel_rfl
theorem r16_6 : yes (run (.ofNat (nat_lit 15)) (.ofNat (nat_lit 16)) (.ofNat (nat_lit 6))) = true := by kernel_rfl
theorem r16_7 : yes (run (.ofNat (nat_lit 15)) (.ofNat (nat_lit 16)) (.ofNat (nat_lit 7))) = true := by kernel_rfl
theorem r16_8 : yes (run (.ofNat (nat_lit 15)) (.ofNat (nat_lit 16)) (.ofNat (nat_lit 8))) = true := by kernel_rfl
theorem r16_9 : yes (run (.ofNat (nat_lit 15)) (.ofNat (nat_lit 16)) (.ofNat (nat_lit 9))) = true := by kernel_rfl
theorem r16_10 : yes (run (.ofNat (nat_lit 15)) (.ofNat (nat_lit 16)) (.ofNat (nat_lit 10))) = true := by kernel_rfl
theorem r16_11 : yes (run (.ofNat (nat_lit 15)) (.ofNat (nat_lit 16)) (.ofNat (nat_lit 11))) = true := by kernel_rfl
theorem r16_12 : yes (run (.ofNat (nat_lit 15)) (.ofNat (nat_lit 16)) (.ofNat (nat_lit 12))) = true := by kernel_rfl
theorem r16_13 : yes (run (.ofNat (nat_lit 15)) (.ofNat (nat_lit 16)) (.ofNat (nat_lit 13))) = true := by kernel_rfl
theorem r16_14 : yes (run (.ofNat (nat_lit 15)) (.ofNat (nat_lit 16)) (.ofNat (nat_lit 14))) = true := by kernel_rfl
theorem r16_15 : yes (run (.ofNat (nat_lit 15)) (.ofNat (nat_lit 16)) (.ofNat (nat_lit 15))) = true := by kernel_rfl
end Go.Proofs.YtocficcmdlfafaaGreatDoor.modelRefArrays
