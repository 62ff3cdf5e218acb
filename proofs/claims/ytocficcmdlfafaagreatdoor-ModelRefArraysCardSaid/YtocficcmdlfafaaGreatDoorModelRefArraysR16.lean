/- gneiss/gneisslaw21.ModelRefArrays: what is reckoned. -/
import Derived.Test.YtocficcmdlfafaaGreatDoorModelRefArraysR
namespace Go.Proofs.YtocficcmdlfafaaGreatDoor.modelRefArrays
open Go Go.Proofs Go.Ai
set_option maxRecDepth 1000000
theorem r19_8 : yes (run (.ofNat (nat_lit 18)) (.ofNat (nat_lit 19)) (.ofNat (nat_lit 8))) = true := by kernel_rfl
theorem r19_9 : yes (run (.ofNat (nat_lit 18)) (.ofNat (nat_lit 19)) (.ofNat (nat_lit 9))) = true := by kernel_rfl
theorem r19_10 : yes (run (.ofNat (nat_lit 18)) (.ofNat (nat_lit 19)) (.ofNat (nat_lit 10))) = true := by kernel_rfl
theorem r19_11 : yes (run (.ofNat (nat_lit 18)) (.ofNat (nat_lit 19)) (.ofNat (nat_lit 11))) = true := by kernel_rfl
theorem r19_12 : yes (run (.ofNat (nat_lit 18)) (.ofNat (nat_lit 19)) (.ofNat (nat_lit 12))) = true := by kernel_rfl
theorem r19_13 : yes (run (.ofNat (nat_lit 18)) (.ofNat (nat_lit 19)) (.ofNat (nat_lit 13))) = true := by kernel_rfl
theorem r19_14 : yes (run (.ofNat (nat_lit 18)) (.ofNat (nat_lit 19)) (.ofNat (nat_lit 14))) = true := by kernel_rfl
theorem r19_15 : yes (run (.ofNat (nat_lit 18)) (.ofNat (nat_lit 19)) (.ofNat (nat_lit 15))) = true := by kernel_rfl
theorem r19_16 : yes (run (.ofNat (nat_lit 18)) (.ofNat (nat_lit 19)) (.ofNat (nat_lit 16))) = true := by kernel_rfl
theorem r19_17 : yes (run (.ofNat (nat_lit 18)) (.ofNat (nat_lit 19)) (.ofNat (nat_lit 17))) = true := by kernel_rfl
theorem r19_18 : yes (run (.ofNat (nat_lit 18)) (.ofNat (nat_lit 19)) (.ofNat (nat_lit 18))) = true := by kernel_rfl
theorem r18_0 : yes (run (.ofNat (nat_lit 17)) (.ofNat (nat_lit 18)) (.ofNat (nat_lit 0))) = true := by kernel_rfl
theorem r18_1 : yes (run (.ofNat (nat_lit 17)) (.ofNat (nat_lit 18)) (.ofNat (nat_lit 1))) = true := by kernel_rfl
theorem r18_2 : yes (run (.ofNat (nat_lit 17)) (.ofNat (nat_lit 18)) (.ofNat (nat_lit 2))) = true := by kernel_rfl
theorem r18_3 : yes (run (.ofNat (nat_lit 17)) (.ofNat (nat_lit 18)) (.ofNat (nat_lit 3))) = true := by kernel_rfl
theorem r18_4 : yes (run (.ofNat (nat_lit 17)) (.ofNat (nat_lit 18)) (.ofNat (nat_lit 4))) = true := by kernel_rfl
theorem r18_5 : yes (run (.ofNat (nat_lit 17)) (.ofNat (nat_lit 18)) (.ofNat (nat_lit 5))) = true := by kernel_rfl
theorem r18_6 : yes (run (.ofNat (nat_lit 17)) (.ofNat (nat_lit 18)) (.ofNat (nat_lit 6))) = true := by kernel_rfl
theorem r18_7 : yes (run (.ofNat (nat_lit 17)) (.ofNat (nat_lit 18)) (.ofNat (nat_lit 7))) = true := by kernel_rfl
theorem r18_8 : yes (run (.ofNat (nat_lit 17)) (.ofNat (nat_lit 18)) (.ofNat (nat_lit 8))) = true := by kernel_rfl
theorem r18_9 : yes (run (.ofNat (nat_lit 17)) (.ofNat (nat_lit 18)) (.ofNat (nat_lit 9))) = true := by kernel_rfl
theorem r18_10 : yes (run (.ofNat (nat_lit 17)) (.ofNat (nat_lit 18)) (.ofNat (nat_lit 10))) = true := by kernel_rfl
theorem r18_11 : yes (run (.ofNat (nat_lit 17)) (.ofNat (nat_lit 18)) (.ofNat (nat_lit 11))) = true := by kernel_rfl
theorem r18_12 : yes (run (.ofNat (nat_lit 17)) (.ofNat (nat_lit 18)) (.ofNat (nat_lit 12))) = true := by kernel_rfl
theorem r18_13 : yes (run (.ofNat (nat_lit 17)) (.ofNat (nat_lit 18)) (.ofNat (nat_lit 13))) = true := by kernel_rfl
theorem r18_14 : yes (run (.ofNat (nat_lit 17)) (.ofNat (nat_lit 18)) (.ofNat (nat_lit 14))) = true := by kernel_rfl
theorem r18_15 : yes (run (.ofNat (nat_lit 17)) (.ofNat (nat_lit 18)) (.ofNat (nat_lit 15))) = true := by kernel_rfl
theorem r18_16 : yes (run (.ofNat (nat_lit 17)) (.ofNat (nat_lit 18)) (.ofNat (nat_lit 16))) = true := by kernel_rfl
theorem r18_17 : yes (run (.ofNat (nat_lit 17)) (.ofNat (nat_lit 18)) (.ofNat (nat_lit 17))) = true := by kernel_rfl
theorem r17_0 : yes (run (.ofNat (nat_lit 16)) (.ofNat (nat_lit 17)) (.ofNat (nat_lit 0))) = true := by kernel_rfl
end Go.Proofs.YtocficcmdlfafaaGreatDoor.modelRefArrays
