/- gneiss/gneisslaw21.ModelRefArrays: what is reckoned. -/
import Derived.Test.YtocficcmdlfafaaGreatDoorModelRefArraysR
namespace Go.Proofs.YtocficcmdlfafaaGreatDoor.modelRefArrays
open Go Go.Proofs Go.Ai
set_option maxRecDepth 1000000
theorem r20_0 : yes (run (.ofNat (nat_lit 19)) (.ofNat (nat_lit 20)) (.ofNat (nat_lit 0))) = true := by kernel_rfl
theorem r20_1 : yes (run (.ofNat (nat_lit 19)) (.ofNat (nat_lit 20)) (.ofNat (nat_lit 1))) = true := by kernel_rfl
theorem r20_2 : yes (run (.ofNat (nat_lit 19)) (.ofNat (nat_lit 20)) (.ofNat (nat_lit 2))) = true := by kernel_rfl
theorem r20_3 : yes (run (.ofNat (nat_lit 19)) (.ofNat (nat_lit 20)) (.ofNat (nat_lit 3))) = true := by kernel_rfl
theorem r20_4 : yes (run (.ofNat (nat_lit 19)) (.ofNat (nat_lit 20)) (.ofNat (nat_lit 4))) = true := by kernel_rfl
theorem r20_5 : yes (run (.ofNat (nat_lit 19)) (.ofNat (nat_lit 20)) (.ofNat (nat_lit 5))) = true := by kernel_rfl
theorem r20_6 : yes (run (.ofNat (nat_lit 19)) (.ofNat (nat_lit 20)) (.ofNat (nat_lit 6))) = true := by kernel_rfl
theorem r20_7 : yes (run (.ofNat (nat_lit 19)) (.ofNat (nat_lit 20)) (.ofNat (nat_lit 7))) = true := by kernel_rfl
theorem r20_8 : yes (run (.ofNat (nat_lit 19)) (.ofNat (nat_lit 20)) (.ofNat (nat_lit 8))) = true := by kernel_rfl
theorem r20_9 : yes (run (.ofNat (nat_lit 19)) (.ofNat (nat_lit 20)) (.ofNat (nat_lit 9))) = true := by kernel_rfl
theorem r20_10 : yes (run (.ofNat (nat_lit 19)) (.ofNat (nat_lit 20)) (.ofNat (nat_lit 10))) = true := by kernel_rfl
theorem r20_11 : yes (run (.ofNat (nat_lit 19)) (.ofNat (nat_lit 20)) (.ofNat (nat_lit 11))) = true := by kernel_rfl
theorem r20_12 : yes (run (.ofNat (nat_lit 19)) (.ofNat (nat_lit 20)) (.ofNat (nat_lit 12))) = true := by kernel_rfl
theorem r20_13 : yes (run (.ofNat (nat_lit 19)) (.ofNat (nat_lit 20)) (.ofNat (nat_lit 13))) = true := by kernel_rfl
theorem r20_14 : yes (run (.ofNat (nat_lit 19)) (.ofNat (nat_lit 20)) (.ofNat (nat_lit 14))) = true := by kernel_rfl
theorem r20_15 : yes (run (.ofNat (nat_lit 19)) (.ofNat (nat_lit 20)) (.ofNat (nat_lit 15))) = true := by kernel_rfl
theorem r20_16 : yes (run (.ofNat (nat_lit 19)) (.ofNat (nat_lit 20)) (.ofNat (nat_lit 16))) = true := by kernel_rfl
theorem r20_17 : yes (run (.ofNat (nat_lit 19)) (.ofNat (nat_lit 20)) (.ofNat (nat_lit 17))) = true := by kernel_rfl
theorem r20_18 : yes (run (.ofNat (nat_lit 19)) (.ofNat (nat_lit 20)) (.ofNat (nat_lit 18))) = true := by kernel_rfl
theorem r20_19 : yes (run (.ofNat (nat_lit 19)) (.ofNat (nat_lit 20)) (.ofNat (nat_lit 19))) = true := by kernel_rfl
theorem r19_0 : yes (run (.ofNat (nat_lit 18)) (.ofNat (nat_lit 19)) (.ofNat (nat_lit 0))) = true := by kernel_rfl
theorem r19_1 : yes (run (.ofNat (nat_lit 18)) (.ofNat (nat_lit 19)) (.ofNat (nat_lit 1))) = true := by kernel_rfl
theorem r19_2 : yes (run (.ofNat (nat_lit 18)) (.ofNat (nat_lit 19)) (.ofNat (nat_lit 2))) = true := by kernel_rfl
theorem r19_3 : yes (run (.ofNat (nat_lit 18)) (.ofNat (nat_lit 19)) (.ofNat (nat_lit 3))) = true := by kernel_rfl
theorem r19_4 : yes (run (.ofNat (nat_lit 18)) (.ofNat (nat_lit 19)) (.ofNat (nat_lit 4))) = true := by kernel_rfl
theorem r19_5 : yes (run (.ofNat (nat_lit 18)) (.ofNat (nat_lit 19)) (.ofNat (nat_lit 5))) = true := by kernel_rfl
theorem r19_6 : yes (run (.ofNat (nat_lit 18)) (.ofNat (nat_lit 19)) (.ofNat (nat_lit 6))) = true := by kernel_rfl
theorem r19_7 : yes (run (.ofNat (nat_lit 18)) (.ofNat (nat_lit 19)) (.ofNat (nat_lit 7))) = true := by kernel_rfl
end Go.Proofs.YtocficcmdlfafaaGreatDoor.modelRefArrays
