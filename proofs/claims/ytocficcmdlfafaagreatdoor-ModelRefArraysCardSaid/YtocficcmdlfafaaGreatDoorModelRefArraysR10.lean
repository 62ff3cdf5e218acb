/- gneiss/gneisslaw21.ModelRefArrays: what is reckoned. -/
import Derived.Test.YtocficcmdlfafaaGreatDoorModelRefArraysR
namespace Go.Proofs.YtocficcmdlfafaaGreatDoor.modelRefArrays
open Go Go.Proofs Go.Ai
set_option maxRecDepth 1000000
theorem r26_20 : yes (run (.ofNat (nat_lit 25)) (.ofNat (nat_lit 26)) (.ofNat (nat_lit 20))) = true := by kernel_rfl
theorem r26_21 : yes (run (.ofNat (nat_lit 25)) (.ofNat (nat_lit 26)) (.ofNat (nat_lit 21))) = true := by kernel_rfl
theorem r26_22 : yes (run (.ofNat (nat_lit 25)) (.ofNat (nat_lit 26)) (.ofNat (nat_lit 22))) = true := by kernel_rfl
theorem r26_23 : yes (run (.ofNat (nat_lit 25)) (.ofNat (nat_lit 26)) (.ofNat (nat_lit 23))) = true := by kernel_rfl
theorem r26_24 : yes (run (.ofNat (nat_lit 25)) (.ofNat (nat_lit 26)) (.ofNat (nat_lit 24))) = true := by kernel_rfl
theorem r26_25 : yes (run (.ofNat (nat_lit 25)) (.ofNat (nat_lit 26)) (.ofNat (nat_lit 25))) = true := by kernel_rfl
theorem r25_0 : yes (run (.ofNat (nat_lit 24)) (.ofNat (nat_lit 25)) (.ofNat (nat_lit 0))) = true := by kernel_rfl
theorem r25_1 : yes (run (.ofNat (nat_lit 24)) (.ofNat (nat_lit 25)) (.ofNat (nat_lit 1))) = true := by kernel_rfl
theorem r25_2 : yes (run (.ofNat (nat_lit 24)) (.ofNat (nat_lit 25)) (.ofNat (nat_lit 2))) = true := by kernel_rfl
theorem r25_3 : yes (run (.ofNat (nat_lit 24)) (.ofNat (nat_lit 25)) (.ofNat (nat_lit 3))) = true := by kernel_rfl
theorem r25_4 : yes (run (.ofNat (nat_lit 24)) (.ofNat (nat_lit 25)) (.ofNat (nat_lit 4))) = true := by kernel_rfl
theorem r25_5 : yes (run (.ofNat (nat_lit 24)) (.ofNat (nat_lit 25)) (.ofNat (nat_lit 5))) = true := by kernel_rfl
theorem r25_6 : yes (run (.ofNat (nat_lit 24)) (.ofNat (nat_lit 25)) (.ofNat (nat_lit 6))) = true := by kernel_rfl
theorem r25_7 : yes (run (.ofNat (nat_lit 24)) (.ofNat (nat_lit 25)) (.ofNat (nat_lit 7))) = true := by kernel_rfl
theorem r25_8 : yes (run (.ofNat (nat_lit 24)) (.ofNat (nat_lit 25)) (.ofNat (nat_lit 8))) = true := by kernel_rfl
theorem r25_9 : yes (run (.ofNat (nat_lit 24)) (.ofNat (nat_lit 25)) (.ofNat (nat_lit 9))) = true := by kernel_rfl
theorem r25_10 : yes (run (.ofNat (nat_lit 24)) (.ofNat (nat_lit 25)) (.ofNat (nat_lit 10))) = true := by kernel_rfl
theorem r25_11 : yes (run (.ofNat (nat_lit 24)) (.ofNat (nat_lit 25)) (.ofNat (nat_lit 11))) = true := by kernel_rfl
theorem r25_12 : yes (run (.ofNat (nat_lit 24)) (.ofNat (nat_lit 25)) (.ofNat (nat_lit 12))) = true := by kernel_rfl
theorem r25_13 : yes (run (.ofNat (nat_lit 24)) (.ofNat (nat_lit 25)) (.ofNat (nat_lit 13))) = true := by kernel_rfl
theorem r25_14 : yes (run (.ofNat (nat_lit 24)) (.ofNat (nat_lit 25)) (.ofNat (nat_lit 14))) = true := by kernel_rfl
theorem r25_15 : yes (run (.ofNat (nat_lit 24)) (.ofNat (nat_lit 25)) (.ofNat (nat_lit 15))) = true := by kernel_rfl
theorem r25_16 : yes (run (.ofNat (nat_lit 24)) (.ofNat (nat_lit 25)) (.ofNat (nat_lit 16))) = true := by kernel_rfl
end Go.Proofs.YtocficcmdlfafaaGreatDoor.modelRefArrays
