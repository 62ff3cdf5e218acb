/- gneiss/gneisslaw21.ModelRefArrays: what is reckoned. -/
import Derived.Test.YtocficcmdlfafaaGreatDoorModelRefArraysR
namespace Go.Proofs.YtocficcmdlfafaaGreatDoor.modelRefArrays
open Go Go.Proofs Go.Ai
set_option maxRecDepth 1000000
theorem r25_17 : yes (run (.ofNat (nat_lit 24)) (.ofNat (nat_lit 25)) (.ofNat (nat_lit 17))) = true := by kernel_rfl
theorem r25_18 : yes (run (.ofNat (nat_lit 24)) (.ofNat (nat_lit 25)) (.ofNat (nat_lit 18))) = true := by kernel_rfl
theorem r25_19 : yes (run (.ofNat (nat_lit 24)) (.ofNat (nat_lit 25)) (.ofNat (nat_lit 19))) = true := by kernel_rfl
theorem r25_20 : yes (run (.ofNat (nat_lit 24)) (.ofNat (nat_lit 25)) (.ofNat (nat_lit 20))) = true := by kernel_rfl
theorem r25_21 : yes (run (.ofNat (nat_lit 24)) (.ofNat (nat_lit 25)) (.ofNat (nat_lit 21))) = true := by kernel_rfl
theorem r25_22 : yes (run (.ofNat (nat_lit 24)) (.ofNat (nat_lit 25)) (.ofNat (nat_lit 22))) = true := by kernel_rfl
theorem r25_23 : yes (run (.ofNat (nat_lit 24)) (.ofNat (nat_lit 25)) (.ofNat (nat_lit 23))) = true := by kernel_rfl
theorem r25_24 : yes (run (.ofNat (nat_lit 24)) (.ofNat (nat_lit 25)) (.ofNat (nat_lit 24))) = true := by kernel_rfl
theorem r24_0 : yes (run (.ofNat (nat_lit 23)) (.ofNat (nat_lit 24)) (.ofNat (nat_lit 0))) = true := by kernel_rfl
theorem r24_1 : yes (run (.ofNat (nat_lit 23)) (.ofNat (nat_lit 24)) (.ofNat (nat_lit 1))) = true := by kernel_rfl
theorem r24_2 : yes (run (.ofNat (nat_lit 23)) (.ofNat (nat_lit 24)) (.ofNat (nat_lit 2))) = true := by kernel_rfl
theorem r24_3 : yes (run (.ofNat (nat_lit 23)) (.ofNat (nat_lit 24)) (.ofNat (nat_lit 3))) = true := by kernel_rfl
theorem r24_4 : yes (run (.ofNat (nat_lit 23)) (.ofNat (nat_lit 24)) (.ofNat (nat_lit 4))) = true := by kernel_rfl
theorem r24_5 : yes (run (.ofNat (nat_lit 23)) (.ofNat (nat_lit 24)) (.ofNat (nat_lit 5))) = true := by kernel_rfl
theorem r24_6 : yes (run (.ofNat (nat_lit 23)) (.ofNat (nat_lit 24)) (.ofNat (nat_lit 6))) = true := by kernel_rfl
theorem r24_7 : yes (run (.ofNat (nat_lit 23)) (.ofNat (nat_lit 24)) (.ofNat (nat_lit 7))) = true := by kernel_rfl
theorem r24_8 : yes (run (.ofNat (nat_lit 23)) (.ofNat (nat_lit 24)) (.ofNat (nat_lit 8))) = true := by kernel_rfl
theorem r24_9 : yes (run (.ofNat (nat_lit 23)) (.ofNat (nat_lit 24)) (.ofNat (nat_lit 9))) = true := by kernel_rfl
theorem r24_10 : yes (run (.ofNat (nat_lit 23)) (.ofNat (nat_lit 24)) (.ofNat (nat_lit 10))) = true := by kernel_rfl
theorem r24_11 : yes (run (.ofNat (nat_lit 23)) (.ofNat (nat_lit 24)) (.ofNat (nat_lit 11))) = true := by kernel_rfl
theorem r24_12 : yes (run (.ofNat (nat_lit 23)) (.ofNat (nat_lit 24)) (.ofNat (nat_lit 12))) = true := by kernel_rfl
theorem r24_13 : yes (run (.ofNat (nat_lit 23)) (.ofNat (nat_lit 24)) (.ofNat (nat_lit 13))) = true := by kernel_rfl
theorem r24_14 : yes (run (.ofNat (nat_lit 23)) (.ofNat (nat_lit 24)) (.ofNat (nat_lit 14))) = true := by kernel_rfl
end Go.Proofs.YtocficcmdlfafaaGreatDoor.modelRefArrays
