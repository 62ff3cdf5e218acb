/- gneiss/gneisslaw21.ModelRefArrays: what is reckoned. -/
import Derived.Test.YtocficcmdlfafaaGreatDoorModelRefArraysR
namespace Go.Proofs.YtocficcmdlfafaaGreatDoor.modelRefArrays
open Go Go.Proofs Go.Ai
set_option maxRecDepth 1000000
theorem r32_0 : yes (run (.ofNat (nat_lit 31)) (.ofNat (nat_lit 32)) (.ofNat (nat_lit 0))) = true := by kernel_rfl
theorem r32_1 : yes (run (.ofNat (nat_lit 31)) (.ofNat (nat_lit 32)) (.ofNat (nat_lit 1))) = true := by kernel_rfl
theorem r32_2 : yes (run (.ofNat (nat_lit 31)) (.ofNat (nat_lit 32)) (.ofNat (nat_lit 2))) = true := by kernel_rfl
theorem r32_3 : yes (run (.ofNat (nat_lit 31)) (.ofNat (nat_lit 32)) (.ofNat (nat_lit 3))) = true := by kernel_rfl
theorem r32_4 : yes (run (.ofNat (nat_lit 31)) (.ofNat (nat_lit 32)) (.ofNat (nat_lit 4))) = true := by kernel_rfl
theorem r32_5 : yes (run (.ofNat (nat_lit 31)) (.ofNat (nat_lit 32)) (.ofNat (nat_lit 5))) = true := by kernel_rfl
theorem r32_6 : yes (run (.ofNat (nat_lit 31)) (.ofNat (nat_lit 32)) (.ofNat (nat_lit 6))) = true := by kernel_rfl
theorem r32_7 : yes (run (.ofNat (nat_lit 31)) (.ofNat (nat_lit 32)) (.ofNat (nat_lit 7))) = true := by kernel_rfl
theorem r32_8 : yes (run (.ofNat (nat_lit 31)) (.ofNat (nat_lit 32)) (.ofNat (nat_lit 8))) = true := by kernel_rfl
theorem r32_9 : yes (run (.ofNat (nat_lit 31)) (.ofNat (nat_lit 32)) (.ofNat (nat_lit 9))) = true := by kernel_rfl
theorem r32_10 : yes (run (.ofNat (nat_lit 31)) (.ofNat (nat_lit 32)) (.ofNat (nat_lit 10))) = true := by kernel_rfl
theorem r32_11 : yes (run (.ofNat (nat_lit 31)) (.ofNat (nat_lit 32)) (.ofNat (nat_lit 11))) = true := by kernel_rfl
theorem r32_12 : yes (run (.ofNat (nat_lit 31)) (.ofNat (nat_lit 32)) (.ofNat (nat_lit 12))) = true := by kernel_rfl
theorem r32_13 : yes (run (.ofNat (nat_lit 31)) (.ofNat (nat_lit 32)) (.ofNat (nat_lit 13))) = true := by kernel_rfl
theorem r32_14 : yes (run (.ofNat (nat_lit 31)) (.ofNat (nat_lit 32)) (.ofNat (nat_lit 14))) = true := by kernel_rfl
theorem r32_15 : yes (run (.ofNat (nat_lit 31)) (.ofNat (nat_lit 32)) (.ofNat (nat_lit 15))) = true := by kernel_rfl
theorem r32_16 : yes (run (.ofNat (nat_lit 31)) (.ofNat (nat_lit 32)) (.ofNat (nat_lit 16))) = true := by kernel_rfl
theorem r32_17 : yes (run (.ofNat (nat_lit 31)) (.ofNat (nat_lit 32)) (.ofNat (nat_lit 17))) = true := by kernel_rfl
end Go.Proofs.YtocficcmdlfafaaGreatDoor.modelRefArrays
