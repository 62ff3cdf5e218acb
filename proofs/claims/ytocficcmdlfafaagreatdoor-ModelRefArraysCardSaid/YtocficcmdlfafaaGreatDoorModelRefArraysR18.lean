/- gneiss/gneisslaw21.ModelRefArrays: what is reckoned. -/
import Derived.Test.YtocficcmdlfafaaGreatDoorModelRefArraysR
namespace Go.Proofs.YtocficcmdlfafaaGreatDoor.modelRefArrays
open Go Go.Proofs Go.Ai
set_option maxRecDepth 1000000
theorem r15_0 : yes (run (.ofNat (nat_lit 14)) (.ofNat (nat_lit 15)) (.ofNat (nat_lit 0))) = true := by kernel_rfl
theorem r15_1 : yes (run (.ofNat (nat_lit 14)) (.ofNat (nat_lit 15)) (.ofNat (nat_lit 1))) = true := by kernel_rfl
theorem r15_2 : yes (run (.ofNat (nat_lit 14)) (.ofNat (nat_lit 15)) (.ofNat (nat_lit 2))) = true := by kernel_rfl
theorem r15_3 : yes (run (.ofNat (nat_lit 14)) (.ofNat (nat_lit 15)) (.ofNat (nat_lit 3))) = true := by kernel_rfl
theorem r15_4 : yes (run (.ofNat (nat_lit 14)) (.ofNat (nat_lit 15)) (.ofNat (nat_lit 4))) = true := by kernel_rfl
theorem r15_5 : yes (run (.ofNat (nat_lit 14)) (.ofNat (nat_lit 15)) (.ofNat (nat_lit 5))) = true := by kernel_rfl
theorem r15_6 : yes (run (.ofNat (nat_lit 14)) (.ofNat (nat_lit 15)) (.ofNat (nat_lit 6))) = true := by kernel_rfl
theorem r15_7 : yes (run (.ofNat (nat_lit 14)) (.ofNat (nat_lit 15)) (.ofNat (nat_lit 7))) = true := by kernel_rfl
theorem r15_8 : yes (run (.ofNat (nat_lit 14)) (.ofNat (nat_lit 15)) (.ofNat (nat_lit 8))) = true := by kernel_rfl
theorem r15_9 : yes (run (.ofNat (nat_lit 14)) (.ofNat (nat_lit 15)) (.ofNat (nat_lit 9))) = true := by kernel_rfl
theorem r15_10 : yes (run (.ofNat (nat_lit 14)) (.ofNat (nat_lit 15)) (.ofNat (nat_lit 10))) = true := by kernel_rfl
theorem r15_11 : yes (run (.ofNat (nat_lit 14)) (.ofNat (nat_lit 15)) (.ofNat (nat_lit 11))) = true := by kernel_rfl
theorem r15_12 : yes (run (.ofNat (nat_lit 14)) (.ofNat (nat_lit 15)) (.ofNat (nat_lit 12))) = true := by kernel_rfl
theorem r15_13 : yes (run (.ofNat (nat_lit 14)) (.ofNat (nat_lit 15)) (.ofNat (nat_lit 13))) = true := by kernel_rfl
theorem r15_14 : yes (run (.ofNat (nat_lit 14)) (.ofNat (nat_lit 15)) (.ofNat (nat_lit 14))) = true := by kernel_rfl
theorem r14_0 : yes (run (.ofNat (nat_lit 13)) (.ofNat (nat_lit 14)) (.ofNat (nat_lit 0))) = true := by kernel_rfl
theorem r14_1 : yes (run (.ofNat (nat_lit 13)) (.ofNat (nat_lit 14)) (.ofNat (nat_lit 1))) = true := by kernel_rfl
theorem r14_2 : yes (run (.ofNat (nat_lit 13)) (.ofNat (nat_lit 14)) (.ofNat (nat_lit 2))) = true := by kernel_rfl
theorem r14_3 : yes (run (.ofNat (nat_lit 13)) (.ofNat (nat_lit 14)) (.ofNat (nat_lit 3))) = true := by kernel_rfl
theorem r14_4 : yes (run (.ofNat (nat_lit 13)) (.ofNat (nat_lit 14)) (.ofNat (nat_lit 4))) = true := by kernel_rfl
theorem r14_5 : yes (run (.ofNat (nat_lit 13)) (.ofNat (nat_lit 14)) (.ofNat (nat_lit 5))) = true := by kernel_rfl
theorem r14_6 : yes (run (.ofNat (nat_lit 13)) (.ofNat (nat_lit 14)) (.ofNat (nat_lit 6))) = true := by kernel_rfl
theorem r14_7 : yes (run (.ofNat (nat_lit 13)) (.ofNat (nat_lit 14)) (.ofNat (nat_lit 7))) = true := by kernel_rfl
theorem r14_8 : yes (run (.ofNat (nat_lit 13)) (.ofNat (nat_lit 14)) (.ofNat (nat_lit 8))) = true := by kernel_rfl
theorem r14_9 : yes (run (.ofNat (nat_lit 13)) (.ofNat (nat_lit 14)) (.ofNat (nat_lit 9))) = true := by kernel_rfl
theorem r14_10 : yes (run (.ofNat (nat_lit 13)) (.ofNat (nat_lit 14)) (.ofNat (nat_lit 10))) = true := by kernel_rfl
theorem r14_11 : yes (run (.ofNat (nat_lit 13)) (.ofNat (nat_lit 14)) (.ofNat (nat_lit 11))) = true := by kernel_rfl
theorem r14_12 : yes (run (.ofNat (nat_lit 13)) (.ofNat (nat_lit 14)) (.ofNat (nat_lit 12))) = true := by kernel_rfl
theorem r14_13 : yes (run (.ofNat (nat_lit 13)) (.ofNat (nat_lit 14)) (.ofNat (nat_lit 13))) = true := by kernel_rfl
theorem r13_0 : yes (run (.ofNat (nat_lit 12)) (.ofNat (nat_lit 13)) (.ofNat (nat_lit 0))) = true := by kernel_rfl
theorem r13_1 : yes (run (.ofNat (nat_lit 12)) (.ofNat (nat_lit 13)) (.ofNat (nat_lit 1))) = true := by kernel_rfl
theorem r13_2 : yes (run (.ofNat (nat_lit 12)) (.ofNat (nat_lit 13)) (.ofNat (nat_lit 2))) = true := by kernel_rfl
theorem r13_3 : yes (run (.ofNat (nat_lit 12)) (.ofNat (nat_lit 13)) (.ofNat (nat_lit 3))) = true := by kernel_rfl
theorem r13_4 : yes (run (.ofNat (nat_lit 12)) (.ofNat (nat_lit 13)) (.ofNat (nat_lit 4))) = true := by kernel_rfl
theorem r13_5 : yes (run (.ofNat (nat_lit 12)) (.ofNat (nat_lit 13)) (.ofNat (nat_lit 5))) = true := by kernel_rfl
theorem r13_6 : yes (run (.ofNat (nat_lit 12)) (.ofNat (nat_lit 13)) (.ofNat (nat_lit 6))) = true := by kernel_rfl
theorem r13_7 : yes (run (.ofNat (nat_lit 12)) (.ofNat (nat_lit 13)) (.ofNat (nat_lit 7))) = true := by kernel_rfl
end Go.Proofs.YtocficcmdlfafaaGreatDoor.modelRefArrays
