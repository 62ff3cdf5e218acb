/- gneiss/gneisslaw21.ModelRefArrays: what is reckoned. -/
import Derived.Test.YtocficcmdlfafaaGreatDoorModelRefArraysR
namespace Go.Proofs.YtocficcmdlfafaaGreatDoor.modelRefArrays
open Go Go.Proofs Go.Ai
set_option maxRecDepth 1000000
theorem r9_7 : yes (run (.ofNat (nat_lit 8)) (.ofNat (nat_lit 9)) (.ofNat (nat_lit 7))) = true := by kernel_rfl
theorem r9_8 : yes (run (.ofNat (nat_lit 8)) (.ofNat (nat_lit 9)) (.ofNat (nat_lit 8))) = true := by kernel_rfl
theorem r8_0 : yes (run (.ofNat (nat_lit 7)) (.ofNat (nat_lit 8)) (.ofNat (nat_lit 0))) = true := by kernel_rfl
theorem r8_1 : yes (run (.ofNat (nat_lit 7)) (.ofNat (nat_lit 8)) (.ofNat (nat_lit 1))) = true := by kernel_rfl
theorem r8_2 : yes (run (.ofNat (nat_lit 7)) (.ofNat (nat_lit 8)) (.ofNat (nat_lit 2))) = true := by kernel_rfl
theorem r8_3 : yes (run (.ofNat (nat_lit 7)) (.ofNat (nat_lit 8)) (.ofNat (nat_lit 3))) = true := by kernel_rfl
theorem r8_4 : yes (run (.ofNat (nat_lit 7)) (.ofNat (nat_lit 8)) (.ofNat (nat_lit 4))) = true := by kernel_rfl
theorem r8_5 : yes (run (.ofNat (nat_lit 7)) (.ofNat (nat_lit 8)) (.ofNat (nat_lit 5))) = true := by kernel_rfl
theorem r8_6 : yes (run (.ofNat (nat_lit 7)) (.ofNat (nat_lit 8)) (.ofNat (nat_lit 6))) = true := by kernel_rfl
theorem r8_7 : yes (run (.ofNat (nat_lit 7)) (.ofNat (nat_lit 8)) (.ofNat (nat_lit 7))) = true := by kernel_rfl
theorem r7_0 : yes (run (.ofNat (nat_lit 6)) (.ofNat (nat_lit 7)) (.ofNat (nat_lit 0))) = true := by kernel_rfl
theorem r7_1 : yes (run (.ofNat (nat_lit 6)) (.ofNat (nat_lit 7)) (.ofNat (nat_lit 1))) = true := by kernel_rfl
theorem r7_2 : yes (run (.ofNat (nat_lit 6)) (.ofNat (nat_lit 7)) (.ofNat (nat_lit 2))) = true := by kernel_rfl
theorem r7_3 : yes (run (.ofNat (nat_lit 6)) (.ofNat (nat_lit 7)) (.ofNat (nat_lit 3))) = true := by kernel_rfl
theorem r7_4 : yes (run (.ofNat (nat_lit 6)) (.ofNat (nat_lit 7)) (.ofNat (nat_lit 4))) = true := by kernel_rfl
theorem r7_5 : yes (run (.ofNat (nat_lit 6)) (.ofNat (nat_lit 7)) (.ofNat (nat_lit 5))) = true := by kernel_rfl
theorem r7_6 : yes (run (.ofNat (nat_lit 6)) (.ofNat (nat_lit 7)) (.ofNat (nat_lit 6))) = true := by kernel_rfl
theorem r6_0 : yes (run (.ofNat (nat_lit 5)) (.ofNat (nat_lit 6)) (.ofNat (nat_lit 0))) = true := by kernel_rfl
theorem r6_1 : yes (run (.ofNat (nat_lit 5)) (.ofNat (nat_lit 6)) (.ofNat (nat_lit 1))) = true := by kernel_rfl
theorem r6_2 : yes (run (.ofNat (nat_lit 5)) (.ofNat (nat_lit 6)) (.ofNat (nat_lit 2))) = true := by kernel_rfl
theorem r6_3 : yes (run (.ofNat (nat_lit 5)) (.ofNat (nat_lit 6)) (.ofNat (nat_lit 3))) = true := by kernel_rfl
theorem r6_4 : yes (run (.ofNat (nat_lit 5)) (.ofNat (nat_lit 6)) (.ofNat (nat_lit 4))) = true := by kernel_rfl
theorem r6_5 : yes (run (.ofNat (nat_lit 5)) (.ofNat (nat_lit 6)) (.ofNat (nat_lit 5))) = true := by kernel_rfl
theorem r5_0 : yes (run (.ofNat (nat_lit 4)) (.ofNat (nat_lit 5)) (.ofNat (nat_lit 0))) = true := by kernel_rfl
theorem r5_1 : yes (run (.ofNat (nat_lit 4)) (.ofNat (nat_lit 5)) (.ofNat (nat_lit 1))) = true := by kernel_rfl
theorem r5_2 : yes (run (.ofNat (nat_lit 4)) (.ofNat (nat_lit 5)) (.ofNat (nat_lit 2))) = true := by kernel_rfl
theorem r5_3 : yes (run (.ofNat (nat_lit 4)) (.ofNat (nat_lit 5)) (.ofNat (nat_lit 3))) = true := by kernel_rfl
theorem r5_4 : yes (run (.ofNat (nat_lit 4)) (.ofNat (nat_lit 5)) (.ofNat (nat_lit 4))) = true := by kernel_rfl
theorem r4_0 : yes (run (.ofNat (nat_lit 3)) (.ofNat (nat_lit 4)) (.ofNat (nat_lit 0))) = true := by kernel_rfl
theorem r4_1 : yes (run (.ofNat (nat_lit 3)) (.ofNat (nat_lit 4)) (.ofNat (nat_lit 1))) = true := by kernel_rfl
theorem r4_2 : yes (run (.ofNat (nat_lit 3)) (.ofNat (nat_lit 4)) (.ofNat (nat_lit 2))) = true := by kernel_rfl
theorem r4_3 : yes (run (.ofNat (nat_lit 3)) (.ofNat (nat_lit 4)) (.ofNat (nat_lit 3))) = true := by kernel_rfl
theorem r3_0 : yes (run (.ofNat (nat_lit 2)) (.ofNat (nat_lit 3)) (.ofNat (nat_lit 0))) = true := by kernel_rfl
theorem r3_1 : yes (run (.ofNat (nat_lit 2)) (.ofNat (nat_lit 3)) (.ofNat (nat_lit 1))) = true := by kernel_rfl
theorem r3_2 : yes (run (.ofNat (nat_lit 2)) (.ofNat (nat_lit 3)) (.ofNat (nat_lit 2))) = true := by kernel_rfl
theorem r2_0 : yes (run (.ofNat (nat_lit 1)) (.ofNat (nat_lit 2)) (.ofNat (nat_lit 0))) = true := by kernel_rfl
theorem r2_1 : yes (run (.ofNat (nat_lit 1)) (.ofNat (nat_lit 2)) (.ofNat (nat_lit 1))) = true := by kernel_rfl
theorem r1_0 : yes (run (.ofNat (nat_lit 0)) (.ofNat (nat_lit 1)) (.ofNat (nat_lit 0))) = true := by kernel_rfl
end Go.Proofs.YtocficcmdlfafaaGreatDoor.modelRefArrays
