/- gneiss/gneisslaw21.ModelRefArrays: what is reckoned. -/
import Derived.Test.YtocficcmdlfafaaGreatDoorModelRefArraysR
namespace Go.Proofs.YtocficcmdlfafaaGreatDoor.modelRefArrays
open Go Go.Proofs Go.Ai
set_option maxRecDepth 1000000
theorem r13_8 : yes (run (.ofNat (nat_lit 12)) (.ofNat (nat_lit 13)) (.ofNat (nat_lit 8))) = true := by kernel_rfl
theorem r13_9 : yes (run (.ofNat (nat_lit 12)) (.ofNat (nat_lit 13)) (.ofNat (nat_lit 9))) = true := by kernel_rfl
theorem r13_10 : yes (run (.ofNat (nat_lit 12)) (.ofNat (nat_lit 13)) (.ofNat (nat_lit 10))) = true := by kernel_rfl
theorem r13_11 : yes (run (.ofNat (nat_lit 12)) (.ofNat (nat_lit 13)) (.ofNat (nat_lit 11))) = true := by kernel_rfl
theorem r13_12 : yes (run (.ofNat (nat_lit 12)) (.ofNat (nat_lit 13)) (.ofNat (nat_lit 12))) = true := by kernel_rfl
theorem r12_0 : yes (run (.ofNat (nat_lit 11)) (.ofNat (nat_lit 12)) (.ofNat (nat_lit 0))) = true := by kernel_rfl
theorem r12_1 : yes (run (.ofNat (nat_lit 11)) (.ofNat (nat_lit 12)) (.ofNat (nat_lit 1))) = true := by kernel_rfl
theorem r12_2 : yes (run (.ofNat (nat_lit 11)) (.ofNat (nat_lit 12)) (.ofNat (nat_lit 2))) = true := by kernel_rfl
theorem r12_3 : yes (run (.ofNat (nat_lit 11)) (.ofNat (nat_lit 12)) (.ofNat (nat_lit 3))) = true := by kernel_rfl
theorem r12_4 : yes (run (.ofNat (nat_lit 11)) (.ofNat (nat_lit 12)) (.ofNat (nat_lit 4))) = true := by kernel_rfl
theorem r12_5 : yes (run (.ofNat (nat_lit 11)) (.ofNat (nat_lit 12)) (.ofNat (nat_lit 5))) = true := by kernel_rfl
theorem r12_6 : yes (run (.ofNat (nat_lit 11)) (.ofNat (nat_lit 12)) (.ofNat (nat_lit 6))) = true := by kernel_rfl
theorem r12_7 : yes (run (.ofNat (nat_lit 11)) (.ofNat (nat_lit 12)) (.ofNat (nat_lit 7))) = true := by kernel_rfl
theorem r12_8 : yes (run (.ofNat (nat_lit 11)) (.ofNat (nat_lit 12)) (.ofNat (nat_lit 8))) = true := by kernel_rfl
theorem r12_9 : yes (run (.ofNat (nat_lit 11)) (.ofNat (nat_lit 12)) (.ofNat (nat_lit 9))) = true := by kernel_rfl
theorem r12_10 : yes (run (.ofNat (nat_lit 11)) (.ofNat (nat_lit 12)) (.ofNat (nat_lit 10))) = true := by kernel_rfl
theorem r12_11 : yes (run (.ofNat (nat_lit 11)) (.ofNat (nat_lit 12)) (.ofNat (nat_lit 11))) = true := by kernel_rfl
theorem r11_0 : yes (run (.ofNat (nat_lit 10)) (.ofNat (nat_lit 11)) (.ofNat (nat_lit 0))) = true := by kernel_rfl
theorem r11_1 : yes (run (.ofNat (nat_lit 10)) (.ofNat (nat_lit 11)) (.ofNat (nat_lit 1))) = true := by kernel_rfl
theorem r11_2 : yes (run (.ofNat (nat_lit 10)) (.ofNat (nat_lit 11)) (.ofNat (nat_lit 2))) = true := by kernel_rfl
theorem r11_3 : yes (run (.ofNat (nat_lit 10)) (.ofNat (nat_lit 11)) (.ofNat (nat_lit 3))) = true := by kernel_rfl
theorem r11_4 : yes (run (.ofNat (nat_lit 10)) (.ofNat (nat_lit 11)) (.ofNat (nat_lit 4))) = true := by kernel_rfl
theorem r11_5 : yes (run (.ofNat (nat_lit 10)) (.ofNat (nat_lit 11)) (.ofNat (nat_lit 5))) = true := by kernel_rfl
theorem r11_6 : yes (run (.ofNat (nat_lit 10)) (.ofNat (nat_lit 11)) (.ofNat (nat_lit 6))) = true := by kernel_rfl
theorem r11_7 : yes (run (.ofNat (nat_lit 10)) (.ofNat (nat_lit 11)) (.ofNat (nat_lit 7))) = true := by kernel_rfl
theorem r11_8 : yes (run (.ofNat (nat_lit 10)) (.ofNat (nat_lit 11)) (.ofNat (nat_lit 8))) = true := by kernel_rfl
theorem r11_9 : yes (run (.ofNat (nat_lit 10)) (.ofNat (nat_lit 11)) (.ofNat (nat_lit 9))) = true := by kernel_rfl
theorem r11_10 : yes (run (.ofNat (nat_lit 10)) (.ofNat (nat_lit 11)) (.ofNat (nat_lit 10))) = true := by kernel_rfl
theorem r10_0 : yes (run (.ofNat (nat_lit 9)) (.ofNat (nat_lit 10)) (.ofNat (nat_lit 0))) = true := by kernel_rfl
theorem r10_1 : yes (run (.ofNat (nat_lit 9)) (.ofNat (nat_lit 10)) (.ofNat (nat_lit 1))) = true := by kernel_rfl
theorem r10_2 : yes (run (.ofNat (nat_lit 9)) (.ofNat (nat_lit 10)) (.ofNat (nat_lit 2))) = true := by kernel_rfl
theorem r10_3 : yes (run (.ofNat (nat_lit 9)) (.ofNat (nat_lit 10)) (.ofNat (nat_lit 3))) = true := by kernel_rfl
theorem r10_4 : yes (run (.ofNat (nat_lit 9)) (.ofNat (nat_lit 10)) (.ofNat (nat_lit 4))) = true := by kernel_rfl
theorem r10_5 : yes (run (.ofNat (nat_lit 9)) (.ofNat (nat_lit 10)) (.ofNat (nat_lit 5))) = true := by kernel_rfl
theorem r10_6 : yes (run (.ofNat (nat_lit 9)) (.ofNat (nat_lit 10)) (.ofNat (nat_lit 6))) = true := by kernel_rfl
theorem r10_7 : yes (run (.ofNat (nat_lit 9)) (.ofNat (nat_lit 10)) (.ofNat (nat_lit 7))) = true := by kernel_rfl
theorem r10_8 : yes (run (.ofNat (nat_lit 9)) (.ofNat (nat_lit 10)) (.ofNat (nat_lit 8))) = true := by kernel_rfl
theorem r10_9 : yes (run (.ofNat (nat_lit 9)) (.ofNat (nat_lit 10)) (.ofNat (nat_lit 9))) = true := by kernel_rfl
theorem r9_0 : yes (run (.ofNat (nat_lit 8)) (.ofNat (nat_lit 9)) (.ofNat (nat_lit 0))) = true := by kernel_rfl
theorem r9_1 : yes (run (.ofNat (nat_lit 8)) (.ofNat (nat_lit 9)) (.ofNat (nat_lit 1))) = true := by kernel_rfl
theorem r9_2 : yes (run (.ofNat (nat_lit 8)) (.ofNat (nat_lit 9)) (.ofNat (nat_lit 2))) = true := by kernel_rfl
theorem r9_3 : yes (run (.ofNat (nat_lit 8)) (.ofNat (nat_lit 9)) (.ofNat (nat_lit 3))) = true := by kernel_rfl
theorem r9_4 : yes (run (.ofNat (nat_lit 8)) (.ofNat (nat_lit 9)) (.ofNat (nat_lit 4))) = true := by kernel_rfl
theorem r9_5 : yes (run (.ofNat (nat_lit 8)) (.ofNat (nat_lit 9)) (.ofNat (nat_lit 5))) = true := by kernel_rfl
theorem r9_6 : yes (run (.ofNat (nat_lit 8)) (.ofNat (nat_lit 9)) (.ofNat (nat_lit 6))) = true := by kernel_rfl
end Go.Proofs.YtocficcmdlfafaaGreatDoor.modelRefArrays
