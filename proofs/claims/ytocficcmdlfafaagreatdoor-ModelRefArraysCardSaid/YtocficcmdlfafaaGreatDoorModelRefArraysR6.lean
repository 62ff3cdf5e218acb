/- gneiss/gneisslaw21.ModelRefArrays: what is reckoned. -/
import Derived.Test.YtocficcmdlfafaaGreatDoorModelRefArraysR
namespace Go.Proofs.YtocficcmdlfafaaGreatDoor.modelRefArrays
open Go Go.Proofs Go.Ai
set_option maxRecDepth 1000000
theorem r29_20 : yes (run (.ofNat (nat_lit 28)) (.ofNat (nat_lit 29)) (.ofNat (nat_lit 20))) = true := by kernel_rfl
theorem r29_21 : yes (run (.ofNat (nat_lit 28)) (.ofNat (nat_lit 29)) (.ofNat (nat_lit 21))) = true := by kernel_rfl
theorem r29_22 : yes (run (.ofNat (nat_lit 28)) (.ofNat (nat_lit 29)) (.ofNat (nat_lit 22))) = true := by kernel_rfl
theorem r29_23 : yes (run (.ofNat (nat_lit 28)) (.ofNat (nat_lit 29)) (.ofNat (nat_lit 23))) = true := by kernel_rfl
theorem r29_24 : yes (run (.ofNat (nat_lit 28)) (.ofNat (nat_lit 29)) (.ofNat (nat_lit 24))) = true := by kernel_rfl
theorem r29_25 : yes (run (.ofNat (nat_lit 28)) (.ofNat (nat_lit 29)) (.ofNat (nat_lit 25))) = true := by kernel_rfl
theorem r29_26 : yes (run (.ofNat (nat_lit 28)) (.ofNat (nat_lit 29)) (.ofNat (nat_lit 26))) = true := by kernel_rfl
theorem r29_27 : yes (run (.ofNat (nat_lit 28)) (.ofNat (nat_lit 29)) (.ofNat (nat_lit 27))) = true := by kernel_rfl
theorem r29_28 : yes (run (.ofNat (nat_lit 28)) (.ofNat (nat_lit 29)) (.ofNat (nat_lit 28))) = true := by kernel_rfl
theorem r28_0 : yes (run (.ofNat (nat_lit 27)) (.ofNat (nat_lit 28)) (.ofNat (nat_lit 0))) = true := by kernel_rfl
theorem r28_1 : yes (run (.ofNat (nat_lit 27)) (.ofNat (nat_lit 28)) (.ofNat (nat_lit 1))) = true := by kernel_rfl
theorem r28_2 : yes (run (.ofNat (nat_lit 27)) (.ofNat (nat_lit 28)) (.ofNat (nat_lit 2))) = true := by kernel_rfl
theorem r28_3 : yes (run (.ofNat (nat_lit 27)) (.ofNat (nat_lit 28)) (.ofNat (nat_lit 3))) = true := by kernel_rfl
theorem r28_4 : yes (run (.ofNat (nat_lit 27)) (.ofNat (nat_lit 28)) (.ofNat (nat_lit 4))) = true := by kernel_rfl
theorem r28_5 : yes (run (.ofNat (nat_lit 27)) (.ofNat (nat_lit 28)) (.ofNat (nat_lit 5))) = true := by kernel_rfl
theorem r28_6 : yes (run (.ofNat (nat_lit 27)) (.ofNat (nat_lit 28)) (.ofNat (nat_lit 6))) = true := by kernel_rfl
theorem r28_7 : yes (run (.ofNat (nat_lit 27)) (.ofNat (nat_lit 28)) (.ofNat (nat_lit 7))) = true := by kernel_rfl
theorem r28_8 : yes (run (.ofNat (nat_lit 27)) (.ofNat (nat_lit 28)) (.ofNat (nat_lit 8))) = true := by kernel_rfl
theorem r28_9 : yes (run (.ofNat (nat_lit 27)) (.ofNat (nat_lit 28)) (.ofNat (nat_lit 9))) = true := by kernel_rfl
theorem r28_10 : yes (run (.ofNat (nat_lit 27)) (.ofNat (nat_lit 28)) (.ofNat (nat_lit 10))) = true := by kernel_rfl
end Go.Proofs.YtocficcmdlfafaaGreatDoor.modelRefArrays
