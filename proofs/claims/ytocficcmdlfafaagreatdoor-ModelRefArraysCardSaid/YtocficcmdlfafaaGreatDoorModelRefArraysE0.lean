/- gneiss/gneisslaw21.ModelRefArrays: what is reckoned. -/
import Derived.Test.YtocficcmdlfafaaGreatDoorModelRefArraysR
namespace Go.Proofs.YtocficcmdlfafaaGreatDoor.modelRefArrays
open Go Go.Proofs Go.Ai
set_option maxRecDepth 1000000
theorem f1 : fact (.ofNat (nat_lit 0)) (.ofNat (nat_lit 1)) = true := by kernel_rfl
theorem f2 : fact (.ofNat (nat_lit 1)) (.ofNat (nat_lit 2)) = true := by kernel_rfl
theorem f3 : fact (.ofNat (nat_lit 2)) (.ofNat (nat_lit 3)) = true := by kernel_rfl
theorem f4 : fact (.ofNat (nat_lit 3)) (.ofNat (nat_lit 4)) = true := by kernel_rfl
theorem f5 : fact (.ofNat (nat_lit 4)) (.ofNat (nat_lit 5)) = true := by kernel_rfl
theorem f6 : fact (.ofNat (nat_lit 5)) (.ofNat (nat_lit 6)) = true := by kernel_rfl
theorem f7 : fact (.ofNat (nat_lit 6)) (.ofNat (nat_lit 7)) = true := by kernel_rfl
theorem f8 : fact (.ofNat (nat_lit 7)) (.ofNat (nat_lit 8)) = true := by kernel_rfl
theorem f9 : fact (.ofNat (nat_lit 8)) (.ofNat (nat_lit 9)) = true := by kernel_rfl
theorem f10 : fact (.ofNat (nat_lit 9)) (.ofNat (nat_lit 10)) = true := by kernel_rfl
theorem f11 : fact (.ofNat (nat_lit 10)) (.ofNat (nat_lit 11)) = true := by kernel_rfl
theorem f12 : fact (.ofNat (nat_lit 11)) (.ofNat (nat_lit 12)) = true := by kernel_rfl
theorem f13 : fact (.ofNat (nat_lit 12)) (.ofNat (nat_lit 13)) = true := by kernel_rfl
theorem f14 : fact (.ofNat (nat_lit 13)) (.ofNat (nat_lit 14)) = true := by kernel_rfl
theorem f15 : fact (.ofNat (nat_lit 14)) (.ofNat (nat_lit 15)) = true := by kernel_rfl
theorem f16 : fact (.ofNat (nat_lit 15)) (.ofNat (nat_lit 16)) = true := by kernel_rfl
end Go.Proofs.YtocficcmdlfafaaGreatDoor.modelRefArrays
