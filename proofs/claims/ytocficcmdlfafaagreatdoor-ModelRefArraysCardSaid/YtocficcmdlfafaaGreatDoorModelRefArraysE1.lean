/- gneiss/gneisslaw21.ModelRefArrays: what is reckoned. -/
import Derived.Test.YtocficcmdlfafaaGreatDoorModelRefArraysR
namespace Go.Proofs.YtocficcmdlfafaaGreatDoor.modelRefArrays
open Go Go.Proofs Go.Ai
set_option maxRecDepth 1000000
theorem f17 : fact (.ofNat (nat_lit 16)) (.ofNat (nat_lit 17)) = true := by kernel_rfl
theorem f18 : fact (.ofNat (nat_lit 17)) (.ofNat (nat_lit 18)) = true := by kernel_rfl
theorem f19 : fact (.ofNat (nat_lit 18)) (.ofNat (nat_lit 19)) = true := by kernel_rfl
theorem f20 : fact (.ofNat (nat_lit 19)) (.ofNat (nat_lit 20)) = true := by kernel_rfl
theorem f21 : fact (.ofNat (nat_lit 20)) (.ofNat (nat_lit 21)) = true := by kernel_rfl
theorem f22 : fact (.ofNat (nat_lit 21)) (.ofNat (nat_lit 22)) = true := by kernel_rfl
theorem f23 : fact (.ofNat (nat_lit 22)) (.ofNat (nat_lit 23)) = true := by kernel_rfl
theorem f24 : fact (.ofNat (nat_lit 23)) (.ofNat (nat_lit 24)) = true := by kernel_rfl
theorem f25 : fact (.ofNat (nat_lit 24)) (.ofNat (nat_lit 25)) = true := by kernel_rfl
theorem f26 : fact (.ofNat (nat_lit 25)) (.ofNat (nat_lit 26)) = true := by kernel_rfl
theorem f27 : fact (.ofNat (nat_lit 26)) (.ofNat (nat_lit 27)) = true := by kernel_rfl
theorem f28 : fact (.ofNat (nat_lit 27)) (.ofNat (nat_lit 28)) = true := by kernel_rfl
theorem f29 : fact (.ofNat (nat_lit 28)) (.ofNat (nat_lit 29)) = true := by kernel_rfl
theorem f30 : fact (.ofNat (nat_lit 29)) (.ofNat (nat_lit 30)) = true := by kernel_rfl
theorem f31 : fact (.ofNat (nat_lit 30)) (.ofNat (nat_lit 31)) = true := by kernel_rfl
theorem f32 : fact (.ofNat (nat_lit 31)) (.ofNat (nat_lit 32)) = true := by kernel_rfl
end Go.Proofs.YtocficcmdlfafaaGreatDoor.modelRefArrays
