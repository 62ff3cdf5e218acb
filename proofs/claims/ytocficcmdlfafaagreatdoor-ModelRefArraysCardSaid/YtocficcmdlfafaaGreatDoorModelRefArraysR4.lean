/- gneiss/gneisslaw21.ModelRefArrays: what is reckoned. -/
import Derived.Test.YtocficcmdlfafaaGreatDoorModelRefArraysR
namespace Go.Proofs.YtocficcmdlfafaaGreatDoor.modelRefArrays
open Go Go.Proofs Go.Ai
set_option maxRecDepth 1000000
theorem r30_11 : yes (run (.ofNat (nat_lit 29)) (.ofNat (nat_lit 30)) (.ofNat (nat_lit 11))) = true := by kernel_rfl
theorem r30_12 : yes (run (.ofNat (nat_lit 29)) (.ofNat (nat_lit 30)) (.ofNat (nat_lit 12))) = true := by kernel_rfl
theorem r30_13 : yes (run (.ofNat (nat_lit 29)) (.ofNat (nat_lit 30)) (.ofNat (nat_lit 13))) = true := by kernel_rfl
theorem r30_14 : yes (run (.ofNat (nat_lit 29)) (.ofNat (nat_lit 30)) (.ofNat (nat_lit 14))) = true := by kernel_rfl
theorem r30_15 : yes (run (.ofNat (nat_lit 29)) (.ofNat (nat_lit 30)) (.ofNat (nat_lit 15))) = true := by kernel_rfl
theorem r30_16 : yes (run (.ofNat (nat_lit 29)) (.ofNat (nat_lit 30)) (.ofNat (nat_lit 16))) = true := by kernel_rfl
theorem r30_17 : yes (run (.ofNat (nat_lit 29)) (.ofNat (nat_lit 30)) (.ofNat (nat_lit 17))) = true := by kernel_rfl
theorem r30_18 : yes (run (.ofNat (nat_lit 29)) (.ofNat (nat_lit 30)) (.ofNat (nat_lit 18))) = true := by kernel_rfl
theorem r30_19 : yes (run (.ofNat (nat_lit 29)) (.ofNat (nat_lit 30)) (.ofNat (nat_lit 19))) = true := by kernel_rfl
theorem r30_20 : yes (run (.ofNat (nat_lit 29)) (.ofNat (nat_lit 30)) (.ofNat (nat_lit 20))) = true := by kernel_rfl
theorem r30_21 : yes (run (.ofNat (nat_lit 29)) (.ofNat (nat_lit 30)) (.ofNat (nat_lit 21))) = true := by kernel_rfl
theorem r30_22 : yes (run (.ofNat (nat_lit 29)) (.ofNat (nat_lit 30)) (.ofNat (nat_lit 22))) = true := by kernel_rfl
theorem r30_23 : yes (run (.ofNat (nat_lit 29)) (.ofNat (nat_lit 30)) (.ofNat (nat_lit 23))) = true := by kernel_rfl
theorem r30_24 : yes (run (.ofNat (nat_lit 29)) (.ofNat (nat_lit 30)) (.ofNat (nat_lit 24))) = true := by kernel_rfl
theorem r30_25 : yes (run (.ofNat (nat_lit 29)) (.ofNat (nat_lit 30)) (.ofNat (nat_lit 25))) = true := by kernel_rfl
theorem r30_26 : yes (run (.ofNat (nat_lit 29)) (.ofNat (nat_lit 30)) (.ofNat (nat_lit 26))) = true := by kernel_rfl
theorem r30_27 : yes (run (.ofNat (nat_lit 29)) (.ofNat (nat_lit 30)) (.ofNat (nat_lit 27))) = true := by kernel_rfl
theorem r30_28 : yes (run (.ofNat (nat_lit 29)) (.ofNat (nat_lit 30)) (.ofNat (nat_lit 28))) = true := by kernel_rfl
theorem r30_29 : yes (run (.ofNat (nat_lit 29)) (.ofNat (nat_lit 30)) (.ofNat (nat_lit 29))) = true := by kernel_rfl
end Go.Proofs.YtocficcmdlfafaaGreatDoor.modelRefArrays
