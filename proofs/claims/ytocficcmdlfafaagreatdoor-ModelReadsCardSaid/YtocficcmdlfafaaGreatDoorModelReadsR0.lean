/- gneiss/gneisslaw21.ModelReads: what is reckoned. -/
import Derived.Test.YtocficcmdlfafaaGreatDoorModelReadsR
namespace Go.Proofs.YtocficcmdlfafaaGreatDoor.modelReads
open Go Go.Proofs Go.Ai
theorem rn_0 : yes (run .sl0 (.ofNat (nat_lit 0)) (.ofNat (nat_lit 0)) (.ofNat (nat_lit 0))) = true := by kernel_rfl
theorem rn_1 : yes (run .sl0 (.ofNat (nat_lit 1)) (.ofNat (nat_lit 0)) (.ofNat (nat_lit 0))) = true := by kernel_rfl
theorem rn_2 : yes (run .sl0 (.ofNat (nat_lit 2)) (.ofNat (nat_lit 0)) (.ofNat (nat_lit 0))) = true := by kernel_rfl
theorem rn_3 : yes (run .sl0 (.ofNat (nat_lit 3)) (.ofNat (nat_lit 0)) (.ofNat (nat_lit 0))) = true := by kernel_rfl
theorem rn_4 : yes (run .sl0 (.ofNat (nat_lit 4)) (.ofNat (nat_lit 0)) (.ofNat (nat_lit 0))) = true := by kernel_rfl
theorem rn_5 : yes (run .sl0 (.ofNat (nat_lit 5)) (.ofNat (nat_lit 0)) (.ofNat (nat_lit 0))) = true := by kernel_rfl
theorem rn_6 : yes (run .sl0 (.ofNat (nat_lit 6)) (.ofNat (nat_lit 0)) (.ofNat (nat_lit 0))) = true := by kernel_rfl
theorem rn_7 : yes (run .sl0 (.ofNat (nat_lit 7)) (.ofNat (nat_lit 0)) (.ofNat (nat_lit 0))) = true := by kernel_rfl
end Go.Proofs.YtocficcmdlfafaaGreatDoor.modelReads
