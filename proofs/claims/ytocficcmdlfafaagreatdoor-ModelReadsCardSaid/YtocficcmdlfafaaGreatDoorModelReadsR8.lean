/- gneiss/gneisslaw21.ModelReads: what is reckoned. -/
import Derived.Test.YtocficcmdlfafaaGreatDoorModelReadsR
namespace Go.Proofs.YtocficcmdlfafaaGreatDoor.modelReads
open Go Go.Proofs Go.Ai
theorem r7_0 : yes (run (.xsl (nat_lit 7)) (.ofNat (nat_lit 0)) (.ofNat (nat_lit 7)) (.ofNat (nat_lit 7))) = true := by kernel_rfl
theorem r7_1 : yes (run (.xsl (nat_lit 7)) (.ofNat (nat_lit 1)) (.ofNat (nat_lit 7)) (.ofNat (nat_lit 7))) = true := by kernel_rfl
theorem r7_2 : yes (run (.xsl (nat_lit 7)) (.ofNat (nat_lit 2)) (.ofNat (nat_lit 7)) (.ofNat (nat_lit 7))) = true := by kernel_rfl
theorem r7_3 : yes (run (.xsl (nat_lit 7)) (.ofNat (nat_lit 3)) (.ofNat (nat_lit 7)) (.ofNat (nat_lit 7))) = true := by kernel_rfl
theorem r7_4 : yes (run (.xsl (nat_lit 7)) (.ofNat (nat_lit 4)) (.ofNat (nat_lit 7)) (.ofNat (nat_lit 7))) = true := by kernel_rfl
theorem r7_5 : yes (run (.xsl (nat_lit 7)) (.ofNat (nat_lit 5)) (.ofNat (nat_lit 7)) (.ofNat (nat_lit 7))) = true := by kernel_rfl
theorem r7_6 : yes (run (.xsl (nat_lit 7)) (.ofNat (nat_lit 6)) (.ofNat (nat_lit 7)) (.ofNat (nat_lit 7))) = true := by kernel_rfl
theorem r7_7 : yes (run (.xsl (nat_lit 7)) (.ofNat (nat_lit 7)) (.ofNat (nat_lit 7)) (.ofNat (nat_lit 7))) = true := by kernel_rfl
end Go.Proofs.YtocficcmdlfafaaGreatDoor.modelReads
