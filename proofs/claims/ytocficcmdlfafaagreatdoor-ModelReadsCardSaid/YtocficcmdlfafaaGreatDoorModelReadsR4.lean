/- gneiss/gneisslaw21.ModelReads: what is reckoned. -/
import Derived.Test.YtocficcmdlfafaaGreatDoorModelReadsR
namespace Go.Proofs.YtocficcmdlfafaaGreatDoor.modelReads
open Go Go.Proofs Go.Ai
theorem r3_0 : yes (run (.xsl (nat_lit 3)) (.ofNat (nat_lit 0)) (.ofNat (nat_lit 3)) (.ofNat (nat_lit 3))) = true := by kernel_rfl
theorem r3_1 : yes (run (.xsl (nat_lit 3)) (.ofNat (nat_lit 1)) (.ofNat (nat_lit 3)) (.ofNat (nat_lit 3))) = true := by kernel_rfl
theorem r3_2 : yes (run (.xsl (nat_lit 3)) (.ofNat (nat_lit 2)) (.ofNat (nat_lit 3)) (.ofNat (nat_lit 3))) = true := by kernel_rfl
theorem r3_3 : yes (run (.xsl (nat_lit 3)) (.ofNat (nat_lit 3)) (.ofNat (nat_lit 3)) (.ofNat (nat_lit 3))) = true := by kernel_rfl
theorem r3_4 : yes (run (.xsl (nat_lit 3)) (.ofNat (nat_lit 4)) (.ofNat (nat_lit 3)) (.ofNat (nat_lit 3))) = true := by kernel_rfl
theorem r3_5 : yes (run (.xsl (nat_lit 3)) (.ofNat (nat_lit 5)) (.ofNat (nat_lit 3)) (.ofNat (nat_lit 3))) = true := by kernel_rfl
theorem r3_6 : yes (run (.xsl (nat_lit 3)) (.ofNat (nat_lit 6)) (.ofNat (nat_lit 3)) (.ofNat (nat_lit 3))) = true := by kernel_rfl
theorem r3_7 : yes (run (.xsl (nat_lit 3)) (.ofNat (nat_lit 7)) (.ofNat (nat_lit 3)) (.ofNat (nat_lit 3))) = true := by kernel_rfl
end Go.Proofs.YtocficcmdlfafaaGreatDoor.modelReads
