/- gneiss/gneisslaw21.ModelReads: what is reckoned. -/
import Derived.Test.YtocficcmdlfafaaGreatDoorModelReadsR
namespace Go.Proofs.YtocficcmdlfafaaGreatDoor.modelReads
open Go Go.Proofs Go.Ai
theorem r9_0 : yes (run (.xsl (nat_lit 9)) (.ofNat (nat_lit 0)) (.ofNat (nat_lit 9)) (.ofNat (nat_lit 9223372036854775807))) = true := by kernel_rfl
theorem r9_1 : yes (run (.xsl (nat_lit 9)) (.ofNat (nat_lit 1)) (.ofNat (nat_lit 9)) (.ofNat (nat_lit 9223372036854775807))) = true := by kernel_rfl
theorem r9_2 : yes (run (.xsl (nat_lit 9)) (.ofNat (nat_lit 2)) (.ofNat (nat_lit 9)) (.ofNat (nat_lit 9223372036854775807))) = true := by kernel_rfl
theorem r9_3 : yes (run (.xsl (nat_lit 9)) (.ofNat (nat_lit 3)) (.ofNat (nat_lit 9)) (.ofNat (nat_lit 9223372036854775807))) = true := by kernel_rfl
theorem r9_4 : yes (run (.xsl (nat_lit 9)) (.ofNat (nat_lit 4)) (.ofNat (nat_lit 9)) (.ofNat (nat_lit 9223372036854775807))) = true := by kernel_rfl
theorem r9_5 : yes (run (.xsl (nat_lit 9)) (.ofNat (nat_lit 5)) (.ofNat (nat_lit 9)) (.ofNat (nat_lit 9223372036854775807))) = true := by kernel_rfl
theorem r9_6 : yes (run (.xsl (nat_lit 9)) (.ofNat (nat_lit 6)) (.ofNat (nat_lit 9)) (.ofNat (nat_lit 9223372036854775807))) = true := by kernel_rfl
theorem r9_7 : yes (run (.xsl (nat_lit 9)) (.ofNat (nat_lit 7)) (.ofNat (nat_lit 9)) (.ofNat (nat_lit 9223372036854775807))) = true := by kernel_rfl
end Go.Proofs.YtocficcmdlfafaaGreatDoor.modelReads
