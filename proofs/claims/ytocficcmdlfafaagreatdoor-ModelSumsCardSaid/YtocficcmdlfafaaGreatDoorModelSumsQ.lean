/- The loop of gneiss/gneisslaw21.ModelSums's steps: what is reckoned. -/
import Derived.Test.YtocficcmdlfafaaGreatDoorModelSumsP
namespace Go.Proofs.YtocficcmdlfafaaGreatDoor.modelSums
open Go Go.RowKit Go.Proofs Go.Ai Go.Proofs.YtocficcmdlfafaaGreatDoor.comp
set_option maxRecDepth 1000000
theorem q0 : stLe cfL (thL th0) nxL tm0 T0 tmE TE = true := by kernel_rfl
theorem qA : stepOk cfA (thL thA) nxL tm0 T0 (itC (nat_lit 12) (FF cfA) tm0 [] ⟨nxL, T0⟩ .no) = true := by kernel_rfl
theorem qK : keysB c5.V tm0 (fun p => p) = true := by kernel_rfl
theorem qL : yes runL = true := by kernel_rfl
theorem r0 : yes (runS (nat_lit 0)) = true := by kernel_rfl
theorem qC : chkC Tryz.prog c5.V lp.1 lp.2 = true := by kernel_rfl
theorem qN : Nat.beq (loopsOf c5.code (bodyOf 5)).length (nat_lit 1) = true := by kernel_rfl
theorem qF : okF Tryz.prog 5 c5 = true := by kernel_rfl
end Go.Proofs.YtocficcmdlfafaaGreatDoor.modelSums
