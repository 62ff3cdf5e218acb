/- gneiss/gneisslaw21.ModelSums: what is reckoned. -/
import Derived.Test.YtocficcmdlfafaaGreatDoorModelSumsR
namespace Go.Proofs.YtocficcmdlfafaaGreatDoor.modelSums
open Go Go.Proofs Go.Ai
theorem e0 : outOk (cfB [(.bin .and .i64 (.var 0) (.lit 63), (.ofNat (nat_lit 0)), (.ofNat (nat_lit 63))), (.bin .and .i64 (.var 1) (.lit 65535), (.ofNat (nat_lit 0)), (.ofNat (nat_lit 63)))]) m0 (callE [(.bin .and .i64 (.var 0) (.lit 63), (.ofNat (nat_lit 0)), (.ofNat (nat_lit 63))), (.bin .and .i64 (.var 1) (.lit 65535), (.ofNat (nat_lit 0)), (.ofNat (nat_lit 63)))] m0.g m0.args ⟨m0.nx0, m0.T0⟩) = true := by kernel_rfl
theorem e64 : outOk (cfB [(.bin .and .i64 (.var 0) (.lit 63), (.ofNat (nat_lit 0)), (.ofNat (nat_lit 63))), (.bin .and .i64 (.var 1) (.lit 65535), (.ofNat (nat_lit 64)), (.ofNat (nat_lit 8191)))]) m0 (callE [(.bin .and .i64 (.var 0) (.lit 63), (.ofNat (nat_lit 0)), (.ofNat (nat_lit 63))), (.bin .and .i64 (.var 1) (.lit 65535), (.ofNat (nat_lit 64)), (.ofNat (nat_lit 8191)))] m0.g m0.args ⟨m0.nx0, m0.T0⟩) = true := by kernel_rfl
theorem e8192 : outOk (cfB [(.bin .and .i64 (.var 0) (.lit 63), (.ofNat (nat_lit 0)), (.ofNat (nat_lit 63))), (.bin .and .i64 (.var 1) (.lit 65535), (.ofNat (nat_lit 8192)), (.ofNat (nat_lit 65535)))]) m0 (callE [(.bin .and .i64 (.var 0) (.lit 63), (.ofNat (nat_lit 0)), (.ofNat (nat_lit 63))), (.bin .and .i64 (.var 1) (.lit 65535), (.ofNat (nat_lit 8192)), (.ofNat (nat_lit 65535)))] m0.g m0.args ⟨m0.nx0, m0.T0⟩) = true := by kernel_rfl
end Go.Proofs.YtocficcmdlfafaaGreatDoor.modelSums
