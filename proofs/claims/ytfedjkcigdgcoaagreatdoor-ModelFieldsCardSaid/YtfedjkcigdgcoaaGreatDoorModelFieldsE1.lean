/- class.Encode, class by class. -/
import Derived.Test.YtfedjkcigdgcoaaGreatDoorModelFieldsR
namespace Go.Proofs.YtfedjkcigdgcoaaGreatDoor.modelFields
open Go Go.Proofs Go.Ai
theorem em64 : outOk (cfB [(.conv .i32 (.var 0), (.negSucc (nat_lit 63)), (.negSucc (nat_lit 0)))]) m1 (callE [(.conv .i32 (.var 0), (.negSucc (nat_lit 63)), (.negSucc (nat_lit 0)))] m1.g m1.args ⟨m1.nx0, m1.T0⟩) = true := by kernel_rfl
theorem e0 : outOk (cfB [(.conv .i32 (.var 0), (.ofNat (nat_lit 0)), (.ofNat (nat_lit 63)))]) m1 (callE [(.conv .i32 (.var 0), (.ofNat (nat_lit 0)), (.ofNat (nat_lit 63)))] m1.g m1.args ⟨m1.nx0, m1.T0⟩) = true := by kernel_rfl
theorem e64 : outOk (cfB [(.conv .i32 (.var 0), (.ofNat (nat_lit 64)), (.ofNat (nat_lit 8191)))]) m1 (callE [(.conv .i32 (.var 0), (.ofNat (nat_lit 64)), (.ofNat (nat_lit 8191)))] m1.g m1.args ⟨m1.nx0, m1.T0⟩) = true := by kernel_rfl
theorem e8192 : outOk (cfB [(.conv .i32 (.var 0), (.ofNat (nat_lit 8192)), (.ofNat (nat_lit 1048575)))]) m1 (callE [(.conv .i32 (.var 0), (.ofNat (nat_lit 8192)), (.ofNat (nat_lit 1048575)))] m1.g m1.args ⟨m1.nx0, m1.T0⟩) = true := by kernel_rfl
end Go.Proofs.YtfedjkcigdgcoaaGreatDoor.modelFields
