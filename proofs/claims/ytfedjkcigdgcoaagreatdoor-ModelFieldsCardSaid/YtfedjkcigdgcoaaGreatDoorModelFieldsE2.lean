/- class.Encode, class by class. -/
import Derived.Test.YtfedjkcigdgcoaaGreatDoorModelFieldsR
namespace Go.Proofs.YtfedjkcigdgcoaaGreatDoor.modelFields
open Go Go.Proofs Go.Ai
theorem e1048576 : outOk (cfB [(.conv .i32 (.var 0), (.ofNat (nat_lit 1048576)), (.ofNat (nat_lit 134217727)))]) m1 (callE [(.conv .i32 (.var 0), (.ofNat (nat_lit 1048576)), (.ofNat (nat_lit 134217727)))] m1.g m1.args ⟨m1.nx0, m1.T0⟩) = true := by kernel_rfl
theorem e134217728 : outOk (cfB [(.conv .i32 (.var 0), (.ofNat (nat_lit 134217728)), (.ofNat (nat_lit 2147483647)))]) m1 (callE [(.conv .i32 (.var 0), (.ofNat (nat_lit 134217728)), (.ofNat (nat_lit 2147483647)))] m1.g m1.args ⟨m1.nx0, m1.T0⟩) = true := by kernel_rfl
end Go.Proofs.YtfedjkcigdgcoaaGreatDoor.modelFields
