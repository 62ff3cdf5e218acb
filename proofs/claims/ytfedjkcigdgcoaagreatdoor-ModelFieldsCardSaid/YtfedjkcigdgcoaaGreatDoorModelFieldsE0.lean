/- class.Encode, class by class. -/
import Derived.Test.YtfedjkcigdgcoaaGreatDoorModelFieldsR
namespace Go.Proofs.YtfedjkcigdgcoaaGreatDoor.modelFields
open Go Go.Proofs Go.Ai
theorem em2147483648 : outOk (cfB [(.conv .i32 (.var 0), (.negSucc (nat_lit 2147483647)), (.negSucc (nat_lit 134217728)))]) m1 (callE [(.conv .i32 (.var 0), (.negSucc (nat_lit 2147483647)), (.negSucc (nat_lit 134217728)))] m1.g m1.args ⟨m1.nx0, m1.T0⟩) = true := by kernel_rfl
theorem em134217728 : outOk (cfB [(.conv .i32 (.var 0), (.negSucc (nat_lit 134217727)), (.negSucc (nat_lit 1048576)))]) m1 (callE [(.conv .i32 (.var 0), (.negSucc (nat_lit 134217727)), (.negSucc (nat_lit 1048576)))] m1.g m1.args ⟨m1.nx0, m1.T0⟩) = true := by kernel_rfl
theorem em1048576 : outOk (cfB [(.conv .i32 (.var 0), (.negSucc (nat_lit 1048575)), (.negSucc (nat_lit 8192)))]) m1 (callE [(.conv .i32 (.var 0), (.negSucc (nat_lit 1048575)), (.negSucc (nat_lit 8192)))] m1.g m1.args ⟨m1.nx0, m1.T0⟩) = true := by kernel_rfl
theorem em8192 : outOk (cfB [(.conv .i32 (.var 0), (.negSucc (nat_lit 8191)), (.negSucc (nat_lit 64)))]) m1 (callE [(.conv .i32 (.var 0), (.negSucc (nat_lit 8191)), (.negSucc (nat_lit 64)))] m1.g m1.args ⟨m1.nx0, m1.T0⟩) = true := by kernel_rfl
end Go.Proofs.YtfedjkcigdgcoaaGreatDoor.modelFields
