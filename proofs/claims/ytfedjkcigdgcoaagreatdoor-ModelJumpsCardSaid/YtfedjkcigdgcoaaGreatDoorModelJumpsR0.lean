/- Runs of gneiss/gneisslaw21.ModelJumps. -/
import Derived.Test.YtfedjkcigdgcoaaGreatDoorModelJumpsR
namespace Go.Proofs.YtfedjkcigdgcoaaGreatDoor.modelJumps
open Go Go.Proofs Go.Ai
set_option maxRecDepth 1000000
theorem rzl : yes (run m3z [(.conv .i32 (.var 0), .lit (.ofNat (nat_lit 0)))] [] [(.conv .i32 (.var 0), (.ofNat (nat_lit 0)), (.ofNat (nat_lit 0))), (.conv .i32 (.var 1), (.ofNat (nat_lit 1)), (.ofNat (nat_lit 2147483647)))]) = true := by kernel_rfl
theorem rzg : yes (run m3z [(.conv .i32 (.var 0), .lit (.ofNat (nat_lit 0)))] [] [(.conv .i32 (.var 0), (.ofNat (nat_lit 0)), (.ofNat (nat_lit 0))), (.conv .i32 (.var 1), (.negSucc (nat_lit 2147483647)), (.ofNat (nat_lit 0)))]) = true := by kernel_rfl
end Go.Proofs.YtfedjkcigdgcoaaGreatDoor.modelJumps
