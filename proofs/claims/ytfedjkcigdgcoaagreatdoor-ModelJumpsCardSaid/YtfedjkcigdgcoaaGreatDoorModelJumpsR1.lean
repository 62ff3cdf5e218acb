/- Runs of gneiss/gneisslaw21.ModelJumps. -/
import Derived.Test.YtfedjkcigdgcoaaGreatDoorModelJumpsR
namespace Go.Proofs.YtfedjkcigdgcoaaGreatDoor.modelJumps
open Go Go.Proofs Go.Ai
set_option maxRecDepth 1000000
theorem rnl : yes (run m3n [] [(.lss, .conv .i32 (.var 0), .conv .i32 (.var 1), true)] [(.conv .i32 (.var 0), (.negSucc (nat_lit 2147483647)), (.negSucc (nat_lit 0))), (.conv .i32 (.var 1), (.negSucc (nat_lit 2147483647)), (.ofNat (nat_lit 2147483647)))]) = true := by kernel_rfl
theorem rng : yes (run m3n [] [(.lss, .conv .i32 (.var 0), .conv .i32 (.var 1), false)] [(.conv .i32 (.var 0), (.negSucc (nat_lit 2147483647)), (.negSucc (nat_lit 0))), (.conv .i32 (.var 1), (.negSucc (nat_lit 2147483647)), (.ofNat (nat_lit 2147483647)))]) = true := by kernel_rfl
end Go.Proofs.YtfedjkcigdgcoaaGreatDoor.modelJumps
