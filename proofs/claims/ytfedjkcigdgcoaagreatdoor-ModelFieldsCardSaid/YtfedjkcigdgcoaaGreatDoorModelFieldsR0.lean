/- Runs of gneiss/gneisslaw21.ModelFields. -/
import Derived.Test.YtfedjkcigdgcoaaGreatDoorModelFieldsR
namespace Go.Proofs.YtfedjkcigdgcoaaGreatDoor.modelFields
open Go Go.Proofs Go.Ai
set_option maxRecDepth 1000000
theorem rc0 : yes (run [] [] [(.conv .i32 (.var 0), (.negSucc (nat_lit 2147483647)), (.ofNat (nat_lit 2147483647)))]) = true := by kernel_rfl
end Go.Proofs.YtfedjkcigdgcoaaGreatDoor.modelFields
