/- The runs of gneiss/gneisslaw21.ModelHandlers: what they are. -/
import Derived.Test.YtpogefeioedgeaaGreatDoorCompK
import Derived.Test.YtpogefeioedgeaaGreatDoorAiY
namespace Go.Proofs.YtpogefeioedgeaaGreatDoor.modelHandlers
open Go Go.Proofs Go.Ai Go.Proofs.YtpogefeioedgeaaGreatDoor.comp
noncomputable def run (rw : List (SI × SI)) (iv : List (SI × Int × Int))  : KR := runC Tryz.prog ⟨rw, [], iv, fun _ _ _ => none⟩ T (overC 12) 1000000 200 3 [.int .i64 (.var 0), .int .i64 (.var 1), .int .i64 (.var 2)]
theorem awakes : Awake Tryz.prog 12 := fun w => soundC mixed TOk (over := id) (cf := cf0) (fuel := 1000000) (d := 200) (f := 12) (avs := []) (xs := []) (σ := fun _ => 0) (fun _ h => h) (cf0_ok _) .nil (by kernel_rfl)
end Go.Proofs.YtpogefeioedgeaaGreatDoor.modelHandlers
