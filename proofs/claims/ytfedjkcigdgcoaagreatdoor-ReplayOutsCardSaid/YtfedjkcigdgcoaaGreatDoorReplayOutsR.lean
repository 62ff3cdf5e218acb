/- The runs of gneiss/gneisslaw24.ReplayOuts: what they are. -/
import Derived.Test.YtfedjkcigdgcoaaGreatDoorCompK
import Derived.Test.YtfedjkcigdgcoaaGreatDoorAiY
import Derived.Test.YtfedjkcigdgcoaaGreatDoorLaid
namespace Go.Proofs.YtfedjkcigdgcoaaGreatDoor.replayOuts
open Go Go.Proofs Go.Ai Go.Proofs.YtfedjkcigdgcoaaGreatDoor.comp
noncomputable def gl : Nat → Option (List AV) := laidGl
noncomputable def cfl : Cf := ⟨[], [], [], fun _ _ _ => none, gl⟩
noncomputable def run (rw : List (SI × SI)) (iv : List (SI × Int × Int)) (cm : List (BinOp × SI × SI × Bool))  : KR := runC Tryz.prog ⟨rw, cm, iv, fun _ _ _ => none, gl⟩ T (overC 37) 1000000 200 14 [.int .i64 (.var 0), .int .i64 (.var 1)]
theorem awakes : Awake Tryz.prog gl 37 := fun w hw =>
  haveI : GlOk cfl.gl w := hw
  soundC mixed TOk (over := id) (cf := cfl) (fuel := 1000000) (d := 200) (f := 37) (avs := []) (xs := []) (σ := fun _ => 0) (fun _ h => h)
    ⟨fun _ _ hm => (by cases hm), fun _ _ _ _ hm => (by cases hm), fun _ _ _ hm => (by cases hm), fun _ _ _ _ hm => (by cases hm)⟩ .nil (by kernel_rfl)
end Go.Proofs.YtfedjkcigdgcoaaGreatDoor.replayOuts
