/- The runs of gneiss/gneisslaw19.AsmLines: what they are. -/
import Derived.Test.YtggidjlffhakhaaGreatDoorCompK
import Derived.Test.YtggidjlffhakhaaGreatDoorAiY
import Derived.Test.YtggidjlffhakhaaGreatDoorLaid
namespace Go.Proofs.YtggidjlffhakhaaGreatDoor.asmLines
open Go Go.Proofs Go.Ai Go.Proofs.YtggidjlffhakhaaGreatDoor.comp
noncomputable def gl : Nat → Option (List AV) := laidGl
noncomputable def cfl : Cf := ⟨[], [], [], fun _ _ _ => none, gl⟩
noncomputable def run (rw : List (SI × SI)) (iv : List (SI × Int × Int))  : KR := runC Tryz.prog ⟨rw, [], iv, fun _ _ _ => none, gl⟩ T (overC 13) 1000000 200 5 [.int .i64 (.var 0), .int .i64 (.var 1)]
theorem awakes : Awake Tryz.prog gl 13 := fun w hw =>
  haveI : GlOk cfl.gl w := hw
  soundC mixed TOk (over := id) (cf := cfl) (fuel := 1000000) (d := 200) (f := 13) (avs := []) (xs := []) (σ := fun _ => 0) (fun _ h => h)
    ⟨fun _ _ hm => (by cases hm), fun _ _ _ _ hm => (by cases hm), fun _ _ _ hm => (by cases hm), fun _ _ _ _ hm => (by cases hm)⟩ .nil (by kernel_rfl)
end Go.Proofs.YtggidjlffhakhaaGreatDoor.asmLines
