/- The runs of gneiss/gneisslaw22.LegalWeak: what they are. -/
import Derived.Test.YtfedjkcigdgcoaaGreatDoorCompK
import Derived.Test.YtfedjkcigdgcoaaGreatDoorAiY
namespace Go.Proofs.YtfedjkcigdgcoaaGreatDoor.legalWeak
open Go Go.Proofs Go.Ai Go.Proofs.YtfedjkcigdgcoaaGreatDoor.comp
noncomputable def gl : Nat → Option (List AV) := fun _ => none
noncomputable def cfl : Cf := ⟨[], [], [], fun _ _ _ => none, gl⟩
noncomputable def run (rw : List (SI × SI)) (iv : List (SI × Int × Int)) (c0 : Bool) : KR := runC Tryz.prog ⟨rw, [], iv, fun _ _ _ => none, gl⟩ T (overC 29) 1000000 200 12 [.bool c0, .int .i64 (.var 1)]
theorem awakes : Awake Tryz.prog gl 29 := fun w hw =>
  haveI : GlOk cfl.gl w := hw
  soundC mixed TOk (over := id) (cf := cfl) (fuel := 1000000) (d := 200) (f := 29) (avs := []) (xs := []) (σ := fun _ => 0) (fun _ h => h)
    ⟨fun _ _ hm => (by cases hm), fun _ _ _ _ hm => (by cases hm), fun _ _ _ hm => (by cases hm), fun _ _ _ _ hm => (by cases hm)⟩ .nil (by kernel_rfl)
end Go.Proofs.YtfedjkcigdgcoaaGreatDoor.legalWeak
