/- The runs of gneiss/gneisslaw21.ModelStacks: what they are. -/
import Derived.Test.YtfedjkcigdgcoaaGreatDoorCompK
import Derived.Test.YtfedjkcigdgcoaaGreatDoorAiY
import Derived.Test.YtfedjkcigdgcoaaGreatDoorFact
namespace Go.Proofs.YtfedjkcigdgcoaaGreatDoor.modelStacks
open Go Go.Proofs Go.Ai Go.Proofs.YtfedjkcigdgcoaaGreatDoor.comp
noncomputable def gl : Nat → Option (List AV) := fun _ => none
noncomputable def cfl : Cf := ⟨[], [], [], fun _ _ _ => none, gl⟩
noncomputable def run (rw : List (SI × SI)) (iv : List (SI × Int × Int))  : KR := runC Tryz.prog ⟨rw, [], iv, fun _ _ _ => none, gl⟩ T (fun c => overC 19 (overF 20 (Go.Proofs.YtfedjkcigdgcoaaGreatDoor.fact.ruleR rw) c)) 1000000 200 4 [.int .i64 (.var 0), .int .i64 (.var 1)]
theorem awakes : Awake Tryz.prog gl 19 := fun w hw =>
  haveI : GlOk cfl.gl w := hw
  soundC mixed TOk (over := id) (cf := cfl) (fuel := 1000000) (d := 200) (f := 19) (avs := []) (xs := []) (σ := fun _ => 0) (fun _ h => h)
    ⟨fun _ _ hm => (by cases hm), fun _ _ _ _ hm => (by cases hm), fun _ _ _ hm => (by cases hm), fun _ _ _ _ hm => (by cases hm)⟩ .nil (by kernel_rfl)
end Go.Proofs.YtfedjkcigdgcoaaGreatDoor.modelStacks
