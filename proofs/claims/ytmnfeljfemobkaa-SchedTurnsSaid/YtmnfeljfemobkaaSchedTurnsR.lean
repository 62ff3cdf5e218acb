/- The runs of gneiss/gneisslaw4.SchedTurns: what they are. -/
import Derived.Test.YtmnfeljfemobkaaCompK
import Derived.Test.YtmnfeljfemobkaaAiY
namespace Go.Proofs.Ytmnfeljfemobkaa.schedTurns
open Go Go.Proofs Go.Ai Go.Proofs.Ytmnfeljfemobkaa.comp
noncomputable def gl : Nat → Option (List AV) := fun _ => none
noncomputable def cfl : Cf := ⟨[], [], [], fun _ _ _ => none, gl⟩
noncomputable def run (rw : List (SI × SI)) (iv : List (SI × Int × Int))  : KR := runC Try.prog ⟨rw, [], iv, fun _ _ _ => none, gl⟩ T (overC 7) 1000000 200 5 [.int .i64 (.var 0), .int .i64 (.var 1), .int .i64 (.var 2)]
theorem awakes : Awake Try.prog gl 7 := fun w hw =>
  haveI : GlOk cfl.gl w := hw
  soundC mixed TOk (over := id) (cf := cfl) (fuel := 1000000) (d := 200) (f := 7) (avs := []) (xs := []) (σ := fun _ => 0) (fun _ h => h)
    ⟨fun _ _ hm => (by cases hm), fun _ _ _ _ hm => (by cases hm), fun _ _ _ hm => (by cases hm), fun _ _ _ _ hm => (by cases hm)⟩ .nil (by kernel_rfl)
end Go.Proofs.Ytmnfeljfemobkaa.schedTurns
