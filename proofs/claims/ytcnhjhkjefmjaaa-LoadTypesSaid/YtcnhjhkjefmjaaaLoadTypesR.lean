/- The runs of gneiss/gneisslaw15.LoadTypes: what they are. -/
import Derived.Test.YtcnhjhkjefmjaaaCompK
import Derived.Test.YtcnhjhkjefmjaaaAiY
namespace Go.Proofs.Ytcnhjhkjefmjaaa.loadTypes
open Go Go.Proofs Go.Ai Go.Proofs.Ytcnhjhkjefmjaaa.comp
noncomputable def run (rw : List (SI × SI)) (iv : List (SI × Int × Int))  : KR := runC Try.prog ⟨rw, [], iv, fun _ _ _ => none⟩ T (overC 13) 1000000 200 6 [.int .i64 (.var 0), .int .i64 (.var 1)]
theorem awakes : Awake Try.prog 13 := fun w => soundC mixed TOk (over := id) (cf := cf0) (fuel := 1000000) (d := 200) (f := 13) (avs := []) (xs := []) (σ := fun _ => 0) (fun _ h => h) (cf0_ok _) .nil (by kernel_rfl)
end Go.Proofs.Ytcnhjhkjefmjaaa.loadTypes
