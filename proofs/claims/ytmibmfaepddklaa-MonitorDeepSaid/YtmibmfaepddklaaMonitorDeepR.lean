/- The runs of gneiss/gneisslaw20.MonitorDeep: what they are. -/
import Derived.Test.YtmibmfaepddklaaCompK
import Derived.Test.YtmibmfaepddklaaAiY
namespace Go.Proofs.Ytmibmfaepddklaa.monitorDeep
open Go Go.Proofs Go.Ai Go.Proofs.Ytmibmfaepddklaa.comp
noncomputable def run (rw : List (SI × SI)) (iv : List (SI × Int × Int))  : KR := runC Try.prog ⟨rw, [], iv, fun _ _ _ => none⟩ T (overC 5) 1000000 200 3 [.int .i64 (.var 0), .int .i64 (.var 1)]
theorem awakes : Awake Try.prog 5 := fun w => soundC mixed TOk (over := id) (cf := cf0) (fuel := 1000000) (d := 200) (f := 5) (avs := []) (xs := []) (σ := fun _ => 0) (fun _ h => h) (cf0_ok _) .nil (by kernel_rfl)
end Go.Proofs.Ytmibmfaepddklaa.monitorDeep
