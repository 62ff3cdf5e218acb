/- The runs of gneiss/gneisslaw15.LoadFaces: what they are. -/
import Derived.Test.YtcnhjhkjefmjaaaCompK
import Derived.Test.YtcnhjhkjefmjaaaAiY
namespace Go.Proofs.Ytcnhjhkjefmjaaa.loadFaces
open Go Go.Proofs Go.Ai Go.Proofs.Ytcnhjhkjefmjaaa.comp
noncomputable def asm (c0 : Int) : Cf := ⟨[(.bin .and .i64 (.var 0) (.lit 7), .lit c0)], []⟩
noncomputable def run (c0 : Int) : KR := runC Try.prog (asm c0) T (overC 13) 1000000 200 5 [.int .i64 (.var 0)]
theorem awakes : Awake Try.prog 13 := fun w => soundC mixed TOk (over := id) (cf := ⟨[], []⟩) (fuel := 1000000) (d := 200) (f := 13) (avs := []) (xs := []) (σ := fun _ => 0) (fun _ h => h) ⟨fun a b h => by simp at h, fun op a b r h => by simp at h⟩ .nil (by kernel_rfl)
end Go.Proofs.Ytcnhjhkjefmjaaa.loadFaces
