/- The runs of gneiss/gneisslaw15.LoadTwice: what they are. -/
import Derived.Test.YtcnhjhkjefmjaaaProg
import Derived.Test.YtcnhjhkjefmjaaaAiY
import Derived.ProofKit
namespace Go.Proofs.Ytcnhjhkjefmjaaa.loadTwice
open Go Go.Proofs Go.Ai
noncomputable def asm (c0 : Int) : Cf := ⟨[(.bin .and .i64 (.var 0) (.lit 3), .lit c0)], []⟩
noncomputable def run (c0 : Int) (c1 : Bool) : KR := runO Try.prog (asm c0) 1000000 200 13 7 [.int .i64 (.var 0), .bool c1]
theorem mixed : Try.prog.follows .mixedOrders = true := by kernel_rfl
theorem awakes : Awake Try.prog 13 := awake_of (fuel := 1000000) (d := 200) mixed (by kernel_rfl)
end Go.Proofs.Ytcnhjhkjefmjaaa.loadTwice
