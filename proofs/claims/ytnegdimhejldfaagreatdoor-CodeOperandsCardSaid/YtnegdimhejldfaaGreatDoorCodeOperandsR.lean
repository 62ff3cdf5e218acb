/- The runs of gneiss/gneisslaw16.CodeOperands: what they are. -/
import Derived.Test.YtnegdimhejldfaaGreatDoorCompK
import Derived.Test.YtnegdimhejldfaaGreatDoorAiY
import Derived.Test.YtnegdimhejldfaaGreatDoorLaid
namespace Go.Proofs.YtnegdimhejldfaaGreatDoor.codeOperands
open Go Go.Proofs Go.Ai Go.Proofs.YtnegdimhejldfaaGreatDoor.comp
def q0 : SI := .bin .rem .u64 (.conv .u64 (.var 0)) (.lit 47)
def q1 : SI := .bin .and .i64 (.var 1) (.lit 7)
def q2 : SI := .bin .and .i64 (.var 2) (.lit 7)
def n (k : Nat) : SI := .lit (.ofNat k)
noncomputable def gl : Nat → Option (List AV) := laidGl
noncomputable def cfl : Cf := ⟨[], [], [], fun _ _ _ => none, gl⟩
noncomputable def run (rw : List (SI × SI)) (iv : List (SI × Int × Int))  : KR := runC Tryz.prog ⟨rw, [], iv, fun _ _ _ => none, gl⟩ T (overC 19) 1000000 200 5 [.int .i64 (.var 0), .int .i64 (.var 1), .int .i64 (.var 2)]
theorem awakes : Awake Tryz.prog gl 19 := fun w hw =>
  haveI : GlOk cfl.gl w := hw
  soundC mixed TOk (over := id) (cf := cfl) (fuel := 1000000) (d := 200) (f := 19) (avs := []) (xs := []) (σ := fun _ => 0) (fun _ h => h)
    ⟨fun _ _ hm => (by cases hm), fun _ _ _ _ hm => (by cases hm), fun _ _ _ hm => (by cases hm), fun _ _ _ _ hm => (by cases hm)⟩ .nil (by kernel_rfl)
end Go.Proofs.YtnegdimhejldfaaGreatDoor.codeOperands
