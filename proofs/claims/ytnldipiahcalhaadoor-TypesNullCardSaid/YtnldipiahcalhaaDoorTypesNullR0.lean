/- Runs of gneiss/gneisslaw17.TypesNull. -/
import Derived.Test.YtnldipiahcalhaaDoorTypesNullR
namespace Go.Proofs.YtnldipiahcalhaaDoor.typesNull
open Go Go.Proofs Go.Ai
theorem rm39tom1 : yes (run [] [(.bin .rem .i64 (.var 0) (.lit 40), (.negSucc (nat_lit 38)), (.negSucc (nat_lit 0)))]) = true := by kernel_rfl
theorem r0 : yes (run [(.bin .rem .i64 (.var 0) (.lit 40), .lit (.ofNat (nat_lit 0)))] []) = true := by kernel_rfl
theorem r1 : yes (run [(.bin .rem .i64 (.var 0) (.lit 40), .lit (.ofNat (nat_lit 1)))] []) = true := by kernel_rfl
theorem r2 : yes (run [(.bin .rem .i64 (.var 0) (.lit 40), .lit (.ofNat (nat_lit 2)))] []) = true := by kernel_rfl
theorem r3 : yes (run [(.bin .rem .i64 (.var 0) (.lit 40), .lit (.ofNat (nat_lit 3)))] []) = true := by kernel_rfl
end Go.Proofs.YtnldipiahcalhaaDoor.typesNull
