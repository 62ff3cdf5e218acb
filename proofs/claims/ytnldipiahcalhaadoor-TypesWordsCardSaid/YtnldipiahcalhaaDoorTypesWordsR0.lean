/- Runs of gneiss/gneisslaw17.TypesWords. -/
import Derived.Test.YtnldipiahcalhaaDoorTypesWordsR
namespace Go.Proofs.YtnldipiahcalhaaDoor.typesWords
open Go Go.Proofs Go.Ai
theorem rm29tom1 : yes (run [] [(.bin .rem .i64 (.var 0) (.lit 30), (.negSucc (nat_lit 28)), (.negSucc (nat_lit 0)))]) = true := by kernel_rfl
theorem r0 : yes (run [(.bin .rem .i64 (.var 0) (.lit 30), .lit (.ofNat (nat_lit 0)))] []) = true := by kernel_rfl
theorem r1 : yes (run [(.bin .rem .i64 (.var 0) (.lit 30), .lit (.ofNat (nat_lit 1)))] []) = true := by kernel_rfl
theorem r2 : yes (run [(.bin .rem .i64 (.var 0) (.lit 30), .lit (.ofNat (nat_lit 2)))] []) = true := by kernel_rfl
end Go.Proofs.YtnldipiahcalhaaDoor.typesWords
