/- Runs of gneiss/gneisslaw17.TypesWords. -/
import Derived.Test.YtnldipiahcalhaaDoorTypesWordsR
namespace Go.Proofs.YtnldipiahcalhaaDoor.typesWords
open Go Go.Proofs Go.Ai
theorem r25 : yes (run [(.bin .rem .i64 (.var 0) (.lit 30), .lit (.ofNat (nat_lit 25)))] []) = true := by kernel_rfl
theorem r26 : yes (run [(.bin .rem .i64 (.var 0) (.lit 30), .lit (.ofNat (nat_lit 26)))] []) = true := by kernel_rfl
theorem r27 : yes (run [(.bin .rem .i64 (.var 0) (.lit 30), .lit (.ofNat (nat_lit 27)))] []) = true := by kernel_rfl
theorem r28 : yes (run [(.bin .rem .i64 (.var 0) (.lit 30), .lit (.ofNat (nat_lit 28)))] []) = true := by kernel_rfl
end Go.Proofs.YtnldipiahcalhaaDoor.typesWords
