/- Runs of gneiss/gneisslaw17.TypesWords. -/
import Derived.Test.YtnldipiahcalhaaDoorTypesWordsR
namespace Go.Proofs.YtnldipiahcalhaaDoor.typesWords
open Go Go.Proofs Go.Ai
theorem r29 : yes (run [(.bin .rem .i64 (.var 0) (.lit 30), .lit (.ofNat (nat_lit 29)))] []) = true := by kernel_rfl
end Go.Proofs.YtnldipiahcalhaaDoor.typesWords
