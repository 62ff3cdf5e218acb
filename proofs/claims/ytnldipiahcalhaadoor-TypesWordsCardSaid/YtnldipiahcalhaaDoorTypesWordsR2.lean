/- Runs of gneiss/gneisslaw17.TypesWords. -/
import Derived.Test.YtnldipiahcalhaaDoorTypesWordsR
namespace Go.Proofs.YtnldipiahcalhaaDoor.typesWords
open Go Go.Proofs Go.Ai
theorem r17 : yes (run [(.bin .rem .i64 (.var 0) (.lit 30), .lit (.ofNat (nat_lit 17)))] []) = true := by kernel_rfl
theorem r18 : yes (run [(.bin .rem .i64 (.var 0) (.lit 30), .lit (.ofNat (nat_lit 18)))] []) = true := by kernel_rfl
theorem r19 : yes (run [(.bin .rem .i64 (.var 0) (.lit 30), .lit (.ofNat (nat_lit 19)))] []) = true := by kernel_rfl
theorem r20 : yes (run [(.bin .rem .i64 (.var 0) (.lit 30), .lit (.ofNat (nat_lit 20)))] []) = true := by kernel_rfl
end Go.Proofs.YtnldipiahcalhaaDoor.typesWords
