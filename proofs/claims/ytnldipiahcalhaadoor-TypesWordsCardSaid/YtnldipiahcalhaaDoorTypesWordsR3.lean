/- Runs of gneiss/gneisslaw17.TypesWords. -/
import Derived.Test.YtnldipiahcalhaaDoorTypesWordsR
namespace Go.Proofs.YtnldipiahcalhaaDoor.typesWords
open Go Go.Proofs Go.Ai
theorem r21 : yes (run [(.bin .rem .i64 (.var 0) (.lit 30), .lit (.ofNat (nat_lit 21)))] []) = true := by kernel_rfl
theorem r22 : yes (run [(.bin .rem .i64 (.var 0) (.lit 30), .lit (.ofNat (nat_lit 22)))] []) = true := by kernel_rfl
theorem r23 : yes (run [(.bin .rem .i64 (.var 0) (.lit 30), .lit (.ofNat (nat_lit 23)))] []) = true := by kernel_rfl
theorem r24 : yes (run [(.bin .rem .i64 (.var 0) (.lit 30), .lit (.ofNat (nat_lit 24)))] []) = true := by kernel_rfl
end Go.Proofs.YtnldipiahcalhaaDoor.typesWords
