/- Runs of gneiss/gneisslaw17.TypesWords. -/
import Derived.Test.YtnldipiahcalhaaDoorTypesWordsR
namespace Go.Proofs.YtnldipiahcalhaaDoor.typesWords
open Go Go.Proofs Go.Ai
theorem r3 : yes (run [(.bin .rem .i64 (.var 0) (.lit 30), .lit (.ofNat (nat_lit 3)))] []) = true := by kernel_rfl
theorem r4 : yes (run [(.bin .rem .i64 (.var 0) (.lit 30), .lit (.ofNat (nat_lit 4)))] []) = true := by kernel_rfl
theorem r5to15 : yes (run [] [(.bin .rem .i64 (.var 0) (.lit 30), (.ofNat (nat_lit 5)), (.ofNat (nat_lit 15)))]) = true := by kernel_rfl
theorem r16 : yes (run [(.bin .rem .i64 (.var 0) (.lit 30), .lit (.ofNat (nat_lit 16)))] []) = true := by kernel_rfl
end Go.Proofs.YtnldipiahcalhaaDoor.typesWords
