/- Runs of gneiss/gneisslaw17.TypesNull. -/
import Derived.Test.YtnldipiahcalhaaDoorTypesNullR
namespace Go.Proofs.YtnldipiahcalhaaDoor.typesNull
open Go Go.Proofs Go.Ai
theorem r9 : yes (run [(.bin .rem .i64 (.var 0) (.lit 40), .lit (.ofNat (nat_lit 9)))] []) = true := by kernel_rfl
theorem r10 : yes (run [(.bin .rem .i64 (.var 0) (.lit 40), .lit (.ofNat (nat_lit 10)))] []) = true := by kernel_rfl
theorem r11 : yes (run [(.bin .rem .i64 (.var 0) (.lit 40), .lit (.ofNat (nat_lit 11)))] []) = true := by kernel_rfl
theorem r12 : yes (run [(.bin .rem .i64 (.var 0) (.lit 40), .lit (.ofNat (nat_lit 12)))] []) = true := by kernel_rfl
theorem r13 : yes (run [(.bin .rem .i64 (.var 0) (.lit 40), .lit (.ofNat (nat_lit 13)))] []) = true := by kernel_rfl
end Go.Proofs.YtnldipiahcalhaaDoor.typesNull
