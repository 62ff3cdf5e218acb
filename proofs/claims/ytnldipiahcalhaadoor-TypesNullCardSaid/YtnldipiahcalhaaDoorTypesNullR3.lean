/- Runs of gneiss/gneisslaw17.TypesNull. -/
import Derived.Test.YtnldipiahcalhaaDoorTypesNullR
namespace Go.Proofs.YtnldipiahcalhaaDoor.typesNull
open Go Go.Proofs Go.Ai
theorem r14 : yes (run [(.bin .rem .i64 (.var 0) (.lit 40), .lit (.ofNat (nat_lit 14)))] []) = true := by kernel_rfl
theorem r15 : yes (run [(.bin .rem .i64 (.var 0) (.lit 40), .lit (.ofNat (nat_lit 15)))] []) = true := by kernel_rfl
theorem r16 : yes (run [(.bin .rem .i64 (.var 0) (.lit 40), .lit (.ofNat (nat_lit 16)))] []) = true := by kernel_rfl
theorem r17 : yes (run [(.bin .rem .i64 (.var 0) (.lit 40), .lit (.ofNat (nat_lit 17)))] []) = true := by kernel_rfl
theorem r18 : yes (run [(.bin .rem .i64 (.var 0) (.lit 40), .lit (.ofNat (nat_lit 18)))] []) = true := by kernel_rfl
end Go.Proofs.YtnldipiahcalhaaDoor.typesNull
