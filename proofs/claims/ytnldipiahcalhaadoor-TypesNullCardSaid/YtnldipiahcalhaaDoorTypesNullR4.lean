/- Runs of gneiss/gneisslaw17.TypesNull. -/
import Derived.Test.YtnldipiahcalhaaDoorTypesNullR
namespace Go.Proofs.YtnldipiahcalhaaDoor.typesNull
open Go Go.Proofs Go.Ai
theorem r19 : yes (run [(.bin .rem .i64 (.var 0) (.lit 40), .lit (.ofNat (nat_lit 19)))] []) = true := by kernel_rfl
theorem r20 : yes (run [(.bin .rem .i64 (.var 0) (.lit 40), .lit (.ofNat (nat_lit 20)))] []) = true := by kernel_rfl
theorem r21 : yes (run [(.bin .rem .i64 (.var 0) (.lit 40), .lit (.ofNat (nat_lit 21)))] []) = true := by kernel_rfl
theorem r22 : yes (run [(.bin .rem .i64 (.var 0) (.lit 40), .lit (.ofNat (nat_lit 22)))] []) = true := by kernel_rfl
theorem r23 : yes (run [(.bin .rem .i64 (.var 0) (.lit 40), .lit (.ofNat (nat_lit 23)))] []) = true := by kernel_rfl
end Go.Proofs.YtnldipiahcalhaaDoor.typesNull
