/- Runs of gneiss/gneisslaw17.TypesNull. -/
import Derived.Test.YtnldipiahcalhaaDoorTypesNullR
namespace Go.Proofs.YtnldipiahcalhaaDoor.typesNull
open Go Go.Proofs Go.Ai
theorem r24 : yes (run [(.bin .rem .i64 (.var 0) (.lit 40), .lit (.ofNat (nat_lit 24)))] []) = true := by kernel_rfl
theorem r25 : yes (run [(.bin .rem .i64 (.var 0) (.lit 40), .lit (.ofNat (nat_lit 25)))] []) = true := by kernel_rfl
theorem r26 : yes (run [(.bin .rem .i64 (.var 0) (.lit 40), .lit (.ofNat (nat_lit 26)))] []) = true := by kernel_rfl
theorem r27 : yes (run [(.bin .rem .i64 (.var 0) (.lit 40), .lit (.ofNat (nat_lit 27)))] []) = true := by kernel_rfl
theorem r28to39 : yes (run [] [(.bin .rem .i64 (.var 0) (.lit 40), (.ofNat (nat_lit 28)), (.ofNat (nat_lit 39)))]) = true := by kernel_rfl
end Go.Proofs.YtnldipiahcalhaaDoor.typesNull
