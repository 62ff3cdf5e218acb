/- The program's functions, compiled: the table. -/
import Derived.Test.YtmnfeljfemobkaaComp0
namespace Go.Proofs.Ytmnfeljfemobkaa.comp
open Go Go.Proofs Go.Ai
noncomputable def tabL : List (Nat × CFn) := [(nat_lit 3, c3), (nat_lit 4, c4), (nat_lit 7, c7), (nat_lit 8, c8), (nat_lit 9, c9), (nat_lit 10, c10), (nat_lit 11, c11), (nat_lit 12, c12), (nat_lit 13, c13), (nat_lit 14, c14), (nat_lit 15, c15), (nat_lit 22, c22), (nat_lit 23, c23)]
end Go.Proofs.Ytmnfeljfemobkaa.comp
