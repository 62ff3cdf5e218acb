/- The program's functions, compiled: the table. -/
import Derived.Test.YtmnfeljfemobkaaComp0
namespace Go.Proofs.Ytmnfeljfemobkaa.comp
open Go Go.Proofs Go.Ai
noncomputable def tabL : List (Nat × CFn) := [(nat_lit 2, c2), (nat_lit 3, c3), (nat_lit 4, c4), (nat_lit 5, c5), (nat_lit 6, c6), (nat_lit 7, c7), (nat_lit 8, c8), (nat_lit 9, c9), (nat_lit 10, c10), (nat_lit 11, c11), (nat_lit 12, c12), (nat_lit 13, c13), (nat_lit 14, c14), (nat_lit 15, c15), (nat_lit 16, c16), (nat_lit 17, c17), (nat_lit 18, c18), (nat_lit 19, c19), (nat_lit 20, c20), (nat_lit 21, c21), (nat_lit 22, c22), (nat_lit 23, c23), (nat_lit 24, c24), (nat_lit 25, c25)]
end Go.Proofs.Ytmnfeljfemobkaa.comp
