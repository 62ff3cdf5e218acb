/- The program's functions, compiled: the table. -/
import Derived.Test.YtnldipiahcalhaaDoorComp0
namespace Go.Proofs.YtnldipiahcalhaaDoor.comp
open Go Go.Proofs Go.Ai
noncomputable def tabL : List (Nat × CFn) := [(nat_lit 4, c4), (nat_lit 5, c5), (nat_lit 7, c7), (nat_lit 9, c9), (nat_lit 11, c11), (nat_lit 15, c15), (nat_lit 24, c24), (nat_lit 25, c25), (nat_lit 26, c26), (nat_lit 27, c27), (nat_lit 28, c28), (nat_lit 29, c29), (nat_lit 30, c30), (nat_lit 31, c31), (nat_lit 32, c32), (nat_lit 43, c43), (nat_lit 45, c45), (nat_lit 46, c46), (nat_lit 47, c47), (nat_lit 49, c49), (nat_lit 50, c50), (nat_lit 51, c51), (nat_lit 52, c52), (nat_lit 53, c53), (nat_lit 54, c54), (nat_lit 58, c58), (nat_lit 66, c66)]
end Go.Proofs.YtnldipiahcalhaaDoor.comp
