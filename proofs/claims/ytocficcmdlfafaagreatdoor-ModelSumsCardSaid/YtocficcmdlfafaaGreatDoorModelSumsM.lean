/- class.Encode over the law's programs, whatever the numbers are. -/
import Derived.Test.YtocficcmdlfafaaGreatDoorModelSumsE0
namespace Go.Proofs.YtocficcmdlfafaaGreatDoor.modelSums
open Go Go.RowKit Go.Proofs Go.Ai
theorem m0ok (W0 : World) [hg : GlOk gl W0] : FmOk Tryz.prog W0 m0 := by
  intro E w xs hr hx
  have g0 := rng0 (E.σ 0)
  have g1 := rng1 (E.σ 1)
  by_cases q1 : opVal .and .i64 (E.σ 1) 65535 < 64
  ·
    have c1 : 0 ≤ opVal .and .i64 (E.σ 1) 65535 ∧ opVal .and .i64 (E.σ 1) 65535 ≤ 63 := by omega
    exact case_ (m := m0) e0 (iv2 g0 c1) hr hx
  by_cases q2 : opVal .and .i64 (E.σ 1) 65535 < 8192
  ·
    have c1 : 64 ≤ opVal .and .i64 (E.σ 1) 65535 ∧ opVal .and .i64 (E.σ 1) 65535 ≤ 8191 := by omega
    exact case_ (m := m0) e64 (iv2 g0 c1) hr hx
  ·
    have c1 : 8192 ≤ opVal .and .i64 (E.σ 1) 65535 ∧ opVal .and .i64 (E.σ 1) 65535 ≤ 65535 := by omega
    exact case_ (m := m0) e8192 (iv2 g0 c1) hr hx
end Go.Proofs.YtocficcmdlfafaaGreatDoor.modelSums
