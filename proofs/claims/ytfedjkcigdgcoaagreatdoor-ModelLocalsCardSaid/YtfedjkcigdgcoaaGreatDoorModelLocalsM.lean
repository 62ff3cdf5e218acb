/- class.Encode over the law's program, whatever the numbers are. -/
import Derived.Test.YtfedjkcigdgcoaaGreatDoorModelLocalsE0
import Derived.Test.YtfedjkcigdgcoaaGreatDoorModelLocalsE1
namespace Go.Proofs.YtfedjkcigdgcoaaGreatDoor.modelLocals
open Go Go.RowKit Go.Proofs Go.Ai
theorem m1ok (W0 : World) [hg : GlOk gl W0] : FmOk Tryz.prog W0 m1 := by
  intro E w xs hr hx
  have g0 := rng0 (E.σ 0)
  have g1 := rng1 (E.σ 1)
  by_cases q1 : IntKind.wrap .i32 (E.σ 0) < 0
  ·
    by_cases q2 : IntKind.wrap .i32 (E.σ 0) < (-1048576)
    ·
      by_cases q3 : IntKind.wrap .i32 (E.σ 0) < (-134217728)
      ·
        have c0 : (-2147483648) ≤ IntKind.wrap .i32 (E.σ 0) ∧ IntKind.wrap .i32 (E.σ 0) ≤ (-134217729) := by omega
        exact case_ (m := m1) em2147483648 (iv2 c0 g1) hr hx
      ·
        have c0 : (-134217728) ≤ IntKind.wrap .i32 (E.σ 0) ∧ IntKind.wrap .i32 (E.σ 0) ≤ (-1048577) := by omega
        exact case_ (m := m1) em134217728 (iv2 c0 g1) hr hx
    ·
      by_cases q3 : IntKind.wrap .i32 (E.σ 0) < (-8192)
      ·
        have c0 : (-1048576) ≤ IntKind.wrap .i32 (E.σ 0) ∧ IntKind.wrap .i32 (E.σ 0) ≤ (-8193) := by omega
        exact case_ (m := m1) em1048576 (iv2 c0 g1) hr hx
      ·
        by_cases q4 : IntKind.wrap .i32 (E.σ 0) < (-64)
        ·
          have c0 : (-8192) ≤ IntKind.wrap .i32 (E.σ 0) ∧ IntKind.wrap .i32 (E.σ 0) ≤ (-65) := by omega
          exact case_ (m := m1) em8192 (iv2 c0 g1) hr hx
        ·
          have c0 : (-64) ≤ IntKind.wrap .i32 (E.σ 0) ∧ IntKind.wrap .i32 (E.σ 0) ≤ (-1) := by omega
          exact case_ (m := m1) em64 (iv2 c0 g1) hr hx
  ·
    by_cases q2 : IntKind.wrap .i32 (E.σ 0) < 8192
    ·
      by_cases q3 : IntKind.wrap .i32 (E.σ 0) < 64
      ·
        have c0 : 0 ≤ IntKind.wrap .i32 (E.σ 0) ∧ IntKind.wrap .i32 (E.σ 0) ≤ 63 := by omega
        exact case_ (m := m1) e0 (iv2 c0 g1) hr hx
      ·
        have c0 : 64 ≤ IntKind.wrap .i32 (E.σ 0) ∧ IntKind.wrap .i32 (E.σ 0) ≤ 8191 := by omega
        exact case_ (m := m1) e64 (iv2 c0 g1) hr hx
    ·
      by_cases q3 : IntKind.wrap .i32 (E.σ 0) < 1048576
      ·
        have c0 : 8192 ≤ IntKind.wrap .i32 (E.σ 0) ∧ IntKind.wrap .i32 (E.σ 0) ≤ 1048575 := by omega
        exact case_ (m := m1) e8192 (iv2 c0 g1) hr hx
      ·
        by_cases q4 : IntKind.wrap .i32 (E.σ 0) < 134217728
        ·
          have c0 : 1048576 ≤ IntKind.wrap .i32 (E.σ 0) ∧ IntKind.wrap .i32 (E.σ 0) ≤ 134217727 := by omega
          exact case_ (m := m1) e1048576 (iv2 c0 g1) hr hx
        ·
          have c0 : 134217728 ≤ IntKind.wrap .i32 (E.σ 0) ∧ IntKind.wrap .i32 (E.σ 0) ≤ 2147483647 := by omega
          exact case_ (m := m1) e134217728 (iv2 c0 g1) hr hx
end Go.Proofs.YtfedjkcigdgcoaaGreatDoor.modelLocals
