/- class.Encode over the law's programs, whatever the numbers are. -/
import Derived.Test.YtocficcmdlfafaaGreatDoorModelArithsE0
import Derived.Test.YtocficcmdlfafaaGreatDoorModelArithsE1
import Derived.Test.YtocficcmdlfafaaGreatDoorModelArithsE2
namespace Go.Proofs.YtocficcmdlfafaaGreatDoor.modelAriths
open Go Go.RowKit Go.Proofs Go.Ai
theorem m0ok (W0 : World) [hg : GlOk gl W0] : FmOk Tryz.prog W0 m0 := by
  intro E w xs hr hx
  have g0 := rng0 (E.σ 0)
  have g1 := rng1 (E.σ 1)
  have g2 := rng2 (E.σ 2)
  by_cases q1 : IntKind.wrap .i32 (E.σ 1) < 0
  ·
    by_cases q2 : IntKind.wrap .i32 (E.σ 1) < (-1048576)
    ·
      by_cases q3 : IntKind.wrap .i32 (E.σ 1) < (-134217728)
      ·
        have c1 : (-2147483648) ≤ IntKind.wrap .i32 (E.σ 1) ∧ IntKind.wrap .i32 (E.σ 1) ≤ (-134217729) := by omega
        by_cases q4 : IntKind.wrap .i32 (E.σ 2) < 0
        ·
          by_cases q5 : IntKind.wrap .i32 (E.σ 2) < (-1048576)
          ·
            by_cases q6 : IntKind.wrap .i32 (E.σ 2) < (-134217728)
            ·
              have c2 : (-2147483648) ≤ IntKind.wrap .i32 (E.σ 2) ∧ IntKind.wrap .i32 (E.σ 2) ≤ (-134217729) := by omega
              exact case_ (m := m0) e0_m2147483648_m2147483648 (iv3 g0 c1 c2) hr hx
            ·
              have c2 : (-134217728) ≤ IntKind.wrap .i32 (E.σ 2) ∧ IntKind.wrap .i32 (E.σ 2) ≤ (-1048577) := by omega
              exact case_ (m := m0) e0_m2147483648_m134217728 (iv3 g0 c1 c2) hr hx
          ·
            by_cases q6 : IntKind.wrap .i32 (E.σ 2) < (-8192)
            ·
              have c2 : (-1048576) ≤ IntKind.wrap .i32 (E.σ 2) ∧ IntKind.wrap .i32 (E.σ 2) ≤ (-8193) := by omega
              exact case_ (m := m0) e0_m2147483648_m1048576 (iv3 g0 c1 c2) hr hx
            ·
              by_cases q7 : IntKind.wrap .i32 (E.σ 2) < (-64)
              ·
                have c2 : (-8192) ≤ IntKind.wrap .i32 (E.σ 2) ∧ IntKind.wrap .i32 (E.σ 2) ≤ (-65) := by omega
                exact case_ (m := m0) e0_m2147483648_m8192 (iv3 g0 c1 c2) hr hx
              ·
                have c2 : (-64) ≤ IntKind.wrap .i32 (E.σ 2) ∧ IntKind.wrap .i32 (E.σ 2) ≤ (-1) := by omega
                exact case_ (m := m0) e0_m2147483648_m64 (iv3 g0 c1 c2) hr hx
        ·
          by_cases q5 : IntKind.wrap .i32 (E.σ 2) < 8192
          ·
            by_cases q6 : IntKind.wrap .i32 (E.σ 2) < 64
            ·
              have c2 : 0 ≤ IntKind.wrap .i32 (E.σ 2) ∧ IntKind.wrap .i32 (E.σ 2) ≤ 63 := by omega
              exact case_ (m := m0) e0_m2147483648_0 (iv3 g0 c1 c2) hr hx
            ·
              have c2 : 64 ≤ IntKind.wrap .i32 (E.σ 2) ∧ IntKind.wrap .i32 (E.σ 2) ≤ 8191 := by omega
              exact case_ (m := m0) e0_m2147483648_64 (iv3 g0 c1 c2) hr hx
          ·
            by_cases q6 : IntKind.wrap .i32 (E.σ 2) < 1048576
            ·
              have c2 : 8192 ≤ IntKind.wrap .i32 (E.σ 2) ∧ IntKind.wrap .i32 (E.σ 2) ≤ 1048575 := by omega
              exact case_ (m := m0) e0_m2147483648_8192 (iv3 g0 c1 c2) hr hx
            ·
              by_cases q7 : IntKind.wrap .i32 (E.σ 2) < 134217728
              ·
                have c2 : 1048576 ≤ IntKind.wrap .i32 (E.σ 2) ∧ IntKind.wrap .i32 (E.σ 2) ≤ 134217727 := by omega
                exact case_ (m := m0) e0_m2147483648_1048576 (iv3 g0 c1 c2) hr hx
              ·
                have c2 : 134217728 ≤ IntKind.wrap .i32 (E.σ 2) ∧ IntKind.wrap .i32 (E.σ 2) ≤ 2147483647 := by omega
                exact case_ (m := m0) e0_m2147483648_134217728 (iv3 g0 c1 c2) hr hx
      ·
        have c1 : (-134217728) ≤ IntKind.wrap .i32 (E.σ 1) ∧ IntKind.wrap .i32 (E.σ 1) ≤ (-1048577) := by omega
        by_cases q4 : IntKind.wrap .i32 (E.σ 2) < 0
        ·
          by_cases q5 : IntKind.wrap .i32 (E.σ 2) < (-1048576)
          ·
            by_cases q6 : IntKind.wrap .i32 (E.σ 2) < (-134217728)
            ·
              have c2 : (-2147483648) ≤ IntKind.wrap .i32 (E.σ 2) ∧ IntKind.wrap .i32 (E.σ 2) ≤ (-134217729) := by omega
              exact case_ (m := m0) e0_m134217728_m2147483648 (iv3 g0 c1 c2) hr hx
            ·
              have c2 : (-134217728) ≤ IntKind.wrap .i32 (E.σ 2) ∧ IntKind.wrap .i32 (E.σ 2) ≤ (-1048577) := by omega
              exact case_ (m := m0) e0_m134217728_m134217728 (iv3 g0 c1 c2) hr hx
          ·
            by_cases q6 : IntKind.wrap .i32 (E.σ 2) < (-8192)
            ·
              have c2 : (-1048576) ≤ IntKind.wrap .i32 (E.σ 2) ∧ IntKind.wrap .i32 (E.σ 2) ≤ (-8193) := by omega
              exact case_ (m := m0) e0_m134217728_m1048576 (iv3 g0 c1 c2) hr hx
            ·
              by_cases q7 : IntKind.wrap .i32 (E.σ 2) < (-64)
              ·
                have c2 : (-8192) ≤ IntKind.wrap .i32 (E.σ 2) ∧ IntKind.wrap .i32 (E.σ 2) ≤ (-65) := by omega
                exact case_ (m := m0) e0_m134217728_m8192 (iv3 g0 c1 c2) hr hx
              ·
                have c2 : (-64) ≤ IntKind.wrap .i32 (E.σ 2) ∧ IntKind.wrap .i32 (E.σ 2) ≤ (-1) := by omega
                exact case_ (m := m0) e0_m134217728_m64 (iv3 g0 c1 c2) hr hx
        ·
          by_cases q5 : IntKind.wrap .i32 (E.σ 2) < 8192
          ·
            by_cases q6 : IntKind.wrap .i32 (E.σ 2) < 64
            ·
              have c2 : 0 ≤ IntKind.wrap .i32 (E.σ 2) ∧ IntKind.wrap .i32 (E.σ 2) ≤ 63 := by omega
              exact case_ (m := m0) e0_m134217728_0 (iv3 g0 c1 c2) hr hx
            ·
              have c2 : 64 ≤ IntKind.wrap .i32 (E.σ 2) ∧ IntKind.wrap .i32 (E.σ 2) ≤ 8191 := by omega
              exact case_ (m := m0) e0_m134217728_64 (iv3 g0 c1 c2) hr hx
          ·
            by_cases q6 : IntKind.wrap .i32 (E.σ 2) < 1048576
            ·
              have c2 : 8192 ≤ IntKind.wrap .i32 (E.σ 2) ∧ IntKind.wrap .i32 (E.σ 2) ≤ 1048575 := by omega
              exact case_ (m := m0) e0_m134217728_8192 (iv3 g0 c1 c2) hr hx
            ·
              by_cases q7 : IntKind.wrap .i32 (E.σ 2) < 134217728
              ·
                have c2 : 1048576 ≤ IntKind.wrap .i32 (E.σ 2) ∧ IntKind.wrap .i32 (E.σ 2) ≤ 134217727 := by omega
                exact case_ (m := m0) e0_m134217728_1048576 (iv3 g0 c1 c2) hr hx
              ·
                have c2 : 134217728 ≤ IntKind.wrap .i32 (E.σ 2) ∧ IntKind.wrap .i32 (E.σ 2) ≤ 2147483647 := by omega
                exact case_ (m := m0) e0_m134217728_134217728 (iv3 g0 c1 c2) hr hx
    ·
      by_cases q3 : IntKind.wrap .i32 (E.σ 1) < (-8192)
      ·
        have c1 : (-1048576) ≤ IntKind.wrap .i32 (E.σ 1) ∧ IntKind.wrap .i32 (E.σ 1) ≤ (-8193) := by omega
        by_cases q4 : IntKind.wrap .i32 (E.σ 2) < 0
        ·
          by_cases q5 : IntKind.wrap .i32 (E.σ 2) < (-1048576)
          ·
            by_cases q6 : IntKind.wrap .i32 (E.σ 2) < (-134217728)
            ·
              have c2 : (-2147483648) ≤ IntKind.wrap .i32 (E.σ 2) ∧ IntKind.wrap .i32 (E.σ 2) ≤ (-134217729) := by omega
              exact case_ (m := m0) e0_m1048576_m2147483648 (iv3 g0 c1 c2) hr hx
            ·
              have c2 : (-134217728) ≤ IntKind.wrap .i32 (E.σ 2) ∧ IntKind.wrap .i32 (E.σ 2) ≤ (-1048577) := by omega
              exact case_ (m := m0) e0_m1048576_m134217728 (iv3 g0 c1 c2) hr hx
          ·
            by_cases q6 : IntKind.wrap .i32 (E.σ 2) < (-8192)
            ·
              have c2 : (-1048576) ≤ IntKind.wrap .i32 (E.σ 2) ∧ IntKind.wrap .i32 (E.σ 2) ≤ (-8193) := by omega
              exact case_ (m := m0) e0_m1048576_m1048576 (iv3 g0 c1 c2) hr hx
            ·
              by_cases q7 : IntKind.wrap .i32 (E.σ 2) < (-64)
              ·
                have c2 : (-8192) ≤ IntKind.wrap .i32 (E.σ 2) ∧ IntKind.wrap .i32 (E.σ 2) ≤ (-65) := by omega
                exact case_ (m := m0) e0_m1048576_m8192 (iv3 g0 c1 c2) hr hx
              ·
                have c2 : (-64) ≤ IntKind.wrap .i32 (E.σ 2) ∧ IntKind.wrap .i32 (E.σ 2) ≤ (-1) := by omega
                exact case_ (m := m0) e0_m1048576_m64 (iv3 g0 c1 c2) hr hx
        ·
          by_cases q5 : IntKind.wrap .i32 (E.σ 2) < 8192
          ·
            by_cases q6 : IntKind.wrap .i32 (E.σ 2) < 64
            ·
              have c2 : 0 ≤ IntKind.wrap .i32 (E.σ 2) ∧ IntKind.wrap .i32 (E.σ 2) ≤ 63 := by omega
              exact case_ (m := m0) e0_m1048576_0 (iv3 g0 c1 c2) hr hx
            ·
              have c2 : 64 ≤ IntKind.wrap .i32 (E.σ 2) ∧ IntKind.wrap .i32 (E.σ 2) ≤ 8191 := by omega
              exact case_ (m := m0) e0_m1048576_64 (iv3 g0 c1 c2) hr hx
          ·
            by_cases q6 : IntKind.wrap .i32 (E.σ 2) < 1048576
            ·
              have c2 : 8192 ≤ IntKind.wrap .i32 (E.σ 2) ∧ IntKind.wrap .i32 (E.σ 2) ≤ 1048575 := by omega
              exact case_ (m := m0) e0_m1048576_8192 (iv3 g0 c1 c2) hr hx
            ·
              by_cases q7 : IntKind.wrap .i32 (E.σ 2) < 134217728
              ·
                have c2 : 1048576 ≤ IntKind.wrap .i32 (E.σ 2) ∧ IntKind.wrap .i32 (E.σ 2) ≤ 134217727 := by omega
                exact case_ (m := m0) e0_m1048576_1048576 (iv3 g0 c1 c2) hr hx
              ·
                have c2 : 134217728 ≤ IntKind.wrap .i32 (E.σ 2) ∧ IntKind.wrap .i32 (E.σ 2) ≤ 2147483647 := by omega
                exact case_ (m := m0) e0_m1048576_134217728 (iv3 g0 c1 c2) hr hx
      ·
        by_cases q4 : IntKind.wrap .i32 (E.σ 1) < (-64)
        ·
          have c1 : (-8192) ≤ IntKind.wrap .i32 (E.σ 1) ∧ IntKind.wrap .i32 (E.σ 1) ≤ (-65) := by omega
          by_cases q5 : IntKind.wrap .i32 (E.σ 2) < 0
          ·
            by_cases q6 : IntKind.wrap .i32 (E.σ 2) < (-1048576)
            ·
              by_cases q7 : IntKind.wrap .i32 (E.σ 2) < (-134217728)
              ·
                have c2 : (-2147483648) ≤ IntKind.wrap .i32 (E.σ 2) ∧ IntKind.wrap .i32 (E.σ 2) ≤ (-134217729) := by omega
                exact case_ (m := m0) e0_m8192_m2147483648 (iv3 g0 c1 c2) hr hx
              ·
                have c2 : (-134217728) ≤ IntKind.wrap .i32 (E.σ 2) ∧ IntKind.wrap .i32 (E.σ 2) ≤ (-1048577) := by omega
                exact case_ (m := m0) e0_m8192_m134217728 (iv3 g0 c1 c2) hr hx
            ·
              by_cases q7 : IntKind.wrap .i32 (E.σ 2) < (-8192)
              ·
                have c2 : (-1048576) ≤ IntKind.wrap .i32 (E.σ 2) ∧ IntKind.wrap .i32 (E.σ 2) ≤ (-8193) := by omega
                exact case_ (m := m0) e0_m8192_m1048576 (iv3 g0 c1 c2) hr hx
              ·
                by_cases q8 : IntKind.wrap .i32 (E.σ 2) < (-64)
                ·
                  have c2 : (-8192) ≤ IntKind.wrap .i32 (E.σ 2) ∧ IntKind.wrap .i32 (E.σ 2) ≤ (-65) := by omega
                  exact case_ (m := m0) e0_m8192_m8192 (iv3 g0 c1 c2) hr hx
                ·
                  have c2 : (-64) ≤ IntKind.wrap .i32 (E.σ 2) ∧ IntKind.wrap .i32 (E.σ 2) ≤ (-1) := by omega
                  exact case_ (m := m0) e0_m8192_m64 (iv3 g0 c1 c2) hr hx
          ·
            by_cases q6 : IntKind.wrap .i32 (E.σ 2) < 8192
            ·
              by_cases q7 : IntKind.wrap .i32 (E.σ 2) < 64
              ·
                have c2 : 0 ≤ IntKind.wrap .i32 (E.σ 2) ∧ IntKind.wrap .i32 (E.σ 2) ≤ 63 := by omega
                exact case_ (m := m0) e0_m8192_0 (iv3 g0 c1 c2) hr hx
              ·
                have c2 : 64 ≤ IntKind.wrap .i32 (E.σ 2) ∧ IntKind.wrap .i32 (E.σ 2) ≤ 8191 := by omega
                exact case_ (m := m0) e0_m8192_64 (iv3 g0 c1 c2) hr hx
            ·
              by_cases q7 : IntKind.wrap .i32 (E.σ 2) < 1048576
              ·
                have c2 : 8192 ≤ IntKind.wrap .i32 (E.σ 2) ∧ IntKind.wrap .i32 (E.σ 2) ≤ 1048575 := by omega
                exact case_ (m := m0) e0_m8192_8192 (iv3 g0 c1 c2) hr hx
              ·
                by_cases q8 : IntKind.wrap .i32 (E.σ 2) < 134217728
                ·
                  have c2 : 1048576 ≤ IntKind.wrap .i32 (E.σ 2) ∧ IntKind.wrap .i32 (E.σ 2) ≤ 134217727 := by omega
                  exact case_ (m := m0) e0_m8192_1048576 (iv3 g0 c1 c2) hr hx
                ·
                  have c2 : 134217728 ≤ IntKind.wrap .i32 (E.σ 2) ∧ IntKind.wrap .i32 (E.σ 2) ≤ 2147483647 := by omega
                  exact case_ (m := m0) e0_m8192_134217728 (iv3 g0 c1 c2) hr hx
        ·
          have c1 : (-64) ≤ IntKind.wrap .i32 (E.σ 1) ∧ IntKind.wrap .i32 (E.σ 1) ≤ (-1) := by omega
          by_cases q5 : IntKind.wrap .i32 (E.σ 2) < 0
          ·
            by_cases q6 : IntKind.wrap .i32 (E.σ 2) < (-1048576)
            ·
              by_cases q7 : IntKind.wrap .i32 (E.σ 2) < (-134217728)
              ·
                have c2 : (-2147483648) ≤ IntKind.wrap .i32 (E.σ 2) ∧ IntKind.wrap .i32 (E.σ 2) ≤ (-134217729) := by omega
                exact case_ (m := m0) e0_m64_m2147483648 (iv3 g0 c1 c2) hr hx
              ·
                have c2 : (-134217728) ≤ IntKind.wrap .i32 (E.σ 2) ∧ IntKind.wrap .i32 (E.σ 2) ≤ (-1048577) := by omega
                exact case_ (m := m0) e0_m64_m134217728 (iv3 g0 c1 c2) hr hx
            ·
              by_cases q7 : IntKind.wrap .i32 (E.σ 2) < (-8192)
              ·
                have c2 : (-1048576) ≤ IntKind.wrap .i32 (E.σ 2) ∧ IntKind.wrap .i32 (E.σ 2) ≤ (-8193) := by omega
                exact case_ (m := m0) e0_m64_m1048576 (iv3 g0 c1 c2) hr hx
              ·
                by_cases q8 : IntKind.wrap .i32 (E.σ 2) < (-64)
                ·
                  have c2 : (-8192) ≤ IntKind.wrap .i32 (E.σ 2) ∧ IntKind.wrap .i32 (E.σ 2) ≤ (-65) := by omega
                  exact case_ (m := m0) e0_m64_m8192 (iv3 g0 c1 c2) hr hx
                ·
                  have c2 : (-64) ≤ IntKind.wrap .i32 (E.σ 2) ∧ IntKind.wrap .i32 (E.σ 2) ≤ (-1) := by omega
                  exact case_ (m := m0) e0_m64_m64 (iv3 g0 c1 c2) hr hx
          ·
            by_cases q6 : IntKind.wrap .i32 (E.σ 2) < 8192
            ·
              by_cases q7 : IntKind.wrap .i32 (E.σ 2) < 64
              ·
                have c2 : 0 ≤ IntKind.wrap .i32 (E.σ 2) ∧ IntKind.wrap .i32 (E.σ 2) ≤ 63 := by omega
                exact case_ (m := m0) e0_m64_0 (iv3 g0 c1 c2) hr hx
              ·
                have c2 : 64 ≤ IntKind.wrap .i32 (E.σ 2) ∧ IntKind.wrap .i32 (E.σ 2) ≤ 8191 := by omega
                exact case_ (m := m0) e0_m64_64 (iv3 g0 c1 c2) hr hx
            ·
              by_cases q7 : IntKind.wrap .i32 (E.σ 2) < 1048576
              ·
                have c2 : 8192 ≤ IntKind.wrap .i32 (E.σ 2) ∧ IntKind.wrap .i32 (E.σ 2) ≤ 1048575 := by omega
                exact case_ (m := m0) e0_m64_8192 (iv3 g0 c1 c2) hr hx
              ·
                by_cases q8 : IntKind.wrap .i32 (E.σ 2) < 134217728
                ·
                  have c2 : 1048576 ≤ IntKind.wrap .i32 (E.σ 2) ∧ IntKind.wrap .i32 (E.σ 2) ≤ 134217727 := by omega
                  exact case_ (m := m0) e0_m64_1048576 (iv3 g0 c1 c2) hr hx
                ·
                  have c2 : 134217728 ≤ IntKind.wrap .i32 (E.σ 2) ∧ IntKind.wrap .i32 (E.σ 2) ≤ 2147483647 := by omega
                  exact case_ (m := m0) e0_m64_134217728 (iv3 g0 c1 c2) hr hx
  ·
    by_cases q2 : IntKind.wrap .i32 (E.σ 1) < 8192
    ·
      by_cases q3 : IntKind.wrap .i32 (E.σ 1) < 64
      ·
        have c1 : 0 ≤ IntKind.wrap .i32 (E.σ 1) ∧ IntKind.wrap .i32 (E.σ 1) ≤ 63 := by omega
        by_cases q4 : IntKind.wrap .i32 (E.σ 2) < 0
        ·
          by_cases q5 : IntKind.wrap .i32 (E.σ 2) < (-1048576)
          ·
            by_cases q6 : IntKind.wrap .i32 (E.σ 2) < (-134217728)
            ·
              have c2 : (-2147483648) ≤ IntKind.wrap .i32 (E.σ 2) ∧ IntKind.wrap .i32 (E.σ 2) ≤ (-134217729) := by omega
              exact case_ (m := m0) e0_0_m2147483648 (iv3 g0 c1 c2) hr hx
            ·
              have c2 : (-134217728) ≤ IntKind.wrap .i32 (E.σ 2) ∧ IntKind.wrap .i32 (E.σ 2) ≤ (-1048577) := by omega
              exact case_ (m := m0) e0_0_m134217728 (iv3 g0 c1 c2) hr hx
          ·
            by_cases q6 : IntKind.wrap .i32 (E.σ 2) < (-8192)
            ·
              have c2 : (-1048576) ≤ IntKind.wrap .i32 (E.σ 2) ∧ IntKind.wrap .i32 (E.σ 2) ≤ (-8193) := by omega
              exact case_ (m := m0) e0_0_m1048576 (iv3 g0 c1 c2) hr hx
            ·
              by_cases q7 : IntKind.wrap .i32 (E.σ 2) < (-64)
              ·
                have c2 : (-8192) ≤ IntKind.wrap .i32 (E.σ 2) ∧ IntKind.wrap .i32 (E.σ 2) ≤ (-65) := by omega
                exact case_ (m := m0) e0_0_m8192 (iv3 g0 c1 c2) hr hx
              ·
                have c2 : (-64) ≤ IntKind.wrap .i32 (E.σ 2) ∧ IntKind.wrap .i32 (E.σ 2) ≤ (-1) := by omega
                exact case_ (m := m0) e0_0_m64 (iv3 g0 c1 c2) hr hx
        ·
          by_cases q5 : IntKind.wrap .i32 (E.σ 2) < 8192
          ·
            by_cases q6 : IntKind.wrap .i32 (E.σ 2) < 64
            ·
              have c2 : 0 ≤ IntKind.wrap .i32 (E.σ 2) ∧ IntKind.wrap .i32 (E.σ 2) ≤ 63 := by omega
              exact case_ (m := m0) e0_0_0 (iv3 g0 c1 c2) hr hx
            ·
              have c2 : 64 ≤ IntKind.wrap .i32 (E.σ 2) ∧ IntKind.wrap .i32 (E.σ 2) ≤ 8191 := by omega
              exact case_ (m := m0) e0_0_64 (iv3 g0 c1 c2) hr hx
          ·
            by_cases q6 : IntKind.wrap .i32 (E.σ 2) < 1048576
            ·
              have c2 : 8192 ≤ IntKind.wrap .i32 (E.σ 2) ∧ IntKind.wrap .i32 (E.σ 2) ≤ 1048575 := by omega
              exact case_ (m := m0) e0_0_8192 (iv3 g0 c1 c2) hr hx
            ·
              by_cases q7 : IntKind.wrap .i32 (E.σ 2) < 134217728
              ·
                have c2 : 1048576 ≤ IntKind.wrap .i32 (E.σ 2) ∧ IntKind.wrap .i32 (E.σ 2) ≤ 134217727 := by omega
                exact case_ (m := m0) e0_0_1048576 (iv3 g0 c1 c2) hr hx
              ·
                have c2 : 134217728 ≤ IntKind.wrap .i32 (E.σ 2) ∧ IntKind.wrap .i32 (E.σ 2) ≤ 2147483647 := by omega
                exact case_ (m := m0) e0_0_134217728 (iv3 g0 c1 c2) hr hx
      ·
        have c1 : 64 ≤ IntKind.wrap .i32 (E.σ 1) ∧ IntKind.wrap .i32 (E.σ 1) ≤ 8191 := by omega
        by_cases q4 : IntKind.wrap .i32 (E.σ 2) < 0
        ·
          by_cases q5 : IntKind.wrap .i32 (E.σ 2) < (-1048576)
          ·
            by_cases q6 : IntKind.wrap .i32 (E.σ 2) < (-134217728)
            ·
              have c2 : (-2147483648) ≤ IntKind.wrap .i32 (E.σ 2) ∧ IntKind.wrap .i32 (E.σ 2) ≤ (-134217729) := by omega
              exact case_ (m := m0) e0_64_m2147483648 (iv3 g0 c1 c2) hr hx
            ·
              have c2 : (-134217728) ≤ IntKind.wrap .i32 (E.σ 2) ∧ IntKind.wrap .i32 (E.σ 2) ≤ (-1048577) := by omega
              exact case_ (m := m0) e0_64_m134217728 (iv3 g0 c1 c2) hr hx
          ·
            by_cases q6 : IntKind.wrap .i32 (E.σ 2) < (-8192)
            ·
              have c2 : (-1048576) ≤ IntKind.wrap .i32 (E.σ 2) ∧ IntKind.wrap .i32 (E.σ 2) ≤ (-8193) := by omega
              exact case_ (m := m0) e0_64_m1048576 (iv3 g0 c1 c2) hr hx
            ·
              by_cases q7 : IntKind.wrap .i32 (E.σ 2) < (-64)
              ·
                have c2 : (-8192) ≤ IntKind.wrap .i32 (E.σ 2) ∧ IntKind.wrap .i32 (E.σ 2) ≤ (-65) := by omega
                exact case_ (m := m0) e0_64_m8192 (iv3 g0 c1 c2) hr hx
              ·
                have c2 : (-64) ≤ IntKind.wrap .i32 (E.σ 2) ∧ IntKind.wrap .i32 (E.σ 2) ≤ (-1) := by omega
                exact case_ (m := m0) e0_64_m64 (iv3 g0 c1 c2) hr hx
        ·
          by_cases q5 : IntKind.wrap .i32 (E.σ 2) < 8192
          ·
            by_cases q6 : IntKind.wrap .i32 (E.σ 2) < 64
            ·
              have c2 : 0 ≤ IntKind.wrap .i32 (E.σ 2) ∧ IntKind.wrap .i32 (E.σ 2) ≤ 63 := by omega
              exact case_ (m := m0) e0_64_0 (iv3 g0 c1 c2) hr hx
            ·
              have c2 : 64 ≤ IntKind.wrap .i32 (E.σ 2) ∧ IntKind.wrap .i32 (E.σ 2) ≤ 8191 := by omega
              exact case_ (m := m0) e0_64_64 (iv3 g0 c1 c2) hr hx
          ·
            by_cases q6 : IntKind.wrap .i32 (E.σ 2) < 1048576
            ·
              have c2 : 8192 ≤ IntKind.wrap .i32 (E.σ 2) ∧ IntKind.wrap .i32 (E.σ 2) ≤ 1048575 := by omega
              exact case_ (m := m0) e0_64_8192 (iv3 g0 c1 c2) hr hx
            ·
              by_cases q7 : IntKind.wrap .i32 (E.σ 2) < 134217728
              ·
                have c2 : 1048576 ≤ IntKind.wrap .i32 (E.σ 2) ∧ IntKind.wrap .i32 (E.σ 2) ≤ 134217727 := by omega
                exact case_ (m := m0) e0_64_1048576 (iv3 g0 c1 c2) hr hx
              ·
                have c2 : 134217728 ≤ IntKind.wrap .i32 (E.σ 2) ∧ IntKind.wrap .i32 (E.σ 2) ≤ 2147483647 := by omega
                exact case_ (m := m0) e0_64_134217728 (iv3 g0 c1 c2) hr hx
    ·
      by_cases q3 : IntKind.wrap .i32 (E.σ 1) < 1048576
      ·
        have c1 : 8192 ≤ IntKind.wrap .i32 (E.σ 1) ∧ IntKind.wrap .i32 (E.σ 1) ≤ 1048575 := by omega
        by_cases q4 : IntKind.wrap .i32 (E.σ 2) < 0
        ·
          by_cases q5 : IntKind.wrap .i32 (E.σ 2) < (-1048576)
          ·
            by_cases q6 : IntKind.wrap .i32 (E.σ 2) < (-134217728)
            ·
              have c2 : (-2147483648) ≤ IntKind.wrap .i32 (E.σ 2) ∧ IntKind.wrap .i32 (E.σ 2) ≤ (-134217729) := by omega
              exact case_ (m := m0) e0_8192_m2147483648 (iv3 g0 c1 c2) hr hx
            ·
              have c2 : (-134217728) ≤ IntKind.wrap .i32 (E.σ 2) ∧ IntKind.wrap .i32 (E.σ 2) ≤ (-1048577) := by omega
              exact case_ (m := m0) e0_8192_m134217728 (iv3 g0 c1 c2) hr hx
          ·
            by_cases q6 : IntKind.wrap .i32 (E.σ 2) < (-8192)
            ·
              have c2 : (-1048576) ≤ IntKind.wrap .i32 (E.σ 2) ∧ IntKind.wrap .i32 (E.σ 2) ≤ (-8193) := by omega
              exact case_ (m := m0) e0_8192_m1048576 (iv3 g0 c1 c2) hr hx
            ·
              by_cases q7 : IntKind.wrap .i32 (E.σ 2) < (-64)
              ·
                have c2 : (-8192) ≤ IntKind.wrap .i32 (E.σ 2) ∧ IntKind.wrap .i32 (E.σ 2) ≤ (-65) := by omega
                exact case_ (m := m0) e0_8192_m8192 (iv3 g0 c1 c2) hr hx
              ·
                have c2 : (-64) ≤ IntKind.wrap .i32 (E.σ 2) ∧ IntKind.wrap .i32 (E.σ 2) ≤ (-1) := by omega
                exact case_ (m := m0) e0_8192_m64 (iv3 g0 c1 c2) hr hx
        ·
          by_cases q5 : IntKind.wrap .i32 (E.σ 2) < 8192
          ·
            by_cases q6 : IntKind.wrap .i32 (E.σ 2) < 64
            ·
              have c2 : 0 ≤ IntKind.wrap .i32 (E.σ 2) ∧ IntKind.wrap .i32 (E.σ 2) ≤ 63 := by omega
              exact case_ (m := m0) e0_8192_0 (iv3 g0 c1 c2) hr hx
            ·
              have c2 : 64 ≤ IntKind.wrap .i32 (E.σ 2) ∧ IntKind.wrap .i32 (E.σ 2) ≤ 8191 := by omega
              exact case_ (m := m0) e0_8192_64 (iv3 g0 c1 c2) hr hx
          ·
            by_cases q6 : IntKind.wrap .i32 (E.σ 2) < 1048576
            ·
              have c2 : 8192 ≤ IntKind.wrap .i32 (E.σ 2) ∧ IntKind.wrap .i32 (E.σ 2) ≤ 1048575 := by omega
              exact case_ (m := m0) e0_8192_8192 (iv3 g0 c1 c2) hr hx
            ·
              by_cases q7 : IntKind.wrap .i32 (E.σ 2) < 134217728
              ·
                have c2 : 1048576 ≤ IntKind.wrap .i32 (E.σ 2) ∧ IntKind.wrap .i32 (E.σ 2) ≤ 134217727 := by omega
                exact case_ (m := m0) e0_8192_1048576 (iv3 g0 c1 c2) hr hx
              ·
                have c2 : 134217728 ≤ IntKind.wrap .i32 (E.σ 2) ∧ IntKind.wrap .i32 (E.σ 2) ≤ 2147483647 := by omega
                exact case_ (m := m0) e0_8192_134217728 (iv3 g0 c1 c2) hr hx
      ·
        by_cases q4 : IntKind.wrap .i32 (E.σ 1) < 134217728
        ·
          have c1 : 1048576 ≤ IntKind.wrap .i32 (E.σ 1) ∧ IntKind.wrap .i32 (E.σ 1) ≤ 134217727 := by omega
          by_cases q5 : IntKind.wrap .i32 (E.σ 2) < 0
          ·
            by_cases q6 : IntKind.wrap .i32 (E.σ 2) < (-1048576)
            ·
              by_cases q7 : IntKind.wrap .i32 (E.σ 2) < (-134217728)
              ·
                have c2 : (-2147483648) ≤ IntKind.wrap .i32 (E.σ 2) ∧ IntKind.wrap .i32 (E.σ 2) ≤ (-134217729) := by omega
                exact case_ (m := m0) e0_1048576_m2147483648 (iv3 g0 c1 c2) hr hx
              ·
                have c2 : (-134217728) ≤ IntKind.wrap .i32 (E.σ 2) ∧ IntKind.wrap .i32 (E.σ 2) ≤ (-1048577) := by omega
                exact case_ (m := m0) e0_1048576_m134217728 (iv3 g0 c1 c2) hr hx
            ·
              by_cases q7 : IntKind.wrap .i32 (E.σ 2) < (-8192)
              ·
                have c2 : (-1048576) ≤ IntKind.wrap .i32 (E.σ 2) ∧ IntKind.wrap .i32 (E.σ 2) ≤ (-8193) := by omega
                exact case_ (m := m0) e0_1048576_m1048576 (iv3 g0 c1 c2) hr hx
              ·
                by_cases q8 : IntKind.wrap .i32 (E.σ 2) < (-64)
                ·
                  have c2 : (-8192) ≤ IntKind.wrap .i32 (E.σ 2) ∧ IntKind.wrap .i32 (E.σ 2) ≤ (-65) := by omega
                  exact case_ (m := m0) e0_1048576_m8192 (iv3 g0 c1 c2) hr hx
                ·
                  have c2 : (-64) ≤ IntKind.wrap .i32 (E.σ 2) ∧ IntKind.wrap .i32 (E.σ 2) ≤ (-1) := by omega
                  exact case_ (m := m0) e0_1048576_m64 (iv3 g0 c1 c2) hr hx
          ·
            by_cases q6 : IntKind.wrap .i32 (E.σ 2) < 8192
            ·
              by_cases q7 : IntKind.wrap .i32 (E.σ 2) < 64
              ·
                have c2 : 0 ≤ IntKind.wrap .i32 (E.σ 2) ∧ IntKind.wrap .i32 (E.σ 2) ≤ 63 := by omega
                exact case_ (m := m0) e0_1048576_0 (iv3 g0 c1 c2) hr hx
              ·
                have c2 : 64 ≤ IntKind.wrap .i32 (E.σ 2) ∧ IntKind.wrap .i32 (E.σ 2) ≤ 8191 := by omega
                exact case_ (m := m0) e0_1048576_64 (iv3 g0 c1 c2) hr hx
            ·
              by_cases q7 : IntKind.wrap .i32 (E.σ 2) < 1048576
              ·
                have c2 : 8192 ≤ IntKind.wrap .i32 (E.σ 2) ∧ IntKind.wrap .i32 (E.σ 2) ≤ 1048575 := by omega
                exact case_ (m := m0) e0_1048576_8192 (iv3 g0 c1 c2) hr hx
              ·
                by_cases q8 : IntKind.wrap .i32 (E.σ 2) < 134217728
                ·
                  have c2 : 1048576 ≤ IntKind.wrap .i32 (E.σ 2) ∧ IntKind.wrap .i32 (E.σ 2) ≤ 134217727 := by omega
                  exact case_ (m := m0) e0_1048576_1048576 (iv3 g0 c1 c2) hr hx
                ·
                  have c2 : 134217728 ≤ IntKind.wrap .i32 (E.σ 2) ∧ IntKind.wrap .i32 (E.σ 2) ≤ 2147483647 := by omega
                  exact case_ (m := m0) e0_1048576_134217728 (iv3 g0 c1 c2) hr hx
        ·
          have c1 : 134217728 ≤ IntKind.wrap .i32 (E.σ 1) ∧ IntKind.wrap .i32 (E.σ 1) ≤ 2147483647 := by omega
          by_cases q5 : IntKind.wrap .i32 (E.σ 2) < 0
          ·
            by_cases q6 : IntKind.wrap .i32 (E.σ 2) < (-1048576)
            ·
              by_cases q7 : IntKind.wrap .i32 (E.σ 2) < (-134217728)
              ·
                have c2 : (-2147483648) ≤ IntKind.wrap .i32 (E.σ 2) ∧ IntKind.wrap .i32 (E.σ 2) ≤ (-134217729) := by omega
                exact case_ (m := m0) e0_134217728_m2147483648 (iv3 g0 c1 c2) hr hx
              ·
                have c2 : (-134217728) ≤ IntKind.wrap .i32 (E.σ 2) ∧ IntKind.wrap .i32 (E.σ 2) ≤ (-1048577) := by omega
                exact case_ (m := m0) e0_134217728_m134217728 (iv3 g0 c1 c2) hr hx
            ·
              by_cases q7 : IntKind.wrap .i32 (E.σ 2) < (-8192)
              ·
                have c2 : (-1048576) ≤ IntKind.wrap .i32 (E.σ 2) ∧ IntKind.wrap .i32 (E.σ 2) ≤ (-8193) := by omega
                exact case_ (m := m0) e0_134217728_m1048576 (iv3 g0 c1 c2) hr hx
              ·
                by_cases q8 : IntKind.wrap .i32 (E.σ 2) < (-64)
                ·
                  have c2 : (-8192) ≤ IntKind.wrap .i32 (E.σ 2) ∧ IntKind.wrap .i32 (E.σ 2) ≤ (-65) := by omega
                  exact case_ (m := m0) e0_134217728_m8192 (iv3 g0 c1 c2) hr hx
                ·
                  have c2 : (-64) ≤ IntKind.wrap .i32 (E.σ 2) ∧ IntKind.wrap .i32 (E.σ 2) ≤ (-1) := by omega
                  exact case_ (m := m0) e0_134217728_m64 (iv3 g0 c1 c2) hr hx
          ·
            by_cases q6 : IntKind.wrap .i32 (E.σ 2) < 8192
            ·
              by_cases q7 : IntKind.wrap .i32 (E.σ 2) < 64
              ·
                have c2 : 0 ≤ IntKind.wrap .i32 (E.σ 2) ∧ IntKind.wrap .i32 (E.σ 2) ≤ 63 := by omega
                exact case_ (m := m0) e0_134217728_0 (iv3 g0 c1 c2) hr hx
              ·
                have c2 : 64 ≤ IntKind.wrap .i32 (E.σ 2) ∧ IntKind.wrap .i32 (E.σ 2) ≤ 8191 := by omega
                exact case_ (m := m0) e0_134217728_64 (iv3 g0 c1 c2) hr hx
            ·
              by_cases q7 : IntKind.wrap .i32 (E.σ 2) < 1048576
              ·
                have c2 : 8192 ≤ IntKind.wrap .i32 (E.σ 2) ∧ IntKind.wrap .i32 (E.σ 2) ≤ 1048575 := by omega
                exact case_ (m := m0) e0_134217728_8192 (iv3 g0 c1 c2) hr hx
              ·
                by_cases q8 : IntKind.wrap .i32 (E.σ 2) < 134217728
                ·
                  have c2 : 1048576 ≤ IntKind.wrap .i32 (E.σ 2) ∧ IntKind.wrap .i32 (E.σ 2) ≤ 134217727 := by omega
                  exact case_ (m := m0) e0_134217728_1048576 (iv3 g0 c1 c2) hr hx
                ·
                  have c2 : 134217728 ≤ IntKind.wrap .i32 (E.σ 2) ∧ IntKind.wrap .i32 (E.σ 2) ≤ 2147483647 := by omega
                  exact case_ (m := m0) e0_134217728_134217728 (iv3 g0 c1 c2) hr hx
theorem m1ok (W0 : World) [hg : GlOk gl W0] : FmOk Tryz.prog W0 m1 := by
  intro E w xs hr hx
  have g0 := rng0 (E.σ 0)
  have g1 := rng1 (E.σ 1)
  have g2 := rng2 (E.σ 2)
  by_cases q1 : IntKind.wrap .i32 (E.σ 2) < 0
  ·
    by_cases q2 : IntKind.wrap .i32 (E.σ 2) < (-1048576)
    ·
      by_cases q3 : IntKind.wrap .i32 (E.σ 2) < (-134217728)
      ·
        have c2 : (-2147483648) ≤ IntKind.wrap .i32 (E.σ 2) ∧ IntKind.wrap .i32 (E.σ 2) ≤ (-134217729) := by omega
        exact case_ (m := m1) e1_m2147483648 (iv3 g0 g1 c2) hr hx
      ·
        have c2 : (-134217728) ≤ IntKind.wrap .i32 (E.σ 2) ∧ IntKind.wrap .i32 (E.σ 2) ≤ (-1048577) := by omega
        exact case_ (m := m1) e1_m134217728 (iv3 g0 g1 c2) hr hx
    ·
      by_cases q3 : IntKind.wrap .i32 (E.σ 2) < (-8192)
      ·
        have c2 : (-1048576) ≤ IntKind.wrap .i32 (E.σ 2) ∧ IntKind.wrap .i32 (E.σ 2) ≤ (-8193) := by omega
        exact case_ (m := m1) e1_m1048576 (iv3 g0 g1 c2) hr hx
      ·
        by_cases q4 : IntKind.wrap .i32 (E.σ 2) < (-64)
        ·
          have c2 : (-8192) ≤ IntKind.wrap .i32 (E.σ 2) ∧ IntKind.wrap .i32 (E.σ 2) ≤ (-65) := by omega
          exact case_ (m := m1) e1_m8192 (iv3 g0 g1 c2) hr hx
        ·
          have c2 : (-64) ≤ IntKind.wrap .i32 (E.σ 2) ∧ IntKind.wrap .i32 (E.σ 2) ≤ (-1) := by omega
          exact case_ (m := m1) e1_m64 (iv3 g0 g1 c2) hr hx
  ·
    by_cases q2 : IntKind.wrap .i32 (E.σ 2) < 8192
    ·
      by_cases q3 : IntKind.wrap .i32 (E.σ 2) < 64
      ·
        have c2 : 0 ≤ IntKind.wrap .i32 (E.σ 2) ∧ IntKind.wrap .i32 (E.σ 2) ≤ 63 := by omega
        exact case_ (m := m1) e1_0 (iv3 g0 g1 c2) hr hx
      ·
        have c2 : 64 ≤ IntKind.wrap .i32 (E.σ 2) ∧ IntKind.wrap .i32 (E.σ 2) ≤ 8191 := by omega
        exact case_ (m := m1) e1_64 (iv3 g0 g1 c2) hr hx
    ·
      by_cases q3 : IntKind.wrap .i32 (E.σ 2) < 1048576
      ·
        have c2 : 8192 ≤ IntKind.wrap .i32 (E.σ 2) ∧ IntKind.wrap .i32 (E.σ 2) ≤ 1048575 := by omega
        exact case_ (m := m1) e1_8192 (iv3 g0 g1 c2) hr hx
      ·
        by_cases q4 : IntKind.wrap .i32 (E.σ 2) < 134217728
        ·
          have c2 : 1048576 ≤ IntKind.wrap .i32 (E.σ 2) ∧ IntKind.wrap .i32 (E.σ 2) ≤ 134217727 := by omega
          exact case_ (m := m1) e1_1048576 (iv3 g0 g1 c2) hr hx
        ·
          have c2 : 134217728 ≤ IntKind.wrap .i32 (E.σ 2) ∧ IntKind.wrap .i32 (E.σ 2) ≤ 2147483647 := by omega
          exact case_ (m := m1) e1_134217728 (iv3 g0 g1 c2) hr hx
theorem m2ok (W0 : World) [hg : GlOk gl W0] : FmOk Tryz.prog W0 m2 := by
  intro E w xs hr hx
  have g0 := rng0 (E.σ 0)
  have g1 := rng1 (E.σ 1)
  have g2 := rng2 (E.σ 2)
  by_cases q1 : IntKind.wrap .i32 (E.σ 1) < 0
  ·
    by_cases q2 : IntKind.wrap .i32 (E.σ 1) < (-1048576)
    ·
      by_cases q3 : IntKind.wrap .i32 (E.σ 1) < (-134217728)
      ·
        have c1 : (-2147483648) ≤ IntKind.wrap .i32 (E.σ 1) ∧ IntKind.wrap .i32 (E.σ 1) ≤ (-134217729) := by omega
        exact case_ (m := m2) e2_m2147483648 (iv3 g0 c1 g2) hr hx
      ·
        have c1 : (-134217728) ≤ IntKind.wrap .i32 (E.σ 1) ∧ IntKind.wrap .i32 (E.σ 1) ≤ (-1048577) := by omega
        exact case_ (m := m2) e2_m134217728 (iv3 g0 c1 g2) hr hx
    ·
      by_cases q3 : IntKind.wrap .i32 (E.σ 1) < (-8192)
      ·
        have c1 : (-1048576) ≤ IntKind.wrap .i32 (E.σ 1) ∧ IntKind.wrap .i32 (E.σ 1) ≤ (-8193) := by omega
        exact case_ (m := m2) e2_m1048576 (iv3 g0 c1 g2) hr hx
      ·
        by_cases q4 : IntKind.wrap .i32 (E.σ 1) < (-64)
        ·
          have c1 : (-8192) ≤ IntKind.wrap .i32 (E.σ 1) ∧ IntKind.wrap .i32 (E.σ 1) ≤ (-65) := by omega
          exact case_ (m := m2) e2_m8192 (iv3 g0 c1 g2) hr hx
        ·
          have c1 : (-64) ≤ IntKind.wrap .i32 (E.σ 1) ∧ IntKind.wrap .i32 (E.σ 1) ≤ (-1) := by omega
          exact case_ (m := m2) e2_m64 (iv3 g0 c1 g2) hr hx
  ·
    by_cases q2 : IntKind.wrap .i32 (E.σ 1) < 8192
    ·
      by_cases q3 : IntKind.wrap .i32 (E.σ 1) < 64
      ·
        have c1 : 0 ≤ IntKind.wrap .i32 (E.σ 1) ∧ IntKind.wrap .i32 (E.σ 1) ≤ 63 := by omega
        exact case_ (m := m2) e2_0 (iv3 g0 c1 g2) hr hx
      ·
        have c1 : 64 ≤ IntKind.wrap .i32 (E.σ 1) ∧ IntKind.wrap .i32 (E.σ 1) ≤ 8191 := by omega
        exact case_ (m := m2) e2_64 (iv3 g0 c1 g2) hr hx
    ·
      by_cases q3 : IntKind.wrap .i32 (E.σ 1) < 1048576
      ·
        have c1 : 8192 ≤ IntKind.wrap .i32 (E.σ 1) ∧ IntKind.wrap .i32 (E.σ 1) ≤ 1048575 := by omega
        exact case_ (m := m2) e2_8192 (iv3 g0 c1 g2) hr hx
      ·
        by_cases q4 : IntKind.wrap .i32 (E.σ 1) < 134217728
        ·
          have c1 : 1048576 ≤ IntKind.wrap .i32 (E.σ 1) ∧ IntKind.wrap .i32 (E.σ 1) ≤ 134217727 := by omega
          exact case_ (m := m2) e2_1048576 (iv3 g0 c1 g2) hr hx
        ·
          have c1 : 134217728 ≤ IntKind.wrap .i32 (E.σ 1) ∧ IntKind.wrap .i32 (E.σ 1) ≤ 2147483647 := by omega
          exact case_ (m := m2) e2_134217728 (iv3 g0 c1 g2) hr hx
end Go.Proofs.YtocficcmdlfafaaGreatDoor.modelAriths
