/- class.Encode over the law's programs, whatever the numbers are. -/
import Derived.Test.YtocficcmdlfafaaGreatDoorModelArraysE0
import Derived.Test.YtocficcmdlfafaaGreatDoorModelArraysE1
import Derived.Test.YtocficcmdlfafaaGreatDoorModelArraysE2
import Derived.Test.YtocficcmdlfafaaGreatDoorModelArraysE3
namespace Go.Proofs.YtocficcmdlfafaaGreatDoor.modelArrays
open Go Go.RowKit Go.Proofs Go.Ai
def z2 (a : Int) : Int := IntKind.wrap .i32 a
theorem m0ok (W0 : World) [hg : GlOk gl W0] : FmOkC Tryz.prog W0 P0 m0 := by
  intro E w xs hp hr hx
  unfold P0 at hp
  have g0 := rng0 (E.σ 0)
  have g1 := rng1 (E.σ 1)
  have g2 : -2147483648 ≤ z2 (E.σ 2) ∧ z2 (E.σ 2) ≤ 2147483647 := rng2 (E.σ 2)
  by_cases q1 : opVal .rem .i64 (E.σ 0) 1100 < (-64)
  ·
    have c0 : (-1099) ≤ opVal .rem .i64 (E.σ 0) 1100 ∧ opVal .rem .i64 (E.σ 0) 1100 ≤ (-65) := by omega
    by_cases q2 : opVal .rem .i64 (E.σ 1) 20 < 0
    ·
      have c1 : (-19) ≤ opVal .rem .i64 (E.σ 1) 20 ∧ opVal .rem .i64 (E.σ 1) 20 ≤ (-1) := by omega
      by_cases q3 : z2 (E.σ 2) < 0
      ·
        by_cases q4 : z2 (E.σ 2) < (-1048576)
        ·
          by_cases q5 : z2 (E.σ 2) < (-134217728)
          ·
            have c2 : (-2147483648) ≤ z2 (E.σ 2) ∧ z2 (E.σ 2) ≤ (-134217729) := by omega
            exact case_ (m := m0) e0_m1099_m19_m2147483648 (iv3 c0 c1 c2) hr hx
          ·
            have c2 : (-134217728) ≤ z2 (E.σ 2) ∧ z2 (E.σ 2) ≤ (-1048577) := by omega
            exact case_ (m := m0) e0_m1099_m19_m134217728 (iv3 c0 c1 c2) hr hx
        ·
          by_cases q5 : z2 (E.σ 2) < (-8192)
          ·
            have c2 : (-1048576) ≤ z2 (E.σ 2) ∧ z2 (E.σ 2) ≤ (-8193) := by omega
            exact case_ (m := m0) e0_m1099_m19_m1048576 (iv3 c0 c1 c2) hr hx
          ·
            by_cases q6 : z2 (E.σ 2) < (-64)
            ·
              have c2 : (-8192) ≤ z2 (E.σ 2) ∧ z2 (E.σ 2) ≤ (-65) := by omega
              exact case_ (m := m0) e0_m1099_m19_m8192 (iv3 c0 c1 c2) hr hx
            ·
              have c2 : (-64) ≤ z2 (E.σ 2) ∧ z2 (E.σ 2) ≤ (-1) := by omega
              exact case_ (m := m0) e0_m1099_m19_m64 (iv3 c0 c1 c2) hr hx
      ·
        by_cases q4 : z2 (E.σ 2) < 8192
        ·
          by_cases q5 : z2 (E.σ 2) < 64
          ·
            have c2 : 0 ≤ z2 (E.σ 2) ∧ z2 (E.σ 2) ≤ 63 := by omega
            exact case_ (m := m0) e0_m1099_m19_0 (iv3 c0 c1 c2) hr hx
          ·
            have c2 : 64 ≤ z2 (E.σ 2) ∧ z2 (E.σ 2) ≤ 8191 := by omega
            exact case_ (m := m0) e0_m1099_m19_64 (iv3 c0 c1 c2) hr hx
        ·
          by_cases q5 : z2 (E.σ 2) < 1048576
          ·
            have c2 : 8192 ≤ z2 (E.σ 2) ∧ z2 (E.σ 2) ≤ 1048575 := by omega
            exact case_ (m := m0) e0_m1099_m19_8192 (iv3 c0 c1 c2) hr hx
          ·
            by_cases q6 : z2 (E.σ 2) < 134217728
            ·
              have c2 : 1048576 ≤ z2 (E.σ 2) ∧ z2 (E.σ 2) ≤ 134217727 := by omega
              exact case_ (m := m0) e0_m1099_m19_1048576 (iv3 c0 c1 c2) hr hx
            ·
              have c2 : 134217728 ≤ z2 (E.σ 2) ∧ z2 (E.σ 2) ≤ 2147483647 := by omega
              exact case_ (m := m0) e0_m1099_m19_134217728 (iv3 c0 c1 c2) hr hx
    ·
      have c1 : 0 ≤ opVal .rem .i64 (E.σ 1) 20 ∧ opVal .rem .i64 (E.σ 1) 20 ≤ 19 := by omega
      by_cases q3 : z2 (E.σ 2) < 0
      ·
        by_cases q4 : z2 (E.σ 2) < (-1048576)
        ·
          by_cases q5 : z2 (E.σ 2) < (-134217728)
          ·
            have c2 : (-2147483648) ≤ z2 (E.σ 2) ∧ z2 (E.σ 2) ≤ (-134217729) := by omega
            exact case_ (m := m0) e0_m1099_0_m2147483648 (iv3 c0 c1 c2) hr hx
          ·
            have c2 : (-134217728) ≤ z2 (E.σ 2) ∧ z2 (E.σ 2) ≤ (-1048577) := by omega
            exact case_ (m := m0) e0_m1099_0_m134217728 (iv3 c0 c1 c2) hr hx
        ·
          by_cases q5 : z2 (E.σ 2) < (-8192)
          ·
            have c2 : (-1048576) ≤ z2 (E.σ 2) ∧ z2 (E.σ 2) ≤ (-8193) := by omega
            exact case_ (m := m0) e0_m1099_0_m1048576 (iv3 c0 c1 c2) hr hx
          ·
            by_cases q6 : z2 (E.σ 2) < (-64)
            ·
              have c2 : (-8192) ≤ z2 (E.σ 2) ∧ z2 (E.σ 2) ≤ (-65) := by omega
              exact case_ (m := m0) e0_m1099_0_m8192 (iv3 c0 c1 c2) hr hx
            ·
              have c2 : (-64) ≤ z2 (E.σ 2) ∧ z2 (E.σ 2) ≤ (-1) := by omega
              exact case_ (m := m0) e0_m1099_0_m64 (iv3 c0 c1 c2) hr hx
      ·
        by_cases q4 : z2 (E.σ 2) < 8192
        ·
          by_cases q5 : z2 (E.σ 2) < 64
          ·
            have c2 : 0 ≤ z2 (E.σ 2) ∧ z2 (E.σ 2) ≤ 63 := by omega
            exact case_ (m := m0) e0_m1099_0_0 (iv3 c0 c1 c2) hr hx
          ·
            have c2 : 64 ≤ z2 (E.σ 2) ∧ z2 (E.σ 2) ≤ 8191 := by omega
            exact case_ (m := m0) e0_m1099_0_64 (iv3 c0 c1 c2) hr hx
        ·
          by_cases q5 : z2 (E.σ 2) < 1048576
          ·
            have c2 : 8192 ≤ z2 (E.σ 2) ∧ z2 (E.σ 2) ≤ 1048575 := by omega
            exact case_ (m := m0) e0_m1099_0_8192 (iv3 c0 c1 c2) hr hx
          ·
            by_cases q6 : z2 (E.σ 2) < 134217728
            ·
              have c2 : 1048576 ≤ z2 (E.σ 2) ∧ z2 (E.σ 2) ≤ 134217727 := by omega
              exact case_ (m := m0) e0_m1099_0_1048576 (iv3 c0 c1 c2) hr hx
            ·
              have c2 : 134217728 ≤ z2 (E.σ 2) ∧ z2 (E.σ 2) ≤ 2147483647 := by omega
              exact case_ (m := m0) e0_m1099_0_134217728 (iv3 c0 c1 c2) hr hx
  ·
    by_cases q2 : opVal .rem .i64 (E.σ 0) 1100 < 1001
    ·
      have c0 : (-64) ≤ opVal .rem .i64 (E.σ 0) 1100 ∧ opVal .rem .i64 (E.σ 0) 1100 ≤ (-1) := by omega
      by_cases q3 : opVal .rem .i64 (E.σ 1) 20 < 0
      ·
        have c1 : (-19) ≤ opVal .rem .i64 (E.σ 1) 20 ∧ opVal .rem .i64 (E.σ 1) 20 ≤ (-1) := by omega
        by_cases q4 : z2 (E.σ 2) < 0
        ·
          by_cases q5 : z2 (E.σ 2) < (-1048576)
          ·
            by_cases q6 : z2 (E.σ 2) < (-134217728)
            ·
              have c2 : (-2147483648) ≤ z2 (E.σ 2) ∧ z2 (E.σ 2) ≤ (-134217729) := by omega
              exact case_ (m := m0) e0_m64_m19_m2147483648 (iv3 c0 c1 c2) hr hx
            ·
              have c2 : (-134217728) ≤ z2 (E.σ 2) ∧ z2 (E.σ 2) ≤ (-1048577) := by omega
              exact case_ (m := m0) e0_m64_m19_m134217728 (iv3 c0 c1 c2) hr hx
          ·
            by_cases q6 : z2 (E.σ 2) < (-8192)
            ·
              have c2 : (-1048576) ≤ z2 (E.σ 2) ∧ z2 (E.σ 2) ≤ (-8193) := by omega
              exact case_ (m := m0) e0_m64_m19_m1048576 (iv3 c0 c1 c2) hr hx
            ·
              by_cases q7 : z2 (E.σ 2) < (-64)
              ·
                have c2 : (-8192) ≤ z2 (E.σ 2) ∧ z2 (E.σ 2) ≤ (-65) := by omega
                exact case_ (m := m0) e0_m64_m19_m8192 (iv3 c0 c1 c2) hr hx
              ·
                have c2 : (-64) ≤ z2 (E.σ 2) ∧ z2 (E.σ 2) ≤ (-1) := by omega
                exact case_ (m := m0) e0_m64_m19_m64 (iv3 c0 c1 c2) hr hx
        ·
          by_cases q5 : z2 (E.σ 2) < 8192
          ·
            by_cases q6 : z2 (E.σ 2) < 64
            ·
              have c2 : 0 ≤ z2 (E.σ 2) ∧ z2 (E.σ 2) ≤ 63 := by omega
              exact case_ (m := m0) e0_m64_m19_0 (iv3 c0 c1 c2) hr hx
            ·
              have c2 : 64 ≤ z2 (E.σ 2) ∧ z2 (E.σ 2) ≤ 8191 := by omega
              exact case_ (m := m0) e0_m64_m19_64 (iv3 c0 c1 c2) hr hx
          ·
            by_cases q6 : z2 (E.σ 2) < 1048576
            ·
              have c2 : 8192 ≤ z2 (E.σ 2) ∧ z2 (E.σ 2) ≤ 1048575 := by omega
              exact case_ (m := m0) e0_m64_m19_8192 (iv3 c0 c1 c2) hr hx
            ·
              by_cases q7 : z2 (E.σ 2) < 134217728
              ·
                have c2 : 1048576 ≤ z2 (E.σ 2) ∧ z2 (E.σ 2) ≤ 134217727 := by omega
                exact case_ (m := m0) e0_m64_m19_1048576 (iv3 c0 c1 c2) hr hx
              ·
                have c2 : 134217728 ≤ z2 (E.σ 2) ∧ z2 (E.σ 2) ≤ 2147483647 := by omega
                exact case_ (m := m0) e0_m64_m19_134217728 (iv3 c0 c1 c2) hr hx
      ·
        have c1 : 0 ≤ opVal .rem .i64 (E.σ 1) 20 ∧ opVal .rem .i64 (E.σ 1) 20 ≤ 19 := by omega
        by_cases q4 : z2 (E.σ 2) < 0
        ·
          by_cases q5 : z2 (E.σ 2) < (-1048576)
          ·
            by_cases q6 : z2 (E.σ 2) < (-134217728)
            ·
              have c2 : (-2147483648) ≤ z2 (E.σ 2) ∧ z2 (E.σ 2) ≤ (-134217729) := by omega
              exact case_ (m := m0) e0_m64_0_m2147483648 (iv3 c0 c1 c2) hr hx
            ·
              have c2 : (-134217728) ≤ z2 (E.σ 2) ∧ z2 (E.σ 2) ≤ (-1048577) := by omega
              exact case_ (m := m0) e0_m64_0_m134217728 (iv3 c0 c1 c2) hr hx
          ·
            by_cases q6 : z2 (E.σ 2) < (-8192)
            ·
              have c2 : (-1048576) ≤ z2 (E.σ 2) ∧ z2 (E.σ 2) ≤ (-8193) := by omega
              exact case_ (m := m0) e0_m64_0_m1048576 (iv3 c0 c1 c2) hr hx
            ·
              by_cases q7 : z2 (E.σ 2) < (-64)
              ·
                have c2 : (-8192) ≤ z2 (E.σ 2) ∧ z2 (E.σ 2) ≤ (-65) := by omega
                exact case_ (m := m0) e0_m64_0_m8192 (iv3 c0 c1 c2) hr hx
              ·
                have c2 : (-64) ≤ z2 (E.σ 2) ∧ z2 (E.σ 2) ≤ (-1) := by omega
                exact case_ (m := m0) e0_m64_0_m64 (iv3 c0 c1 c2) hr hx
        ·
          by_cases q5 : z2 (E.σ 2) < 8192
          ·
            by_cases q6 : z2 (E.σ 2) < 64
            ·
              have c2 : 0 ≤ z2 (E.σ 2) ∧ z2 (E.σ 2) ≤ 63 := by omega
              exact case_ (m := m0) e0_m64_0_0 (iv3 c0 c1 c2) hr hx
            ·
              have c2 : 64 ≤ z2 (E.σ 2) ∧ z2 (E.σ 2) ≤ 8191 := by omega
              exact case_ (m := m0) e0_m64_0_64 (iv3 c0 c1 c2) hr hx
          ·
            by_cases q6 : z2 (E.σ 2) < 1048576
            ·
              have c2 : 8192 ≤ z2 (E.σ 2) ∧ z2 (E.σ 2) ≤ 1048575 := by omega
              exact case_ (m := m0) e0_m64_0_8192 (iv3 c0 c1 c2) hr hx
            ·
              by_cases q7 : z2 (E.σ 2) < 134217728
              ·
                have c2 : 1048576 ≤ z2 (E.σ 2) ∧ z2 (E.σ 2) ≤ 134217727 := by omega
                exact case_ (m := m0) e0_m64_0_1048576 (iv3 c0 c1 c2) hr hx
              ·
                have c2 : 134217728 ≤ z2 (E.σ 2) ∧ z2 (E.σ 2) ≤ 2147483647 := by omega
                exact case_ (m := m0) e0_m64_0_134217728 (iv3 c0 c1 c2) hr hx
    ·
      have c0 : 1001 ≤ opVal .rem .i64 (E.σ 0) 1100 ∧ opVal .rem .i64 (E.σ 0) 1100 ≤ 1099 := by omega
      by_cases q3 : opVal .rem .i64 (E.σ 1) 20 < 0
      ·
        have c1 : (-19) ≤ opVal .rem .i64 (E.σ 1) 20 ∧ opVal .rem .i64 (E.σ 1) 20 ≤ (-1) := by omega
        by_cases q4 : z2 (E.σ 2) < 0
        ·
          by_cases q5 : z2 (E.σ 2) < (-1048576)
          ·
            by_cases q6 : z2 (E.σ 2) < (-134217728)
            ·
              have c2 : (-2147483648) ≤ z2 (E.σ 2) ∧ z2 (E.σ 2) ≤ (-134217729) := by omega
              exact case_ (m := m0) e0_1001_m19_m2147483648 (iv3 c0 c1 c2) hr hx
            ·
              have c2 : (-134217728) ≤ z2 (E.σ 2) ∧ z2 (E.σ 2) ≤ (-1048577) := by omega
              exact case_ (m := m0) e0_1001_m19_m134217728 (iv3 c0 c1 c2) hr hx
          ·
            by_cases q6 : z2 (E.σ 2) < (-8192)
            ·
              have c2 : (-1048576) ≤ z2 (E.σ 2) ∧ z2 (E.σ 2) ≤ (-8193) := by omega
              exact case_ (m := m0) e0_1001_m19_m1048576 (iv3 c0 c1 c2) hr hx
            ·
              by_cases q7 : z2 (E.σ 2) < (-64)
              ·
                have c2 : (-8192) ≤ z2 (E.σ 2) ∧ z2 (E.σ 2) ≤ (-65) := by omega
                exact case_ (m := m0) e0_1001_m19_m8192 (iv3 c0 c1 c2) hr hx
              ·
                have c2 : (-64) ≤ z2 (E.σ 2) ∧ z2 (E.σ 2) ≤ (-1) := by omega
                exact case_ (m := m0) e0_1001_m19_m64 (iv3 c0 c1 c2) hr hx
        ·
          by_cases q5 : z2 (E.σ 2) < 8192
          ·
            by_cases q6 : z2 (E.σ 2) < 64
            ·
              have c2 : 0 ≤ z2 (E.σ 2) ∧ z2 (E.σ 2) ≤ 63 := by omega
              exact case_ (m := m0) e0_1001_m19_0 (iv3 c0 c1 c2) hr hx
            ·
              have c2 : 64 ≤ z2 (E.σ 2) ∧ z2 (E.σ 2) ≤ 8191 := by omega
              exact case_ (m := m0) e0_1001_m19_64 (iv3 c0 c1 c2) hr hx
          ·
            by_cases q6 : z2 (E.σ 2) < 1048576
            ·
              have c2 : 8192 ≤ z2 (E.σ 2) ∧ z2 (E.σ 2) ≤ 1048575 := by omega
              exact case_ (m := m0) e0_1001_m19_8192 (iv3 c0 c1 c2) hr hx
            ·
              by_cases q7 : z2 (E.σ 2) < 134217728
              ·
                have c2 : 1048576 ≤ z2 (E.σ 2) ∧ z2 (E.σ 2) ≤ 134217727 := by omega
                exact case_ (m := m0) e0_1001_m19_1048576 (iv3 c0 c1 c2) hr hx
              ·
                have c2 : 134217728 ≤ z2 (E.σ 2) ∧ z2 (E.σ 2) ≤ 2147483647 := by omega
                exact case_ (m := m0) e0_1001_m19_134217728 (iv3 c0 c1 c2) hr hx
      ·
        have c1 : 0 ≤ opVal .rem .i64 (E.σ 1) 20 ∧ opVal .rem .i64 (E.σ 1) 20 ≤ 19 := by omega
        by_cases q4 : z2 (E.σ 2) < 0
        ·
          by_cases q5 : z2 (E.σ 2) < (-1048576)
          ·
            by_cases q6 : z2 (E.σ 2) < (-134217728)
            ·
              have c2 : (-2147483648) ≤ z2 (E.σ 2) ∧ z2 (E.σ 2) ≤ (-134217729) := by omega
              exact case_ (m := m0) e0_1001_0_m2147483648 (iv3 c0 c1 c2) hr hx
            ·
              have c2 : (-134217728) ≤ z2 (E.σ 2) ∧ z2 (E.σ 2) ≤ (-1048577) := by omega
              exact case_ (m := m0) e0_1001_0_m134217728 (iv3 c0 c1 c2) hr hx
          ·
            by_cases q6 : z2 (E.σ 2) < (-8192)
            ·
              have c2 : (-1048576) ≤ z2 (E.σ 2) ∧ z2 (E.σ 2) ≤ (-8193) := by omega
              exact case_ (m := m0) e0_1001_0_m1048576 (iv3 c0 c1 c2) hr hx
            ·
              by_cases q7 : z2 (E.σ 2) < (-64)
              ·
                have c2 : (-8192) ≤ z2 (E.σ 2) ∧ z2 (E.σ 2) ≤ (-65) := by omega
                exact case_ (m := m0) e0_1001_0_m8192 (iv3 c0 c1 c2) hr hx
              ·
                have c2 : (-64) ≤ z2 (E.σ 2) ∧ z2 (E.σ 2) ≤ (-1) := by omega
                exact case_ (m := m0) e0_1001_0_m64 (iv3 c0 c1 c2) hr hx
        ·
          by_cases q5 : z2 (E.σ 2) < 8192
          ·
            by_cases q6 : z2 (E.σ 2) < 64
            ·
              have c2 : 0 ≤ z2 (E.σ 2) ∧ z2 (E.σ 2) ≤ 63 := by omega
              exact case_ (m := m0) e0_1001_0_0 (iv3 c0 c1 c2) hr hx
            ·
              have c2 : 64 ≤ z2 (E.σ 2) ∧ z2 (E.σ 2) ≤ 8191 := by omega
              exact case_ (m := m0) e0_1001_0_64 (iv3 c0 c1 c2) hr hx
          ·
            by_cases q6 : z2 (E.σ 2) < 1048576
            ·
              have c2 : 8192 ≤ z2 (E.σ 2) ∧ z2 (E.σ 2) ≤ 1048575 := by omega
              exact case_ (m := m0) e0_1001_0_8192 (iv3 c0 c1 c2) hr hx
            ·
              by_cases q7 : z2 (E.σ 2) < 134217728
              ·
                have c2 : 1048576 ≤ z2 (E.σ 2) ∧ z2 (E.σ 2) ≤ 134217727 := by omega
                exact case_ (m := m0) e0_1001_0_1048576 (iv3 c0 c1 c2) hr hx
              ·
                have c2 : 134217728 ≤ z2 (E.σ 2) ∧ z2 (E.σ 2) ≤ 2147483647 := by omega
                exact case_ (m := m0) e0_1001_0_134217728 (iv3 c0 c1 c2) hr hx
theorem m1ok (W0 : World) [hg : GlOk gl W0] : FmOkC Tryz.prog W0 P1 m1 := by
  intro E w xs hp hr hx
  unfold P1 at hp
  have g0 := rng0 (E.σ 0)
  have g1 := rng1 (E.σ 1)
  have g2 : -2147483648 ≤ z2 (E.σ 2) ∧ z2 (E.σ 2) ≤ 2147483647 := rng2 (E.σ 2)
  by_cases q1 : opVal .rem .i64 (E.σ 0) 1100 < 64
  ·
    have c0 : 0 ≤ opVal .rem .i64 (E.σ 0) 1100 ∧ opVal .rem .i64 (E.σ 0) 1100 ≤ 63 := by omega
    by_cases q2 : opVal .rem .i64 (E.σ 1) 20 < 0
    ·
      have c1 : (-19) ≤ opVal .rem .i64 (E.σ 1) 20 ∧ opVal .rem .i64 (E.σ 1) 20 ≤ (-1) := by omega
      by_cases q3 : z2 (E.σ 2) < 0
      ·
        by_cases q4 : z2 (E.σ 2) < (-1048576)
        ·
          by_cases q5 : z2 (E.σ 2) < (-134217728)
          ·
            have c2 : (-2147483648) ≤ z2 (E.σ 2) ∧ z2 (E.σ 2) ≤ (-134217729) := by omega
            exact case_ (m := m1) e1_0_m19_m2147483648 (iv3 c0 c1 c2) hr hx
          ·
            have c2 : (-134217728) ≤ z2 (E.σ 2) ∧ z2 (E.σ 2) ≤ (-1048577) := by omega
            exact case_ (m := m1) e1_0_m19_m134217728 (iv3 c0 c1 c2) hr hx
        ·
          by_cases q5 : z2 (E.σ 2) < (-8192)
          ·
            have c2 : (-1048576) ≤ z2 (E.σ 2) ∧ z2 (E.σ 2) ≤ (-8193) := by omega
            exact case_ (m := m1) e1_0_m19_m1048576 (iv3 c0 c1 c2) hr hx
          ·
            by_cases q6 : z2 (E.σ 2) < (-64)
            ·
              have c2 : (-8192) ≤ z2 (E.σ 2) ∧ z2 (E.σ 2) ≤ (-65) := by omega
              exact case_ (m := m1) e1_0_m19_m8192 (iv3 c0 c1 c2) hr hx
            ·
              have c2 : (-64) ≤ z2 (E.σ 2) ∧ z2 (E.σ 2) ≤ (-1) := by omega
              exact case_ (m := m1) e1_0_m19_m64 (iv3 c0 c1 c2) hr hx
      ·
        by_cases q4 : z2 (E.σ 2) < 8192
        ·
          by_cases q5 : z2 (E.σ 2) < 64
          ·
            have c2 : 0 ≤ z2 (E.σ 2) ∧ z2 (E.σ 2) ≤ 63 := by omega
            exact case_ (m := m1) e1_0_m19_0 (iv3 c0 c1 c2) hr hx
          ·
            have c2 : 64 ≤ z2 (E.σ 2) ∧ z2 (E.σ 2) ≤ 8191 := by omega
            exact case_ (m := m1) e1_0_m19_64 (iv3 c0 c1 c2) hr hx
        ·
          by_cases q5 : z2 (E.σ 2) < 1048576
          ·
            have c2 : 8192 ≤ z2 (E.σ 2) ∧ z2 (E.σ 2) ≤ 1048575 := by omega
            exact case_ (m := m1) e1_0_m19_8192 (iv3 c0 c1 c2) hr hx
          ·
            by_cases q6 : z2 (E.σ 2) < 134217728
            ·
              have c2 : 1048576 ≤ z2 (E.σ 2) ∧ z2 (E.σ 2) ≤ 134217727 := by omega
              exact case_ (m := m1) e1_0_m19_1048576 (iv3 c0 c1 c2) hr hx
            ·
              have c2 : 134217728 ≤ z2 (E.σ 2) ∧ z2 (E.σ 2) ≤ 2147483647 := by omega
              exact case_ (m := m1) e1_0_m19_134217728 (iv3 c0 c1 c2) hr hx
    ·
      have c1 : 0 ≤ opVal .rem .i64 (E.σ 1) 20 ∧ opVal .rem .i64 (E.σ 1) 20 ≤ 19 := by omega
      by_cases q3 : z2 (E.σ 2) < 0
      ·
        by_cases q4 : z2 (E.σ 2) < (-1048576)
        ·
          by_cases q5 : z2 (E.σ 2) < (-134217728)
          ·
            have c2 : (-2147483648) ≤ z2 (E.σ 2) ∧ z2 (E.σ 2) ≤ (-134217729) := by omega
            exact case_ (m := m1) e1_0_0_m2147483648 (iv3 c0 c1 c2) hr hx
          ·
            have c2 : (-134217728) ≤ z2 (E.σ 2) ∧ z2 (E.σ 2) ≤ (-1048577) := by omega
            exact case_ (m := m1) e1_0_0_m134217728 (iv3 c0 c1 c2) hr hx
        ·
          by_cases q5 : z2 (E.σ 2) < (-8192)
          ·
            have c2 : (-1048576) ≤ z2 (E.σ 2) ∧ z2 (E.σ 2) ≤ (-8193) := by omega
            exact case_ (m := m1) e1_0_0_m1048576 (iv3 c0 c1 c2) hr hx
          ·
            by_cases q6 : z2 (E.σ 2) < (-64)
            ·
              have c2 : (-8192) ≤ z2 (E.σ 2) ∧ z2 (E.σ 2) ≤ (-65) := by omega
              exact case_ (m := m1) e1_0_0_m8192 (iv3 c0 c1 c2) hr hx
            ·
              have c2 : (-64) ≤ z2 (E.σ 2) ∧ z2 (E.σ 2) ≤ (-1) := by omega
              exact case_ (m := m1) e1_0_0_m64 (iv3 c0 c1 c2) hr hx
      ·
        by_cases q4 : z2 (E.σ 2) < 8192
        ·
          by_cases q5 : z2 (E.σ 2) < 64
          ·
            have c2 : 0 ≤ z2 (E.σ 2) ∧ z2 (E.σ 2) ≤ 63 := by omega
            exact case_ (m := m1) e1_0_0_0 (iv3 c0 c1 c2) hr hx
          ·
            have c2 : 64 ≤ z2 (E.σ 2) ∧ z2 (E.σ 2) ≤ 8191 := by omega
            exact case_ (m := m1) e1_0_0_64 (iv3 c0 c1 c2) hr hx
        ·
          by_cases q5 : z2 (E.σ 2) < 1048576
          ·
            have c2 : 8192 ≤ z2 (E.σ 2) ∧ z2 (E.σ 2) ≤ 1048575 := by omega
            exact case_ (m := m1) e1_0_0_8192 (iv3 c0 c1 c2) hr hx
          ·
            by_cases q6 : z2 (E.σ 2) < 134217728
            ·
              have c2 : 1048576 ≤ z2 (E.σ 2) ∧ z2 (E.σ 2) ≤ 134217727 := by omega
              exact case_ (m := m1) e1_0_0_1048576 (iv3 c0 c1 c2) hr hx
            ·
              have c2 : 134217728 ≤ z2 (E.σ 2) ∧ z2 (E.σ 2) ≤ 2147483647 := by omega
              exact case_ (m := m1) e1_0_0_134217728 (iv3 c0 c1 c2) hr hx
  ·
    have c0 : 64 ≤ opVal .rem .i64 (E.σ 0) 1100 ∧ opVal .rem .i64 (E.σ 0) 1100 ≤ 1000 := by omega
    by_cases q2 : opVal .rem .i64 (E.σ 1) 20 < 0
    ·
      have c1 : (-19) ≤ opVal .rem .i64 (E.σ 1) 20 ∧ opVal .rem .i64 (E.σ 1) 20 ≤ (-1) := by omega
      by_cases q3 : z2 (E.σ 2) < 0
      ·
        by_cases q4 : z2 (E.σ 2) < (-1048576)
        ·
          by_cases q5 : z2 (E.σ 2) < (-134217728)
          ·
            have c2 : (-2147483648) ≤ z2 (E.σ 2) ∧ z2 (E.σ 2) ≤ (-134217729) := by omega
            exact case_ (m := m1) e1_64_m19_m2147483648 (iv3 c0 c1 c2) hr hx
          ·
            have c2 : (-134217728) ≤ z2 (E.σ 2) ∧ z2 (E.σ 2) ≤ (-1048577) := by omega
            exact case_ (m := m1) e1_64_m19_m134217728 (iv3 c0 c1 c2) hr hx
        ·
          by_cases q5 : z2 (E.σ 2) < (-8192)
          ·
            have c2 : (-1048576) ≤ z2 (E.σ 2) ∧ z2 (E.σ 2) ≤ (-8193) := by omega
            exact case_ (m := m1) e1_64_m19_m1048576 (iv3 c0 c1 c2) hr hx
          ·
            by_cases q6 : z2 (E.σ 2) < (-64)
            ·
              have c2 : (-8192) ≤ z2 (E.σ 2) ∧ z2 (E.σ 2) ≤ (-65) := by omega
              exact case_ (m := m1) e1_64_m19_m8192 (iv3 c0 c1 c2) hr hx
            ·
              have c2 : (-64) ≤ z2 (E.σ 2) ∧ z2 (E.σ 2) ≤ (-1) := by omega
              exact case_ (m := m1) e1_64_m19_m64 (iv3 c0 c1 c2) hr hx
      ·
        by_cases q4 : z2 (E.σ 2) < 8192
        ·
          by_cases q5 : z2 (E.σ 2) < 64
          ·
            have c2 : 0 ≤ z2 (E.σ 2) ∧ z2 (E.σ 2) ≤ 63 := by omega
            exact case_ (m := m1) e1_64_m19_0 (iv3 c0 c1 c2) hr hx
          ·
            have c2 : 64 ≤ z2 (E.σ 2) ∧ z2 (E.σ 2) ≤ 8191 := by omega
            exact case_ (m := m1) e1_64_m19_64 (iv3 c0 c1 c2) hr hx
        ·
          by_cases q5 : z2 (E.σ 2) < 1048576
          ·
            have c2 : 8192 ≤ z2 (E.σ 2) ∧ z2 (E.σ 2) ≤ 1048575 := by omega
            exact case_ (m := m1) e1_64_m19_8192 (iv3 c0 c1 c2) hr hx
          ·
            by_cases q6 : z2 (E.σ 2) < 134217728
            ·
              have c2 : 1048576 ≤ z2 (E.σ 2) ∧ z2 (E.σ 2) ≤ 134217727 := by omega
              exact case_ (m := m1) e1_64_m19_1048576 (iv3 c0 c1 c2) hr hx
            ·
              have c2 : 134217728 ≤ z2 (E.σ 2) ∧ z2 (E.σ 2) ≤ 2147483647 := by omega
              exact case_ (m := m1) e1_64_m19_134217728 (iv3 c0 c1 c2) hr hx
    ·
      have c1 : 0 ≤ opVal .rem .i64 (E.σ 1) 20 ∧ opVal .rem .i64 (E.σ 1) 20 ≤ 19 := by omega
      by_cases q3 : z2 (E.σ 2) < 0
      ·
        by_cases q4 : z2 (E.σ 2) < (-1048576)
        ·
          by_cases q5 : z2 (E.σ 2) < (-134217728)
          ·
            have c2 : (-2147483648) ≤ z2 (E.σ 2) ∧ z2 (E.σ 2) ≤ (-134217729) := by omega
            exact case_ (m := m1) e1_64_0_m2147483648 (iv3 c0 c1 c2) hr hx
          ·
            have c2 : (-134217728) ≤ z2 (E.σ 2) ∧ z2 (E.σ 2) ≤ (-1048577) := by omega
            exact case_ (m := m1) e1_64_0_m134217728 (iv3 c0 c1 c2) hr hx
        ·
          by_cases q5 : z2 (E.σ 2) < (-8192)
          ·
            have c2 : (-1048576) ≤ z2 (E.σ 2) ∧ z2 (E.σ 2) ≤ (-8193) := by omega
            exact case_ (m := m1) e1_64_0_m1048576 (iv3 c0 c1 c2) hr hx
          ·
            by_cases q6 : z2 (E.σ 2) < (-64)
            ·
              have c2 : (-8192) ≤ z2 (E.σ 2) ∧ z2 (E.σ 2) ≤ (-65) := by omega
              exact case_ (m := m1) e1_64_0_m8192 (iv3 c0 c1 c2) hr hx
            ·
              have c2 : (-64) ≤ z2 (E.σ 2) ∧ z2 (E.σ 2) ≤ (-1) := by omega
              exact case_ (m := m1) e1_64_0_m64 (iv3 c0 c1 c2) hr hx
      ·
        by_cases q4 : z2 (E.σ 2) < 8192
        ·
          by_cases q5 : z2 (E.σ 2) < 64
          ·
            have c2 : 0 ≤ z2 (E.σ 2) ∧ z2 (E.σ 2) ≤ 63 := by omega
            exact case_ (m := m1) e1_64_0_0 (iv3 c0 c1 c2) hr hx
          ·
            have c2 : 64 ≤ z2 (E.σ 2) ∧ z2 (E.σ 2) ≤ 8191 := by omega
            exact case_ (m := m1) e1_64_0_64 (iv3 c0 c1 c2) hr hx
        ·
          by_cases q5 : z2 (E.σ 2) < 1048576
          ·
            have c2 : 8192 ≤ z2 (E.σ 2) ∧ z2 (E.σ 2) ≤ 1048575 := by omega
            exact case_ (m := m1) e1_64_0_8192 (iv3 c0 c1 c2) hr hx
          ·
            by_cases q6 : z2 (E.σ 2) < 134217728
            ·
              have c2 : 1048576 ≤ z2 (E.σ 2) ∧ z2 (E.σ 2) ≤ 134217727 := by omega
              exact case_ (m := m1) e1_64_0_1048576 (iv3 c0 c1 c2) hr hx
            ·
              have c2 : 134217728 ≤ z2 (E.σ 2) ∧ z2 (E.σ 2) ≤ 2147483647 := by omega
              exact case_ (m := m1) e1_64_0_134217728 (iv3 c0 c1 c2) hr hx
end Go.Proofs.YtocficcmdlfafaaGreatDoor.modelArrays
