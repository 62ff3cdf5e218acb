/- class.Encode over the law's programs, whatever the numbers are. -/
import Derived.Test.YtfedjkcigdgcoaaGreatDoorModelJumpsE0
import Derived.Test.YtfedjkcigdgcoaaGreatDoorModelJumpsE1
import Derived.Test.YtfedjkcigdgcoaaGreatDoorModelJumpsE2
import Derived.Test.YtfedjkcigdgcoaaGreatDoorModelJumpsE3
namespace Go.Proofs.YtfedjkcigdgcoaaGreatDoor.modelJumps
open Go Go.RowKit Go.Proofs Go.Ai
theorem m2ok (W0 : World) [hg : GlOk gl W0] : FmOk Tryz.prog W0 m2 := by
  intro E w xs hr hx
  have g0 := rgv (E.σ 0)
  have g1 := rgv (E.σ 1)
  by_cases q1 : IntKind.wrap .i32 (E.σ 0) < 0
  ·
    by_cases q2 : IntKind.wrap .i32 (E.σ 0) < (-1048576)
    ·
      by_cases q3 : IntKind.wrap .i32 (E.σ 0) < (-134217728)
      ·
        have c0 : (-2147483648) ≤ IntKind.wrap .i32 (E.σ 0) ∧ IntKind.wrap .i32 (E.σ 0) ≤ (-134217729) := by omega
        have c1 : (-2147483648) ≤ IntKind.wrap .i32 (E.σ 1) ∧ IntKind.wrap .i32 (E.σ 1) ≤ 2147483647 := by omega
        exact case_ (m := m2) e0 List.mem_cons_self (iv2 c0 c1) hr hx
      ·
        have c0 : (-134217728) ≤ IntKind.wrap .i32 (E.σ 0) ∧ IntKind.wrap .i32 (E.σ 0) ≤ (-1048577) := by omega
        have c1 : (-2147483648) ≤ IntKind.wrap .i32 (E.σ 1) ∧ IntKind.wrap .i32 (E.σ 1) ≤ 2147483647 := by omega
        exact case_ (m := m2) e0 (List.mem_cons_of_mem _ List.mem_cons_self) (iv2 c0 c1) hr hx
    ·
      by_cases q3 : IntKind.wrap .i32 (E.σ 0) < (-8192)
      ·
        have c0 : (-1048576) ≤ IntKind.wrap .i32 (E.σ 0) ∧ IntKind.wrap .i32 (E.σ 0) ≤ (-8193) := by omega
        have c1 : (-2147483648) ≤ IntKind.wrap .i32 (E.σ 1) ∧ IntKind.wrap .i32 (E.σ 1) ≤ 2147483647 := by omega
        exact case_ (m := m2) e0 (List.mem_cons_of_mem _ (List.mem_cons_of_mem _ List.mem_cons_self)) (iv2 c0 c1) hr hx
      ·
        by_cases q4 : IntKind.wrap .i32 (E.σ 0) < (-64)
        ·
          have c0 : (-8192) ≤ IntKind.wrap .i32 (E.σ 0) ∧ IntKind.wrap .i32 (E.σ 0) ≤ (-65) := by omega
          have c1 : (-2147483648) ≤ IntKind.wrap .i32 (E.σ 1) ∧ IntKind.wrap .i32 (E.σ 1) ≤ 2147483647 := by omega
          exact case_ (m := m2) e0 (List.mem_cons_of_mem _ (List.mem_cons_of_mem _ (List.mem_cons_of_mem _ List.mem_cons_self))) (iv2 c0 c1) hr hx
        ·
          have c0 : (-64) ≤ IntKind.wrap .i32 (E.σ 0) ∧ IntKind.wrap .i32 (E.σ 0) ≤ (-1) := by omega
          have c1 : (-2147483648) ≤ IntKind.wrap .i32 (E.σ 1) ∧ IntKind.wrap .i32 (E.σ 1) ≤ 2147483647 := by omega
          exact case_ (m := m2) e0 (List.mem_cons_of_mem _ (List.mem_cons_of_mem _ (List.mem_cons_of_mem _ (List.mem_cons_of_mem _ List.mem_cons_self)))) (iv2 c0 c1) hr hx
  ·
    by_cases q2 : IntKind.wrap .i32 (E.σ 0) < 8192
    ·
      by_cases q3 : IntKind.wrap .i32 (E.σ 0) < 64
      ·
        have c0 : 0 ≤ IntKind.wrap .i32 (E.σ 0) ∧ IntKind.wrap .i32 (E.σ 0) ≤ 63 := by omega
        have c1 : (-2147483648) ≤ IntKind.wrap .i32 (E.σ 1) ∧ IntKind.wrap .i32 (E.σ 1) ≤ 2147483647 := by omega
        exact case_ (m := m2) e0 (List.mem_cons_of_mem _ (List.mem_cons_of_mem _ (List.mem_cons_of_mem _ (List.mem_cons_of_mem _ (List.mem_cons_of_mem _ List.mem_cons_self))))) (iv2 c0 c1) hr hx
      ·
        have c0 : 64 ≤ IntKind.wrap .i32 (E.σ 0) ∧ IntKind.wrap .i32 (E.σ 0) ≤ 8191 := by omega
        have c1 : (-2147483648) ≤ IntKind.wrap .i32 (E.σ 1) ∧ IntKind.wrap .i32 (E.σ 1) ≤ 2147483647 := by omega
        exact case_ (m := m2) e0 (List.mem_cons_of_mem _ (List.mem_cons_of_mem _ (List.mem_cons_of_mem _ (List.mem_cons_of_mem _ (List.mem_cons_of_mem _ (List.mem_cons_of_mem _ List.mem_cons_self)))))) (iv2 c0 c1) hr hx
    ·
      by_cases q3 : IntKind.wrap .i32 (E.σ 0) < 1048576
      ·
        have c0 : 8192 ≤ IntKind.wrap .i32 (E.σ 0) ∧ IntKind.wrap .i32 (E.σ 0) ≤ 1048575 := by omega
        have c1 : (-2147483648) ≤ IntKind.wrap .i32 (E.σ 1) ∧ IntKind.wrap .i32 (E.σ 1) ≤ 2147483647 := by omega
        exact case_ (m := m2) e0 (List.mem_cons_of_mem _ (List.mem_cons_of_mem _ (List.mem_cons_of_mem _ (List.mem_cons_of_mem _ (List.mem_cons_of_mem _ (List.mem_cons_of_mem _ (List.mem_cons_of_mem _ List.mem_cons_self))))))) (iv2 c0 c1) hr hx
      ·
        by_cases q4 : IntKind.wrap .i32 (E.σ 0) < 134217728
        ·
          have c0 : 1048576 ≤ IntKind.wrap .i32 (E.σ 0) ∧ IntKind.wrap .i32 (E.σ 0) ≤ 134217727 := by omega
          have c1 : (-2147483648) ≤ IntKind.wrap .i32 (E.σ 1) ∧ IntKind.wrap .i32 (E.σ 1) ≤ 2147483647 := by omega
          exact case_ (m := m2) e0 (List.mem_cons_of_mem _ (List.mem_cons_of_mem _ (List.mem_cons_of_mem _ (List.mem_cons_of_mem _ (List.mem_cons_of_mem _ (List.mem_cons_of_mem _ (List.mem_cons_of_mem _ (List.mem_cons_of_mem _ List.mem_cons_self)))))))) (iv2 c0 c1) hr hx
        ·
          have c0 : 134217728 ≤ IntKind.wrap .i32 (E.σ 0) ∧ IntKind.wrap .i32 (E.σ 0) ≤ 2147483647 := by omega
          have c1 : (-2147483648) ≤ IntKind.wrap .i32 (E.σ 1) ∧ IntKind.wrap .i32 (E.σ 1) ≤ 2147483647 := by omega
          exact case_ (m := m2) e0 (List.mem_cons_of_mem _ (List.mem_cons_of_mem _ (List.mem_cons_of_mem _ (List.mem_cons_of_mem _ (List.mem_cons_of_mem _ (List.mem_cons_of_mem _ (List.mem_cons_of_mem _ (List.mem_cons_of_mem _ (List.mem_cons_of_mem _ List.mem_cons_self))))))))) (iv2 c0 c1) hr hx
theorem m3zok (W0 : World) [hg : GlOk gl W0] : FmOkC Tryz.prog W0 (fun σ => IntKind.wrap .i32 (σ 0) = 0) m3z := by
  intro E w xs hp hr hx
  have g0 := rgv (E.σ 0)
  have g1 := rgv (E.σ 1)
  have hp' : IntKind.wrap .i32 (E.σ 0) = 0 := hp
  have c0 : 0 ≤ IntKind.wrap .i32 (E.σ 0) ∧ IntKind.wrap .i32 (E.σ 0) ≤ 0 := by omega
  by_cases q1 : IntKind.wrap .i32 (E.σ 1) < 0
  ·
    by_cases q2 : IntKind.wrap .i32 (E.σ 1) < (-1048576)
    ·
      by_cases q3 : IntKind.wrap .i32 (E.σ 1) < (-134217728)
      ·
        have c1 : (-2147483648) ≤ IntKind.wrap .i32 (E.σ 1) ∧ IntKind.wrap .i32 (E.σ 1) ≤ (-134217729) := by omega
        exact case_ (m := m3z) e1 List.mem_cons_self (iv2 c0 c1) hr hx
      ·
        have c1 : (-134217728) ≤ IntKind.wrap .i32 (E.σ 1) ∧ IntKind.wrap .i32 (E.σ 1) ≤ (-1048577) := by omega
        exact case_ (m := m3z) e1 (List.mem_cons_of_mem _ List.mem_cons_self) (iv2 c0 c1) hr hx
    ·
      by_cases q3 : IntKind.wrap .i32 (E.σ 1) < (-8192)
      ·
        have c1 : (-1048576) ≤ IntKind.wrap .i32 (E.σ 1) ∧ IntKind.wrap .i32 (E.σ 1) ≤ (-8193) := by omega
        exact case_ (m := m3z) e1 (List.mem_cons_of_mem _ (List.mem_cons_of_mem _ List.mem_cons_self)) (iv2 c0 c1) hr hx
      ·
        by_cases q4 : IntKind.wrap .i32 (E.σ 1) < (-64)
        ·
          have c1 : (-8192) ≤ IntKind.wrap .i32 (E.σ 1) ∧ IntKind.wrap .i32 (E.σ 1) ≤ (-65) := by omega
          exact case_ (m := m3z) e1 (List.mem_cons_of_mem _ (List.mem_cons_of_mem _ (List.mem_cons_of_mem _ List.mem_cons_self))) (iv2 c0 c1) hr hx
        ·
          have c1 : (-64) ≤ IntKind.wrap .i32 (E.σ 1) ∧ IntKind.wrap .i32 (E.σ 1) ≤ (-1) := by omega
          exact case_ (m := m3z) e1 (List.mem_cons_of_mem _ (List.mem_cons_of_mem _ (List.mem_cons_of_mem _ (List.mem_cons_of_mem _ List.mem_cons_self)))) (iv2 c0 c1) hr hx
  ·
    by_cases q2 : IntKind.wrap .i32 (E.σ 1) < 8192
    ·
      by_cases q3 : IntKind.wrap .i32 (E.σ 1) < 64
      ·
        have c1 : 0 ≤ IntKind.wrap .i32 (E.σ 1) ∧ IntKind.wrap .i32 (E.σ 1) ≤ 63 := by omega
        exact case_ (m := m3z) e1 (List.mem_cons_of_mem _ (List.mem_cons_of_mem _ (List.mem_cons_of_mem _ (List.mem_cons_of_mem _ (List.mem_cons_of_mem _ List.mem_cons_self))))) (iv2 c0 c1) hr hx
      ·
        have c1 : 64 ≤ IntKind.wrap .i32 (E.σ 1) ∧ IntKind.wrap .i32 (E.σ 1) ≤ 8191 := by omega
        exact case_ (m := m3z) e1 (List.mem_cons_of_mem _ (List.mem_cons_of_mem _ (List.mem_cons_of_mem _ (List.mem_cons_of_mem _ (List.mem_cons_of_mem _ (List.mem_cons_of_mem _ List.mem_cons_self)))))) (iv2 c0 c1) hr hx
    ·
      by_cases q3 : IntKind.wrap .i32 (E.σ 1) < 1048576
      ·
        have c1 : 8192 ≤ IntKind.wrap .i32 (E.σ 1) ∧ IntKind.wrap .i32 (E.σ 1) ≤ 1048575 := by omega
        exact case_ (m := m3z) e1 (List.mem_cons_of_mem _ (List.mem_cons_of_mem _ (List.mem_cons_of_mem _ (List.mem_cons_of_mem _ (List.mem_cons_of_mem _ (List.mem_cons_of_mem _ (List.mem_cons_of_mem _ List.mem_cons_self))))))) (iv2 c0 c1) hr hx
      ·
        by_cases q4 : IntKind.wrap .i32 (E.σ 1) < 134217728
        ·
          have c1 : 1048576 ≤ IntKind.wrap .i32 (E.σ 1) ∧ IntKind.wrap .i32 (E.σ 1) ≤ 134217727 := by omega
          exact case_ (m := m3z) e1 (List.mem_cons_of_mem _ (List.mem_cons_of_mem _ (List.mem_cons_of_mem _ (List.mem_cons_of_mem _ (List.mem_cons_of_mem _ (List.mem_cons_of_mem _ (List.mem_cons_of_mem _ (List.mem_cons_of_mem _ List.mem_cons_self)))))))) (iv2 c0 c1) hr hx
        ·
          have c1 : 134217728 ≤ IntKind.wrap .i32 (E.σ 1) ∧ IntKind.wrap .i32 (E.σ 1) ≤ 2147483647 := by omega
          exact case_ (m := m3z) e1 (List.mem_cons_of_mem _ (List.mem_cons_of_mem _ (List.mem_cons_of_mem _ (List.mem_cons_of_mem _ (List.mem_cons_of_mem _ (List.mem_cons_of_mem _ (List.mem_cons_of_mem _ (List.mem_cons_of_mem _ (List.mem_cons_of_mem _ List.mem_cons_self))))))))) (iv2 c0 c1) hr hx
theorem m3nok (W0 : World) [hg : GlOk gl W0] : FmOkC Tryz.prog W0 (fun σ => IntKind.wrap .i32 (σ 0) < 0) m3n := by
  intro E w xs hp hr hx
  have g0 := rgv (E.σ 0)
  have g1 := rgv (E.σ 1)
  have hp' : IntKind.wrap .i32 (E.σ 0) < 0 := hp
  by_cases q1 : IntKind.wrap .i32 (E.σ 0) < (-1048576)
  ·
    by_cases q2 : IntKind.wrap .i32 (E.σ 0) < (-134217728)
    ·
      have c0 : (-2147483648) ≤ IntKind.wrap .i32 (E.σ 0) ∧ IntKind.wrap .i32 (E.σ 0) ≤ (-134217729) := by omega
      by_cases q3 : IntKind.wrap .i32 (E.σ 1) < 0
      ·
        by_cases q4 : IntKind.wrap .i32 (E.σ 1) < (-1048576)
        ·
          by_cases q5 : IntKind.wrap .i32 (E.σ 1) < (-134217728)
          ·
            have c1 : (-2147483648) ≤ IntKind.wrap .i32 (E.σ 1) ∧ IntKind.wrap .i32 (E.σ 1) ≤ (-134217729) := by omega
            exact case_ (m := m3n) e2 List.mem_cons_self (iv2 c0 c1) hr hx
          ·
            have c1 : (-134217728) ≤ IntKind.wrap .i32 (E.σ 1) ∧ IntKind.wrap .i32 (E.σ 1) ≤ (-1048577) := by omega
            exact case_ (m := m3n) e2 (List.mem_cons_of_mem _ List.mem_cons_self) (iv2 c0 c1) hr hx
        ·
          by_cases q5 : IntKind.wrap .i32 (E.σ 1) < (-8192)
          ·
            have c1 : (-1048576) ≤ IntKind.wrap .i32 (E.σ 1) ∧ IntKind.wrap .i32 (E.σ 1) ≤ (-8193) := by omega
            exact case_ (m := m3n) e2 (List.mem_cons_of_mem _ (List.mem_cons_of_mem _ List.mem_cons_self)) (iv2 c0 c1) hr hx
          ·
            by_cases q6 : IntKind.wrap .i32 (E.σ 1) < (-64)
            ·
              have c1 : (-8192) ≤ IntKind.wrap .i32 (E.σ 1) ∧ IntKind.wrap .i32 (E.σ 1) ≤ (-65) := by omega
              exact case_ (m := m3n) e2 (List.mem_cons_of_mem _ (List.mem_cons_of_mem _ (List.mem_cons_of_mem _ List.mem_cons_self))) (iv2 c0 c1) hr hx
            ·
              have c1 : (-64) ≤ IntKind.wrap .i32 (E.σ 1) ∧ IntKind.wrap .i32 (E.σ 1) ≤ (-1) := by omega
              exact case_ (m := m3n) e2 (List.mem_cons_of_mem _ (List.mem_cons_of_mem _ (List.mem_cons_of_mem _ (List.mem_cons_of_mem _ List.mem_cons_self)))) (iv2 c0 c1) hr hx
      ·
        by_cases q4 : IntKind.wrap .i32 (E.σ 1) < 8192
        ·
          by_cases q5 : IntKind.wrap .i32 (E.σ 1) < 64
          ·
            have c1 : 0 ≤ IntKind.wrap .i32 (E.σ 1) ∧ IntKind.wrap .i32 (E.σ 1) ≤ 63 := by omega
            exact case_ (m := m3n) e2 (List.mem_cons_of_mem _ (List.mem_cons_of_mem _ (List.mem_cons_of_mem _ (List.mem_cons_of_mem _ (List.mem_cons_of_mem _ List.mem_cons_self))))) (iv2 c0 c1) hr hx
          ·
            have c1 : 64 ≤ IntKind.wrap .i32 (E.σ 1) ∧ IntKind.wrap .i32 (E.σ 1) ≤ 8191 := by omega
            exact case_ (m := m3n) e2 (List.mem_cons_of_mem _ (List.mem_cons_of_mem _ (List.mem_cons_of_mem _ (List.mem_cons_of_mem _ (List.mem_cons_of_mem _ (List.mem_cons_of_mem _ List.mem_cons_self)))))) (iv2 c0 c1) hr hx
        ·
          by_cases q5 : IntKind.wrap .i32 (E.σ 1) < 1048576
          ·
            have c1 : 8192 ≤ IntKind.wrap .i32 (E.σ 1) ∧ IntKind.wrap .i32 (E.σ 1) ≤ 1048575 := by omega
            exact case_ (m := m3n) e2 (List.mem_cons_of_mem _ (List.mem_cons_of_mem _ (List.mem_cons_of_mem _ (List.mem_cons_of_mem _ (List.mem_cons_of_mem _ (List.mem_cons_of_mem _ (List.mem_cons_of_mem _ List.mem_cons_self))))))) (iv2 c0 c1) hr hx
          ·
            by_cases q6 : IntKind.wrap .i32 (E.σ 1) < 134217728
            ·
              have c1 : 1048576 ≤ IntKind.wrap .i32 (E.σ 1) ∧ IntKind.wrap .i32 (E.σ 1) ≤ 134217727 := by omega
              exact case_ (m := m3n) e2 (List.mem_cons_of_mem _ (List.mem_cons_of_mem _ (List.mem_cons_of_mem _ (List.mem_cons_of_mem _ (List.mem_cons_of_mem _ (List.mem_cons_of_mem _ (List.mem_cons_of_mem _ (List.mem_cons_of_mem _ List.mem_cons_self)))))))) (iv2 c0 c1) hr hx
            ·
              have c1 : 134217728 ≤ IntKind.wrap .i32 (E.σ 1) ∧ IntKind.wrap .i32 (E.σ 1) ≤ 2147483647 := by omega
              exact case_ (m := m3n) e2 (List.mem_cons_of_mem _ (List.mem_cons_of_mem _ (List.mem_cons_of_mem _ (List.mem_cons_of_mem _ (List.mem_cons_of_mem _ (List.mem_cons_of_mem _ (List.mem_cons_of_mem _ (List.mem_cons_of_mem _ (List.mem_cons_of_mem _ List.mem_cons_self))))))))) (iv2 c0 c1) hr hx
    ·
      have c0 : (-134217728) ≤ IntKind.wrap .i32 (E.σ 0) ∧ IntKind.wrap .i32 (E.σ 0) ≤ (-1048577) := by omega
      by_cases q3 : IntKind.wrap .i32 (E.σ 1) < 0
      ·
        by_cases q4 : IntKind.wrap .i32 (E.σ 1) < (-1048576)
        ·
          by_cases q5 : IntKind.wrap .i32 (E.σ 1) < (-134217728)
          ·
            have c1 : (-2147483648) ≤ IntKind.wrap .i32 (E.σ 1) ∧ IntKind.wrap .i32 (E.σ 1) ≤ (-134217729) := by omega
            exact case_ (m := m3n) e3 List.mem_cons_self (iv2 c0 c1) hr hx
          ·
            have c1 : (-134217728) ≤ IntKind.wrap .i32 (E.σ 1) ∧ IntKind.wrap .i32 (E.σ 1) ≤ (-1048577) := by omega
            exact case_ (m := m3n) e3 (List.mem_cons_of_mem _ List.mem_cons_self) (iv2 c0 c1) hr hx
        ·
          by_cases q5 : IntKind.wrap .i32 (E.σ 1) < (-8192)
          ·
            have c1 : (-1048576) ≤ IntKind.wrap .i32 (E.σ 1) ∧ IntKind.wrap .i32 (E.σ 1) ≤ (-8193) := by omega
            exact case_ (m := m3n) e3 (List.mem_cons_of_mem _ (List.mem_cons_of_mem _ List.mem_cons_self)) (iv2 c0 c1) hr hx
          ·
            by_cases q6 : IntKind.wrap .i32 (E.σ 1) < (-64)
            ·
              have c1 : (-8192) ≤ IntKind.wrap .i32 (E.σ 1) ∧ IntKind.wrap .i32 (E.σ 1) ≤ (-65) := by omega
              exact case_ (m := m3n) e3 (List.mem_cons_of_mem _ (List.mem_cons_of_mem _ (List.mem_cons_of_mem _ List.mem_cons_self))) (iv2 c0 c1) hr hx
            ·
              have c1 : (-64) ≤ IntKind.wrap .i32 (E.σ 1) ∧ IntKind.wrap .i32 (E.σ 1) ≤ (-1) := by omega
              exact case_ (m := m3n) e3 (List.mem_cons_of_mem _ (List.mem_cons_of_mem _ (List.mem_cons_of_mem _ (List.mem_cons_of_mem _ List.mem_cons_self)))) (iv2 c0 c1) hr hx
      ·
        by_cases q4 : IntKind.wrap .i32 (E.σ 1) < 8192
        ·
          by_cases q5 : IntKind.wrap .i32 (E.σ 1) < 64
          ·
            have c1 : 0 ≤ IntKind.wrap .i32 (E.σ 1) ∧ IntKind.wrap .i32 (E.σ 1) ≤ 63 := by omega
            exact case_ (m := m3n) e3 (List.mem_cons_of_mem _ (List.mem_cons_of_mem _ (List.mem_cons_of_mem _ (List.mem_cons_of_mem _ (List.mem_cons_of_mem _ List.mem_cons_self))))) (iv2 c0 c1) hr hx
          ·
            have c1 : 64 ≤ IntKind.wrap .i32 (E.σ 1) ∧ IntKind.wrap .i32 (E.σ 1) ≤ 8191 := by omega
            exact case_ (m := m3n) e3 (List.mem_cons_of_mem _ (List.mem_cons_of_mem _ (List.mem_cons_of_mem _ (List.mem_cons_of_mem _ (List.mem_cons_of_mem _ (List.mem_cons_of_mem _ List.mem_cons_self)))))) (iv2 c0 c1) hr hx
        ·
          by_cases q5 : IntKind.wrap .i32 (E.σ 1) < 1048576
          ·
            have c1 : 8192 ≤ IntKind.wrap .i32 (E.σ 1) ∧ IntKind.wrap .i32 (E.σ 1) ≤ 1048575 := by omega
            exact case_ (m := m3n) e3 (List.mem_cons_of_mem _ (List.mem_cons_of_mem _ (List.mem_cons_of_mem _ (List.mem_cons_of_mem _ (List.mem_cons_of_mem _ (List.mem_cons_of_mem _ (List.mem_cons_of_mem _ List.mem_cons_self))))))) (iv2 c0 c1) hr hx
          ·
            by_cases q6 : IntKind.wrap .i32 (E.σ 1) < 134217728
            ·
              have c1 : 1048576 ≤ IntKind.wrap .i32 (E.σ 1) ∧ IntKind.wrap .i32 (E.σ 1) ≤ 134217727 := by omega
              exact case_ (m := m3n) e3 (List.mem_cons_of_mem _ (List.mem_cons_of_mem _ (List.mem_cons_of_mem _ (List.mem_cons_of_mem _ (List.mem_cons_of_mem _ (List.mem_cons_of_mem _ (List.mem_cons_of_mem _ (List.mem_cons_of_mem _ List.mem_cons_self)))))))) (iv2 c0 c1) hr hx
            ·
              have c1 : 134217728 ≤ IntKind.wrap .i32 (E.σ 1) ∧ IntKind.wrap .i32 (E.σ 1) ≤ 2147483647 := by omega
              exact case_ (m := m3n) e3 (List.mem_cons_of_mem _ (List.mem_cons_of_mem _ (List.mem_cons_of_mem _ (List.mem_cons_of_mem _ (List.mem_cons_of_mem _ (List.mem_cons_of_mem _ (List.mem_cons_of_mem _ (List.mem_cons_of_mem _ (List.mem_cons_of_mem _ List.mem_cons_self))))))))) (iv2 c0 c1) hr hx
  ·
    by_cases q2 : IntKind.wrap .i32 (E.σ 0) < (-8192)
    ·
      have c0 : (-1048576) ≤ IntKind.wrap .i32 (E.σ 0) ∧ IntKind.wrap .i32 (E.σ 0) ≤ (-8193) := by omega
      by_cases q3 : IntKind.wrap .i32 (E.σ 1) < 0
      ·
        by_cases q4 : IntKind.wrap .i32 (E.σ 1) < (-1048576)
        ·
          by_cases q5 : IntKind.wrap .i32 (E.σ 1) < (-134217728)
          ·
            have c1 : (-2147483648) ≤ IntKind.wrap .i32 (E.σ 1) ∧ IntKind.wrap .i32 (E.σ 1) ≤ (-134217729) := by omega
            exact case_ (m := m3n) e4 List.mem_cons_self (iv2 c0 c1) hr hx
          ·
            have c1 : (-134217728) ≤ IntKind.wrap .i32 (E.σ 1) ∧ IntKind.wrap .i32 (E.σ 1) ≤ (-1048577) := by omega
            exact case_ (m := m3n) e4 (List.mem_cons_of_mem _ List.mem_cons_self) (iv2 c0 c1) hr hx
        ·
          by_cases q5 : IntKind.wrap .i32 (E.σ 1) < (-8192)
          ·
            have c1 : (-1048576) ≤ IntKind.wrap .i32 (E.σ 1) ∧ IntKind.wrap .i32 (E.σ 1) ≤ (-8193) := by omega
            exact case_ (m := m3n) e4 (List.mem_cons_of_mem _ (List.mem_cons_of_mem _ List.mem_cons_self)) (iv2 c0 c1) hr hx
          ·
            by_cases q6 : IntKind.wrap .i32 (E.σ 1) < (-64)
            ·
              have c1 : (-8192) ≤ IntKind.wrap .i32 (E.σ 1) ∧ IntKind.wrap .i32 (E.σ 1) ≤ (-65) := by omega
              exact case_ (m := m3n) e4 (List.mem_cons_of_mem _ (List.mem_cons_of_mem _ (List.mem_cons_of_mem _ List.mem_cons_self))) (iv2 c0 c1) hr hx
            ·
              have c1 : (-64) ≤ IntKind.wrap .i32 (E.σ 1) ∧ IntKind.wrap .i32 (E.σ 1) ≤ (-1) := by omega
              exact case_ (m := m3n) e4 (List.mem_cons_of_mem _ (List.mem_cons_of_mem _ (List.mem_cons_of_mem _ (List.mem_cons_of_mem _ List.mem_cons_self)))) (iv2 c0 c1) hr hx
      ·
        by_cases q4 : IntKind.wrap .i32 (E.σ 1) < 8192
        ·
          by_cases q5 : IntKind.wrap .i32 (E.σ 1) < 64
          ·
            have c1 : 0 ≤ IntKind.wrap .i32 (E.σ 1) ∧ IntKind.wrap .i32 (E.σ 1) ≤ 63 := by omega
            exact case_ (m := m3n) e4 (List.mem_cons_of_mem _ (List.mem_cons_of_mem _ (List.mem_cons_of_mem _ (List.mem_cons_of_mem _ (List.mem_cons_of_mem _ List.mem_cons_self))))) (iv2 c0 c1) hr hx
          ·
            have c1 : 64 ≤ IntKind.wrap .i32 (E.σ 1) ∧ IntKind.wrap .i32 (E.σ 1) ≤ 8191 := by omega
            exact case_ (m := m3n) e4 (List.mem_cons_of_mem _ (List.mem_cons_of_mem _ (List.mem_cons_of_mem _ (List.mem_cons_of_mem _ (List.mem_cons_of_mem _ (List.mem_cons_of_mem _ List.mem_cons_self)))))) (iv2 c0 c1) hr hx
        ·
          by_cases q5 : IntKind.wrap .i32 (E.σ 1) < 1048576
          ·
            have c1 : 8192 ≤ IntKind.wrap .i32 (E.σ 1) ∧ IntKind.wrap .i32 (E.σ 1) ≤ 1048575 := by omega
            exact case_ (m := m3n) e4 (List.mem_cons_of_mem _ (List.mem_cons_of_mem _ (List.mem_cons_of_mem _ (List.mem_cons_of_mem _ (List.mem_cons_of_mem _ (List.mem_cons_of_mem _ (List.mem_cons_of_mem _ List.mem_cons_self))))))) (iv2 c0 c1) hr hx
          ·
            by_cases q6 : IntKind.wrap .i32 (E.σ 1) < 134217728
            ·
              have c1 : 1048576 ≤ IntKind.wrap .i32 (E.σ 1) ∧ IntKind.wrap .i32 (E.σ 1) ≤ 134217727 := by omega
              exact case_ (m := m3n) e4 (List.mem_cons_of_mem _ (List.mem_cons_of_mem _ (List.mem_cons_of_mem _ (List.mem_cons_of_mem _ (List.mem_cons_of_mem _ (List.mem_cons_of_mem _ (List.mem_cons_of_mem _ (List.mem_cons_of_mem _ List.mem_cons_self)))))))) (iv2 c0 c1) hr hx
            ·
              have c1 : 134217728 ≤ IntKind.wrap .i32 (E.σ 1) ∧ IntKind.wrap .i32 (E.σ 1) ≤ 2147483647 := by omega
              exact case_ (m := m3n) e4 (List.mem_cons_of_mem _ (List.mem_cons_of_mem _ (List.mem_cons_of_mem _ (List.mem_cons_of_mem _ (List.mem_cons_of_mem _ (List.mem_cons_of_mem _ (List.mem_cons_of_mem _ (List.mem_cons_of_mem _ (List.mem_cons_of_mem _ List.mem_cons_self))))))))) (iv2 c0 c1) hr hx
    ·
      by_cases q3 : IntKind.wrap .i32 (E.σ 0) < (-64)
      ·
        have c0 : (-8192) ≤ IntKind.wrap .i32 (E.σ 0) ∧ IntKind.wrap .i32 (E.σ 0) ≤ (-65) := by omega
        by_cases q4 : IntKind.wrap .i32 (E.σ 1) < 0
        ·
          by_cases q5 : IntKind.wrap .i32 (E.σ 1) < (-1048576)
          ·
            by_cases q6 : IntKind.wrap .i32 (E.σ 1) < (-134217728)
            ·
              have c1 : (-2147483648) ≤ IntKind.wrap .i32 (E.σ 1) ∧ IntKind.wrap .i32 (E.σ 1) ≤ (-134217729) := by omega
              exact case_ (m := m3n) e5 List.mem_cons_self (iv2 c0 c1) hr hx
            ·
              have c1 : (-134217728) ≤ IntKind.wrap .i32 (E.σ 1) ∧ IntKind.wrap .i32 (E.σ 1) ≤ (-1048577) := by omega
              exact case_ (m := m3n) e5 (List.mem_cons_of_mem _ List.mem_cons_self) (iv2 c0 c1) hr hx
          ·
            by_cases q6 : IntKind.wrap .i32 (E.σ 1) < (-8192)
            ·
              have c1 : (-1048576) ≤ IntKind.wrap .i32 (E.σ 1) ∧ IntKind.wrap .i32 (E.σ 1) ≤ (-8193) := by omega
              exact case_ (m := m3n) e5 (List.mem_cons_of_mem _ (List.mem_cons_of_mem _ List.mem_cons_self)) (iv2 c0 c1) hr hx
            ·
              by_cases q7 : IntKind.wrap .i32 (E.σ 1) < (-64)
              ·
                have c1 : (-8192) ≤ IntKind.wrap .i32 (E.σ 1) ∧ IntKind.wrap .i32 (E.σ 1) ≤ (-65) := by omega
                exact case_ (m := m3n) e5 (List.mem_cons_of_mem _ (List.mem_cons_of_mem _ (List.mem_cons_of_mem _ List.mem_cons_self))) (iv2 c0 c1) hr hx
              ·
                have c1 : (-64) ≤ IntKind.wrap .i32 (E.σ 1) ∧ IntKind.wrap .i32 (E.σ 1) ≤ (-1) := by omega
                exact case_ (m := m3n) e5 (List.mem_cons_of_mem _ (List.mem_cons_of_mem _ (List.mem_cons_of_mem _ (List.mem_cons_of_mem _ List.mem_cons_self)))) (iv2 c0 c1) hr hx
        ·
          by_cases q5 : IntKind.wrap .i32 (E.σ 1) < 8192
          ·
            by_cases q6 : IntKind.wrap .i32 (E.σ 1) < 64
            ·
              have c1 : 0 ≤ IntKind.wrap .i32 (E.σ 1) ∧ IntKind.wrap .i32 (E.σ 1) ≤ 63 := by omega
              exact case_ (m := m3n) e5 (List.mem_cons_of_mem _ (List.mem_cons_of_mem _ (List.mem_cons_of_mem _ (List.mem_cons_of_mem _ (List.mem_cons_of_mem _ List.mem_cons_self))))) (iv2 c0 c1) hr hx
            ·
              have c1 : 64 ≤ IntKind.wrap .i32 (E.σ 1) ∧ IntKind.wrap .i32 (E.σ 1) ≤ 8191 := by omega
              exact case_ (m := m3n) e5 (List.mem_cons_of_mem _ (List.mem_cons_of_mem _ (List.mem_cons_of_mem _ (List.mem_cons_of_mem _ (List.mem_cons_of_mem _ (List.mem_cons_of_mem _ List.mem_cons_self)))))) (iv2 c0 c1) hr hx
          ·
            by_cases q6 : IntKind.wrap .i32 (E.σ 1) < 1048576
            ·
              have c1 : 8192 ≤ IntKind.wrap .i32 (E.σ 1) ∧ IntKind.wrap .i32 (E.σ 1) ≤ 1048575 := by omega
              exact case_ (m := m3n) e5 (List.mem_cons_of_mem _ (List.mem_cons_of_mem _ (List.mem_cons_of_mem _ (List.mem_cons_of_mem _ (List.mem_cons_of_mem _ (List.mem_cons_of_mem _ (List.mem_cons_of_mem _ List.mem_cons_self))))))) (iv2 c0 c1) hr hx
            ·
              by_cases q7 : IntKind.wrap .i32 (E.σ 1) < 134217728
              ·
                have c1 : 1048576 ≤ IntKind.wrap .i32 (E.σ 1) ∧ IntKind.wrap .i32 (E.σ 1) ≤ 134217727 := by omega
                exact case_ (m := m3n) e5 (List.mem_cons_of_mem _ (List.mem_cons_of_mem _ (List.mem_cons_of_mem _ (List.mem_cons_of_mem _ (List.mem_cons_of_mem _ (List.mem_cons_of_mem _ (List.mem_cons_of_mem _ (List.mem_cons_of_mem _ List.mem_cons_self)))))))) (iv2 c0 c1) hr hx
              ·
                have c1 : 134217728 ≤ IntKind.wrap .i32 (E.σ 1) ∧ IntKind.wrap .i32 (E.σ 1) ≤ 2147483647 := by omega
                exact case_ (m := m3n) e5 (List.mem_cons_of_mem _ (List.mem_cons_of_mem _ (List.mem_cons_of_mem _ (List.mem_cons_of_mem _ (List.mem_cons_of_mem _ (List.mem_cons_of_mem _ (List.mem_cons_of_mem _ (List.mem_cons_of_mem _ (List.mem_cons_of_mem _ List.mem_cons_self))))))))) (iv2 c0 c1) hr hx
      ·
        have c0 : (-64) ≤ IntKind.wrap .i32 (E.σ 0) ∧ IntKind.wrap .i32 (E.σ 0) ≤ (-1) := by omega
        by_cases q4 : IntKind.wrap .i32 (E.σ 1) < 0
        ·
          by_cases q5 : IntKind.wrap .i32 (E.σ 1) < (-1048576)
          ·
            by_cases q6 : IntKind.wrap .i32 (E.σ 1) < (-134217728)
            ·
              have c1 : (-2147483648) ≤ IntKind.wrap .i32 (E.σ 1) ∧ IntKind.wrap .i32 (E.σ 1) ≤ (-134217729) := by omega
              exact case_ (m := m3n) e6 List.mem_cons_self (iv2 c0 c1) hr hx
            ·
              have c1 : (-134217728) ≤ IntKind.wrap .i32 (E.σ 1) ∧ IntKind.wrap .i32 (E.σ 1) ≤ (-1048577) := by omega
              exact case_ (m := m3n) e6 (List.mem_cons_of_mem _ List.mem_cons_self) (iv2 c0 c1) hr hx
          ·
            by_cases q6 : IntKind.wrap .i32 (E.σ 1) < (-8192)
            ·
              have c1 : (-1048576) ≤ IntKind.wrap .i32 (E.σ 1) ∧ IntKind.wrap .i32 (E.σ 1) ≤ (-8193) := by omega
              exact case_ (m := m3n) e6 (List.mem_cons_of_mem _ (List.mem_cons_of_mem _ List.mem_cons_self)) (iv2 c0 c1) hr hx
            ·
              by_cases q7 : IntKind.wrap .i32 (E.σ 1) < (-64)
              ·
                have c1 : (-8192) ≤ IntKind.wrap .i32 (E.σ 1) ∧ IntKind.wrap .i32 (E.σ 1) ≤ (-65) := by omega
                exact case_ (m := m3n) e6 (List.mem_cons_of_mem _ (List.mem_cons_of_mem _ (List.mem_cons_of_mem _ List.mem_cons_self))) (iv2 c0 c1) hr hx
              ·
                have c1 : (-64) ≤ IntKind.wrap .i32 (E.σ 1) ∧ IntKind.wrap .i32 (E.σ 1) ≤ (-1) := by omega
                exact case_ (m := m3n) e6 (List.mem_cons_of_mem _ (List.mem_cons_of_mem _ (List.mem_cons_of_mem _ (List.mem_cons_of_mem _ List.mem_cons_self)))) (iv2 c0 c1) hr hx
        ·
          by_cases q5 : IntKind.wrap .i32 (E.σ 1) < 8192
          ·
            by_cases q6 : IntKind.wrap .i32 (E.σ 1) < 64
            ·
              have c1 : 0 ≤ IntKind.wrap .i32 (E.σ 1) ∧ IntKind.wrap .i32 (E.σ 1) ≤ 63 := by omega
              exact case_ (m := m3n) e6 (List.mem_cons_of_mem _ (List.mem_cons_of_mem _ (List.mem_cons_of_mem _ (List.mem_cons_of_mem _ (List.mem_cons_of_mem _ List.mem_cons_self))))) (iv2 c0 c1) hr hx
            ·
              have c1 : 64 ≤ IntKind.wrap .i32 (E.σ 1) ∧ IntKind.wrap .i32 (E.σ 1) ≤ 8191 := by omega
              exact case_ (m := m3n) e6 (List.mem_cons_of_mem _ (List.mem_cons_of_mem _ (List.mem_cons_of_mem _ (List.mem_cons_of_mem _ (List.mem_cons_of_mem _ (List.mem_cons_of_mem _ List.mem_cons_self)))))) (iv2 c0 c1) hr hx
          ·
            by_cases q6 : IntKind.wrap .i32 (E.σ 1) < 1048576
            ·
              have c1 : 8192 ≤ IntKind.wrap .i32 (E.σ 1) ∧ IntKind.wrap .i32 (E.σ 1) ≤ 1048575 := by omega
              exact case_ (m := m3n) e6 (List.mem_cons_of_mem _ (List.mem_cons_of_mem _ (List.mem_cons_of_mem _ (List.mem_cons_of_mem _ (List.mem_cons_of_mem _ (List.mem_cons_of_mem _ (List.mem_cons_of_mem _ List.mem_cons_self))))))) (iv2 c0 c1) hr hx
            ·
              by_cases q7 : IntKind.wrap .i32 (E.σ 1) < 134217728
              ·
                have c1 : 1048576 ≤ IntKind.wrap .i32 (E.σ 1) ∧ IntKind.wrap .i32 (E.σ 1) ≤ 134217727 := by omega
                exact case_ (m := m3n) e6 (List.mem_cons_of_mem _ (List.mem_cons_of_mem _ (List.mem_cons_of_mem _ (List.mem_cons_of_mem _ (List.mem_cons_of_mem _ (List.mem_cons_of_mem _ (List.mem_cons_of_mem _ (List.mem_cons_of_mem _ List.mem_cons_self)))))))) (iv2 c0 c1) hr hx
              ·
                have c1 : 134217728 ≤ IntKind.wrap .i32 (E.σ 1) ∧ IntKind.wrap .i32 (E.σ 1) ≤ 2147483647 := by omega
                exact case_ (m := m3n) e6 (List.mem_cons_of_mem _ (List.mem_cons_of_mem _ (List.mem_cons_of_mem _ (List.mem_cons_of_mem _ (List.mem_cons_of_mem _ (List.mem_cons_of_mem _ (List.mem_cons_of_mem _ (List.mem_cons_of_mem _ (List.mem_cons_of_mem _ List.mem_cons_self))))))))) (iv2 c0 c1) hr hx
theorem m3pok (W0 : World) [hg : GlOk gl W0] : FmOkC Tryz.prog W0 (fun σ => 0 < IntKind.wrap .i32 (σ 0)) m3p := by
  intro E w xs hp hr hx
  have g0 := rgv (E.σ 0)
  have g1 := rgv (E.σ 1)
  have hp' : 0 < IntKind.wrap .i32 (E.σ 0) := hp
  by_cases q1 : IntKind.wrap .i32 (E.σ 0) < 8192
  ·
    by_cases q2 : IntKind.wrap .i32 (E.σ 0) < 64
    ·
      have c0 : 1 ≤ IntKind.wrap .i32 (E.σ 0) ∧ IntKind.wrap .i32 (E.σ 0) ≤ 63 := by omega
      by_cases q3 : IntKind.wrap .i32 (E.σ 1) < 0
      ·
        by_cases q4 : IntKind.wrap .i32 (E.σ 1) < (-1048576)
        ·
          by_cases q5 : IntKind.wrap .i32 (E.σ 1) < (-134217728)
          ·
            have c1 : (-2147483648) ≤ IntKind.wrap .i32 (E.σ 1) ∧ IntKind.wrap .i32 (E.σ 1) ≤ (-134217729) := by omega
            exact case_ (m := m3p) e7 List.mem_cons_self (iv2 c0 c1) hr hx
          ·
            have c1 : (-134217728) ≤ IntKind.wrap .i32 (E.σ 1) ∧ IntKind.wrap .i32 (E.σ 1) ≤ (-1048577) := by omega
            exact case_ (m := m3p) e7 (List.mem_cons_of_mem _ List.mem_cons_self) (iv2 c0 c1) hr hx
        ·
          by_cases q5 : IntKind.wrap .i32 (E.σ 1) < (-8192)
          ·
            have c1 : (-1048576) ≤ IntKind.wrap .i32 (E.σ 1) ∧ IntKind.wrap .i32 (E.σ 1) ≤ (-8193) := by omega
            exact case_ (m := m3p) e7 (List.mem_cons_of_mem _ (List.mem_cons_of_mem _ List.mem_cons_self)) (iv2 c0 c1) hr hx
          ·
            by_cases q6 : IntKind.wrap .i32 (E.σ 1) < (-64)
            ·
              have c1 : (-8192) ≤ IntKind.wrap .i32 (E.σ 1) ∧ IntKind.wrap .i32 (E.σ 1) ≤ (-65) := by omega
              exact case_ (m := m3p) e7 (List.mem_cons_of_mem _ (List.mem_cons_of_mem _ (List.mem_cons_of_mem _ List.mem_cons_self))) (iv2 c0 c1) hr hx
            ·
              have c1 : (-64) ≤ IntKind.wrap .i32 (E.σ 1) ∧ IntKind.wrap .i32 (E.σ 1) ≤ (-1) := by omega
              exact case_ (m := m3p) e7 (List.mem_cons_of_mem _ (List.mem_cons_of_mem _ (List.mem_cons_of_mem _ (List.mem_cons_of_mem _ List.mem_cons_self)))) (iv2 c0 c1) hr hx
      ·
        by_cases q4 : IntKind.wrap .i32 (E.σ 1) < 8192
        ·
          by_cases q5 : IntKind.wrap .i32 (E.σ 1) < 64
          ·
            have c1 : 0 ≤ IntKind.wrap .i32 (E.σ 1) ∧ IntKind.wrap .i32 (E.σ 1) ≤ 63 := by omega
            exact case_ (m := m3p) e7 (List.mem_cons_of_mem _ (List.mem_cons_of_mem _ (List.mem_cons_of_mem _ (List.mem_cons_of_mem _ (List.mem_cons_of_mem _ List.mem_cons_self))))) (iv2 c0 c1) hr hx
          ·
            have c1 : 64 ≤ IntKind.wrap .i32 (E.σ 1) ∧ IntKind.wrap .i32 (E.σ 1) ≤ 8191 := by omega
            exact case_ (m := m3p) e7 (List.mem_cons_of_mem _ (List.mem_cons_of_mem _ (List.mem_cons_of_mem _ (List.mem_cons_of_mem _ (List.mem_cons_of_mem _ (List.mem_cons_of_mem _ List.mem_cons_self)))))) (iv2 c0 c1) hr hx
        ·
          by_cases q5 : IntKind.wrap .i32 (E.σ 1) < 1048576
          ·
            have c1 : 8192 ≤ IntKind.wrap .i32 (E.σ 1) ∧ IntKind.wrap .i32 (E.σ 1) ≤ 1048575 := by omega
            exact case_ (m := m3p) e7 (List.mem_cons_of_mem _ (List.mem_cons_of_mem _ (List.mem_cons_of_mem _ (List.mem_cons_of_mem _ (List.mem_cons_of_mem _ (List.mem_cons_of_mem _ (List.mem_cons_of_mem _ List.mem_cons_self))))))) (iv2 c0 c1) hr hx
          ·
            by_cases q6 : IntKind.wrap .i32 (E.σ 1) < 134217728
            ·
              have c1 : 1048576 ≤ IntKind.wrap .i32 (E.σ 1) ∧ IntKind.wrap .i32 (E.σ 1) ≤ 134217727 := by omega
              exact case_ (m := m3p) e7 (List.mem_cons_of_mem _ (List.mem_cons_of_mem _ (List.mem_cons_of_mem _ (List.mem_cons_of_mem _ (List.mem_cons_of_mem _ (List.mem_cons_of_mem _ (List.mem_cons_of_mem _ (List.mem_cons_of_mem _ List.mem_cons_self)))))))) (iv2 c0 c1) hr hx
            ·
              have c1 : 134217728 ≤ IntKind.wrap .i32 (E.σ 1) ∧ IntKind.wrap .i32 (E.σ 1) ≤ 2147483647 := by omega
              exact case_ (m := m3p) e7 (List.mem_cons_of_mem _ (List.mem_cons_of_mem _ (List.mem_cons_of_mem _ (List.mem_cons_of_mem _ (List.mem_cons_of_mem _ (List.mem_cons_of_mem _ (List.mem_cons_of_mem _ (List.mem_cons_of_mem _ (List.mem_cons_of_mem _ List.mem_cons_self))))))))) (iv2 c0 c1) hr hx
    ·
      have c0 : 64 ≤ IntKind.wrap .i32 (E.σ 0) ∧ IntKind.wrap .i32 (E.σ 0) ≤ 8191 := by omega
      by_cases q3 : IntKind.wrap .i32 (E.σ 1) < 0
      ·
        by_cases q4 : IntKind.wrap .i32 (E.σ 1) < (-1048576)
        ·
          by_cases q5 : IntKind.wrap .i32 (E.σ 1) < (-134217728)
          ·
            have c1 : (-2147483648) ≤ IntKind.wrap .i32 (E.σ 1) ∧ IntKind.wrap .i32 (E.σ 1) ≤ (-134217729) := by omega
            exact case_ (m := m3p) e8 List.mem_cons_self (iv2 c0 c1) hr hx
          ·
            have c1 : (-134217728) ≤ IntKind.wrap .i32 (E.σ 1) ∧ IntKind.wrap .i32 (E.σ 1) ≤ (-1048577) := by omega
            exact case_ (m := m3p) e8 (List.mem_cons_of_mem _ List.mem_cons_self) (iv2 c0 c1) hr hx
        ·
          by_cases q5 : IntKind.wrap .i32 (E.σ 1) < (-8192)
          ·
            have c1 : (-1048576) ≤ IntKind.wrap .i32 (E.σ 1) ∧ IntKind.wrap .i32 (E.σ 1) ≤ (-8193) := by omega
            exact case_ (m := m3p) e8 (List.mem_cons_of_mem _ (List.mem_cons_of_mem _ List.mem_cons_self)) (iv2 c0 c1) hr hx
          ·
            by_cases q6 : IntKind.wrap .i32 (E.σ 1) < (-64)
            ·
              have c1 : (-8192) ≤ IntKind.wrap .i32 (E.σ 1) ∧ IntKind.wrap .i32 (E.σ 1) ≤ (-65) := by omega
              exact case_ (m := m3p) e8 (List.mem_cons_of_mem _ (List.mem_cons_of_mem _ (List.mem_cons_of_mem _ List.mem_cons_self))) (iv2 c0 c1) hr hx
            ·
              have c1 : (-64) ≤ IntKind.wrap .i32 (E.σ 1) ∧ IntKind.wrap .i32 (E.σ 1) ≤ (-1) := by omega
              exact case_ (m := m3p) e8 (List.mem_cons_of_mem _ (List.mem_cons_of_mem _ (List.mem_cons_of_mem _ (List.mem_cons_of_mem _ List.mem_cons_self)))) (iv2 c0 c1) hr hx
      ·
        by_cases q4 : IntKind.wrap .i32 (E.σ 1) < 8192
        ·
          by_cases q5 : IntKind.wrap .i32 (E.σ 1) < 64
          ·
            have c1 : 0 ≤ IntKind.wrap .i32 (E.σ 1) ∧ IntKind.wrap .i32 (E.σ 1) ≤ 63 := by omega
            exact case_ (m := m3p) e8 (List.mem_cons_of_mem _ (List.mem_cons_of_mem _ (List.mem_cons_of_mem _ (List.mem_cons_of_mem _ (List.mem_cons_of_mem _ List.mem_cons_self))))) (iv2 c0 c1) hr hx
          ·
            have c1 : 64 ≤ IntKind.wrap .i32 (E.σ 1) ∧ IntKind.wrap .i32 (E.σ 1) ≤ 8191 := by omega
            exact case_ (m := m3p) e8 (List.mem_cons_of_mem _ (List.mem_cons_of_mem _ (List.mem_cons_of_mem _ (List.mem_cons_of_mem _ (List.mem_cons_of_mem _ (List.mem_cons_of_mem _ List.mem_cons_self)))))) (iv2 c0 c1) hr hx
        ·
          by_cases q5 : IntKind.wrap .i32 (E.σ 1) < 1048576
          ·
            have c1 : 8192 ≤ IntKind.wrap .i32 (E.σ 1) ∧ IntKind.wrap .i32 (E.σ 1) ≤ 1048575 := by omega
            exact case_ (m := m3p) e8 (List.mem_cons_of_mem _ (List.mem_cons_of_mem _ (List.mem_cons_of_mem _ (List.mem_cons_of_mem _ (List.mem_cons_of_mem _ (List.mem_cons_of_mem _ (List.mem_cons_of_mem _ List.mem_cons_self))))))) (iv2 c0 c1) hr hx
          ·
            by_cases q6 : IntKind.wrap .i32 (E.σ 1) < 134217728
            ·
              have c1 : 1048576 ≤ IntKind.wrap .i32 (E.σ 1) ∧ IntKind.wrap .i32 (E.σ 1) ≤ 134217727 := by omega
              exact case_ (m := m3p) e8 (List.mem_cons_of_mem _ (List.mem_cons_of_mem _ (List.mem_cons_of_mem _ (List.mem_cons_of_mem _ (List.mem_cons_of_mem _ (List.mem_cons_of_mem _ (List.mem_cons_of_mem _ (List.mem_cons_of_mem _ List.mem_cons_self)))))))) (iv2 c0 c1) hr hx
            ·
              have c1 : 134217728 ≤ IntKind.wrap .i32 (E.σ 1) ∧ IntKind.wrap .i32 (E.σ 1) ≤ 2147483647 := by omega
              exact case_ (m := m3p) e8 (List.mem_cons_of_mem _ (List.mem_cons_of_mem _ (List.mem_cons_of_mem _ (List.mem_cons_of_mem _ (List.mem_cons_of_mem _ (List.mem_cons_of_mem _ (List.mem_cons_of_mem _ (List.mem_cons_of_mem _ (List.mem_cons_of_mem _ List.mem_cons_self))))))))) (iv2 c0 c1) hr hx
  ·
    by_cases q2 : IntKind.wrap .i32 (E.σ 0) < 1048576
    ·
      have c0 : 8192 ≤ IntKind.wrap .i32 (E.σ 0) ∧ IntKind.wrap .i32 (E.σ 0) ≤ 1048575 := by omega
      by_cases q3 : IntKind.wrap .i32 (E.σ 1) < 0
      ·
        by_cases q4 : IntKind.wrap .i32 (E.σ 1) < (-1048576)
        ·
          by_cases q5 : IntKind.wrap .i32 (E.σ 1) < (-134217728)
          ·
            have c1 : (-2147483648) ≤ IntKind.wrap .i32 (E.σ 1) ∧ IntKind.wrap .i32 (E.σ 1) ≤ (-134217729) := by omega
            exact case_ (m := m3p) e9 List.mem_cons_self (iv2 c0 c1) hr hx
          ·
            have c1 : (-134217728) ≤ IntKind.wrap .i32 (E.σ 1) ∧ IntKind.wrap .i32 (E.σ 1) ≤ (-1048577) := by omega
            exact case_ (m := m3p) e9 (List.mem_cons_of_mem _ List.mem_cons_self) (iv2 c0 c1) hr hx
        ·
          by_cases q5 : IntKind.wrap .i32 (E.σ 1) < (-8192)
          ·
            have c1 : (-1048576) ≤ IntKind.wrap .i32 (E.σ 1) ∧ IntKind.wrap .i32 (E.σ 1) ≤ (-8193) := by omega
            exact case_ (m := m3p) e9 (List.mem_cons_of_mem _ (List.mem_cons_of_mem _ List.mem_cons_self)) (iv2 c0 c1) hr hx
          ·
            by_cases q6 : IntKind.wrap .i32 (E.σ 1) < (-64)
            ·
              have c1 : (-8192) ≤ IntKind.wrap .i32 (E.σ 1) ∧ IntKind.wrap .i32 (E.σ 1) ≤ (-65) := by omega
              exact case_ (m := m3p) e9 (List.mem_cons_of_mem _ (List.mem_cons_of_mem _ (List.mem_cons_of_mem _ List.mem_cons_self))) (iv2 c0 c1) hr hx
            ·
              have c1 : (-64) ≤ IntKind.wrap .i32 (E.σ 1) ∧ IntKind.wrap .i32 (E.σ 1) ≤ (-1) := by omega
              exact case_ (m := m3p) e9 (List.mem_cons_of_mem _ (List.mem_cons_of_mem _ (List.mem_cons_of_mem _ (List.mem_cons_of_mem _ List.mem_cons_self)))) (iv2 c0 c1) hr hx
      ·
        by_cases q4 : IntKind.wrap .i32 (E.σ 1) < 8192
        ·
          by_cases q5 : IntKind.wrap .i32 (E.σ 1) < 64
          ·
            have c1 : 0 ≤ IntKind.wrap .i32 (E.σ 1) ∧ IntKind.wrap .i32 (E.σ 1) ≤ 63 := by omega
            exact case_ (m := m3p) e9 (List.mem_cons_of_mem _ (List.mem_cons_of_mem _ (List.mem_cons_of_mem _ (List.mem_cons_of_mem _ (List.mem_cons_of_mem _ List.mem_cons_self))))) (iv2 c0 c1) hr hx
          ·
            have c1 : 64 ≤ IntKind.wrap .i32 (E.σ 1) ∧ IntKind.wrap .i32 (E.σ 1) ≤ 8191 := by omega
            exact case_ (m := m3p) e9 (List.mem_cons_of_mem _ (List.mem_cons_of_mem _ (List.mem_cons_of_mem _ (List.mem_cons_of_mem _ (List.mem_cons_of_mem _ (List.mem_cons_of_mem _ List.mem_cons_self)))))) (iv2 c0 c1) hr hx
        ·
          by_cases q5 : IntKind.wrap .i32 (E.σ 1) < 1048576
          ·
            have c1 : 8192 ≤ IntKind.wrap .i32 (E.σ 1) ∧ IntKind.wrap .i32 (E.σ 1) ≤ 1048575 := by omega
            exact case_ (m := m3p) e9 (List.mem_cons_of_mem _ (List.mem_cons_of_mem _ (List.mem_cons_of_mem _ (List.mem_cons_of_mem _ (List.mem_cons_of_mem _ (List.mem_cons_of_mem _ (List.mem_cons_of_mem _ List.mem_cons_self))))))) (iv2 c0 c1) hr hx
          ·
            by_cases q6 : IntKind.wrap .i32 (E.σ 1) < 134217728
            ·
              have c1 : 1048576 ≤ IntKind.wrap .i32 (E.σ 1) ∧ IntKind.wrap .i32 (E.σ 1) ≤ 134217727 := by omega
              exact case_ (m := m3p) e9 (List.mem_cons_of_mem _ (List.mem_cons_of_mem _ (List.mem_cons_of_mem _ (List.mem_cons_of_mem _ (List.mem_cons_of_mem _ (List.mem_cons_of_mem _ (List.mem_cons_of_mem _ (List.mem_cons_of_mem _ List.mem_cons_self)))))))) (iv2 c0 c1) hr hx
            ·
              have c1 : 134217728 ≤ IntKind.wrap .i32 (E.σ 1) ∧ IntKind.wrap .i32 (E.σ 1) ≤ 2147483647 := by omega
              exact case_ (m := m3p) e9 (List.mem_cons_of_mem _ (List.mem_cons_of_mem _ (List.mem_cons_of_mem _ (List.mem_cons_of_mem _ (List.mem_cons_of_mem _ (List.mem_cons_of_mem _ (List.mem_cons_of_mem _ (List.mem_cons_of_mem _ (List.mem_cons_of_mem _ List.mem_cons_self))))))))) (iv2 c0 c1) hr hx
    ·
      by_cases q3 : IntKind.wrap .i32 (E.σ 0) < 134217728
      ·
        have c0 : 1048576 ≤ IntKind.wrap .i32 (E.σ 0) ∧ IntKind.wrap .i32 (E.σ 0) ≤ 134217727 := by omega
        by_cases q4 : IntKind.wrap .i32 (E.σ 1) < 0
        ·
          by_cases q5 : IntKind.wrap .i32 (E.σ 1) < (-1048576)
          ·
            by_cases q6 : IntKind.wrap .i32 (E.σ 1) < (-134217728)
            ·
              have c1 : (-2147483648) ≤ IntKind.wrap .i32 (E.σ 1) ∧ IntKind.wrap .i32 (E.σ 1) ≤ (-134217729) := by omega
              exact case_ (m := m3p) e10 List.mem_cons_self (iv2 c0 c1) hr hx
            ·
              have c1 : (-134217728) ≤ IntKind.wrap .i32 (E.σ 1) ∧ IntKind.wrap .i32 (E.σ 1) ≤ (-1048577) := by omega
              exact case_ (m := m3p) e10 (List.mem_cons_of_mem _ List.mem_cons_self) (iv2 c0 c1) hr hx
          ·
            by_cases q6 : IntKind.wrap .i32 (E.σ 1) < (-8192)
            ·
              have c1 : (-1048576) ≤ IntKind.wrap .i32 (E.σ 1) ∧ IntKind.wrap .i32 (E.σ 1) ≤ (-8193) := by omega
              exact case_ (m := m3p) e10 (List.mem_cons_of_mem _ (List.mem_cons_of_mem _ List.mem_cons_self)) (iv2 c0 c1) hr hx
            ·
              by_cases q7 : IntKind.wrap .i32 (E.σ 1) < (-64)
              ·
                have c1 : (-8192) ≤ IntKind.wrap .i32 (E.σ 1) ∧ IntKind.wrap .i32 (E.σ 1) ≤ (-65) := by omega
                exact case_ (m := m3p) e10 (List.mem_cons_of_mem _ (List.mem_cons_of_mem _ (List.mem_cons_of_mem _ List.mem_cons_self))) (iv2 c0 c1) hr hx
              ·
                have c1 : (-64) ≤ IntKind.wrap .i32 (E.σ 1) ∧ IntKind.wrap .i32 (E.σ 1) ≤ (-1) := by omega
                exact case_ (m := m3p) e10 (List.mem_cons_of_mem _ (List.mem_cons_of_mem _ (List.mem_cons_of_mem _ (List.mem_cons_of_mem _ List.mem_cons_self)))) (iv2 c0 c1) hr hx
        ·
          by_cases q5 : IntKind.wrap .i32 (E.σ 1) < 8192
          ·
            by_cases q6 : IntKind.wrap .i32 (E.σ 1) < 64
            ·
              have c1 : 0 ≤ IntKind.wrap .i32 (E.σ 1) ∧ IntKind.wrap .i32 (E.σ 1) ≤ 63 := by omega
              exact case_ (m := m3p) e10 (List.mem_cons_of_mem _ (List.mem_cons_of_mem _ (List.mem_cons_of_mem _ (List.mem_cons_of_mem _ (List.mem_cons_of_mem _ List.mem_cons_self))))) (iv2 c0 c1) hr hx
            ·
              have c1 : 64 ≤ IntKind.wrap .i32 (E.σ 1) ∧ IntKind.wrap .i32 (E.σ 1) ≤ 8191 := by omega
              exact case_ (m := m3p) e10 (List.mem_cons_of_mem _ (List.mem_cons_of_mem _ (List.mem_cons_of_mem _ (List.mem_cons_of_mem _ (List.mem_cons_of_mem _ (List.mem_cons_of_mem _ List.mem_cons_self)))))) (iv2 c0 c1) hr hx
          ·
            by_cases q6 : IntKind.wrap .i32 (E.σ 1) < 1048576
            ·
              have c1 : 8192 ≤ IntKind.wrap .i32 (E.σ 1) ∧ IntKind.wrap .i32 (E.σ 1) ≤ 1048575 := by omega
              exact case_ (m := m3p) e10 (List.mem_cons_of_mem _ (List.mem_cons_of_mem _ (List.mem_cons_of_mem _ (List.mem_cons_of_mem _ (List.mem_cons_of_mem _ (List.mem_cons_of_mem _ (List.mem_cons_of_mem _ List.mem_cons_self))))))) (iv2 c0 c1) hr hx
            ·
              by_cases q7 : IntKind.wrap .i32 (E.σ 1) < 134217728
              ·
                have c1 : 1048576 ≤ IntKind.wrap .i32 (E.σ 1) ∧ IntKind.wrap .i32 (E.σ 1) ≤ 134217727 := by omega
                exact case_ (m := m3p) e10 (List.mem_cons_of_mem _ (List.mem_cons_of_mem _ (List.mem_cons_of_mem _ (List.mem_cons_of_mem _ (List.mem_cons_of_mem _ (List.mem_cons_of_mem _ (List.mem_cons_of_mem _ (List.mem_cons_of_mem _ List.mem_cons_self)))))))) (iv2 c0 c1) hr hx
              ·
                have c1 : 134217728 ≤ IntKind.wrap .i32 (E.σ 1) ∧ IntKind.wrap .i32 (E.σ 1) ≤ 2147483647 := by omega
                exact case_ (m := m3p) e10 (List.mem_cons_of_mem _ (List.mem_cons_of_mem _ (List.mem_cons_of_mem _ (List.mem_cons_of_mem _ (List.mem_cons_of_mem _ (List.mem_cons_of_mem _ (List.mem_cons_of_mem _ (List.mem_cons_of_mem _ (List.mem_cons_of_mem _ List.mem_cons_self))))))))) (iv2 c0 c1) hr hx
      ·
        have c0 : 134217728 ≤ IntKind.wrap .i32 (E.σ 0) ∧ IntKind.wrap .i32 (E.σ 0) ≤ 2147483647 := by omega
        by_cases q4 : IntKind.wrap .i32 (E.σ 1) < 0
        ·
          by_cases q5 : IntKind.wrap .i32 (E.σ 1) < (-1048576)
          ·
            by_cases q6 : IntKind.wrap .i32 (E.σ 1) < (-134217728)
            ·
              have c1 : (-2147483648) ≤ IntKind.wrap .i32 (E.σ 1) ∧ IntKind.wrap .i32 (E.σ 1) ≤ (-134217729) := by omega
              exact case_ (m := m3p) e11 List.mem_cons_self (iv2 c0 c1) hr hx
            ·
              have c1 : (-134217728) ≤ IntKind.wrap .i32 (E.σ 1) ∧ IntKind.wrap .i32 (E.σ 1) ≤ (-1048577) := by omega
              exact case_ (m := m3p) e11 (List.mem_cons_of_mem _ List.mem_cons_self) (iv2 c0 c1) hr hx
          ·
            by_cases q6 : IntKind.wrap .i32 (E.σ 1) < (-8192)
            ·
              have c1 : (-1048576) ≤ IntKind.wrap .i32 (E.σ 1) ∧ IntKind.wrap .i32 (E.σ 1) ≤ (-8193) := by omega
              exact case_ (m := m3p) e11 (List.mem_cons_of_mem _ (List.mem_cons_of_mem _ List.mem_cons_self)) (iv2 c0 c1) hr hx
            ·
              by_cases q7 : IntKind.wrap .i32 (E.σ 1) < (-64)
              ·
                have c1 : (-8192) ≤ IntKind.wrap .i32 (E.σ 1) ∧ IntKind.wrap .i32 (E.σ 1) ≤ (-65) := by omega
                exact case_ (m := m3p) e11 (List.mem_cons_of_mem _ (List.mem_cons_of_mem _ (List.mem_cons_of_mem _ List.mem_cons_self))) (iv2 c0 c1) hr hx
              ·
                have c1 : (-64) ≤ IntKind.wrap .i32 (E.σ 1) ∧ IntKind.wrap .i32 (E.σ 1) ≤ (-1) := by omega
                exact case_ (m := m3p) e11 (List.mem_cons_of_mem _ (List.mem_cons_of_mem _ (List.mem_cons_of_mem _ (List.mem_cons_of_mem _ List.mem_cons_self)))) (iv2 c0 c1) hr hx
        ·
          by_cases q5 : IntKind.wrap .i32 (E.σ 1) < 8192
          ·
            by_cases q6 : IntKind.wrap .i32 (E.σ 1) < 64
            ·
              have c1 : 0 ≤ IntKind.wrap .i32 (E.σ 1) ∧ IntKind.wrap .i32 (E.σ 1) ≤ 63 := by omega
              exact case_ (m := m3p) e11 (List.mem_cons_of_mem _ (List.mem_cons_of_mem _ (List.mem_cons_of_mem _ (List.mem_cons_of_mem _ (List.mem_cons_of_mem _ List.mem_cons_self))))) (iv2 c0 c1) hr hx
            ·
              have c1 : 64 ≤ IntKind.wrap .i32 (E.σ 1) ∧ IntKind.wrap .i32 (E.σ 1) ≤ 8191 := by omega
              exact case_ (m := m3p) e11 (List.mem_cons_of_mem _ (List.mem_cons_of_mem _ (List.mem_cons_of_mem _ (List.mem_cons_of_mem _ (List.mem_cons_of_mem _ (List.mem_cons_of_mem _ List.mem_cons_self)))))) (iv2 c0 c1) hr hx
          ·
            by_cases q6 : IntKind.wrap .i32 (E.σ 1) < 1048576
            ·
              have c1 : 8192 ≤ IntKind.wrap .i32 (E.σ 1) ∧ IntKind.wrap .i32 (E.σ 1) ≤ 1048575 := by omega
              exact case_ (m := m3p) e11 (List.mem_cons_of_mem _ (List.mem_cons_of_mem _ (List.mem_cons_of_mem _ (List.mem_cons_of_mem _ (List.mem_cons_of_mem _ (List.mem_cons_of_mem _ (List.mem_cons_of_mem _ List.mem_cons_self))))))) (iv2 c0 c1) hr hx
            ·
              by_cases q7 : IntKind.wrap .i32 (E.σ 1) < 134217728
              ·
                have c1 : 1048576 ≤ IntKind.wrap .i32 (E.σ 1) ∧ IntKind.wrap .i32 (E.σ 1) ≤ 134217727 := by omega
                exact case_ (m := m3p) e11 (List.mem_cons_of_mem _ (List.mem_cons_of_mem _ (List.mem_cons_of_mem _ (List.mem_cons_of_mem _ (List.mem_cons_of_mem _ (List.mem_cons_of_mem _ (List.mem_cons_of_mem _ (List.mem_cons_of_mem _ List.mem_cons_self)))))))) (iv2 c0 c1) hr hx
              ·
                have c1 : 134217728 ≤ IntKind.wrap .i32 (E.σ 1) ∧ IntKind.wrap .i32 (E.σ 1) ≤ 2147483647 := by omega
                exact case_ (m := m3p) e11 (List.mem_cons_of_mem _ (List.mem_cons_of_mem _ (List.mem_cons_of_mem _ (List.mem_cons_of_mem _ (List.mem_cons_of_mem _ (List.mem_cons_of_mem _ (List.mem_cons_of_mem _ (List.mem_cons_of_mem _ (List.mem_cons_of_mem _ List.mem_cons_self))))))))) (iv2 c0 c1) hr hx
end Go.Proofs.YtfedjkcigdgcoaaGreatDoor.modelJumps
