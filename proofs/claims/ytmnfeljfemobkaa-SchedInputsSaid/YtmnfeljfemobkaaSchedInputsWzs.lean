/- The loop of gneiss/gneisslaw4.SchedInputs, class zs: what it comes to. -/
import Derived.Test.YtmnfeljfemobkaaSchedInputsTzs
namespace Go.Proofs.Ytmnfeljfemobkaa.schedInputs.zs
open Go Go.RowKit Go.Proofs Go.Ai Go.Proofs.Ytmnfeljfemobkaa.comp Go.Proofs.Ytmnfeljfemobkaa.schedInputs
set_option linter.unusedVariables false
set_option maxRecDepth 1000000
theorem way2 {W0 : World} [hg : GlOk gl W0] {s t : Nat → Int} (b : Frame) (hs0 : 0 ≤ s 1500 ∧ s 1500 ≤ 0) (hs1 : 1 ≤ s 1501 ∧ s 1501 ≤ 17592186044416) (hz : ∀ i, Gh i → s i = 0) (h : J s false true t) : Go.Ai.Way Try.prog W0 c3.V b lp.2 nxE pat (JJ s) (mu s) s (.exit 0) tmX .e 2 t := by
  obtain ⟨ho, ⟨h0, h1⟩, hi1, hi2, hsc⟩ := h
  have o0 : t 1500 = s 1500 := ho 1500 (by unfold Gh; omega)
  have o1 : t 1501 = s 1501 := ho 1501 (by unfold Gh; omega)
  have hn3 : IntKind.wrap .i64 (t 1501 + 3) = t 1501 + 3 := w64 _ (by omega) (by omega)
  obtain ⟨i1, i2⟩ := hi1 rfl
  have hpar := and1 (opVal .add .i64 (t 2) (t 10))
  have hrem := rem3 (t (gix 0 (t 11).toNat))
  rcases hpar with hp | hp
  ·
    by_cases hm : t 17 = 1
    ·
      have e10 : evs (thL (th (.bin .add .i64 (.var (nat_lit 10)) (.lit (.ofNat (nat_lit 1)))) (.var (nat_lit 11)) (.var (nat_lit 12)) (.var (nat_lit 13)) (.var (nat_lit 14)) (.var (nat_lit 16)) (.bin .sub .i64 (.var (nat_lit 17)) (.lit (.ofNat (nat_lit 1)))) (.var (nat_lit 18)))) t 10 = t 10 + 1 := w64 (t 10 + 1) (by omega) (by omega)
      have hj' : J s false false (evs (thL (th (.bin .add .i64 (.var (nat_lit 10)) (.lit (.ofNat (nat_lit 1)))) (.var (nat_lit 11)) (.var (nat_lit 12)) (.var (nat_lit 13)) (.var (nat_lit 14)) (.var (nat_lit 16)) (.bin .sub .i64 (.var (nat_lit 17)) (.lit (.ofNat (nat_lit 1)))) (.var (nat_lit 18)))) t) := ⟨fun i hi => (th_other t i hi).trans (ho i hi), ⟨by rw [e10]; omega, by rw [e10]; omega⟩, fun h => (by cases h), fun _ => (by rw [e10]; omega), fun h => (by cases h)⟩
      exact .step (c := 3) (cfOk (rw := r2_p0m1) (cm := c2_p0m1) (iv := i2_p0m1) (rc (hp) rn) (cc (by show decide (t 10 < t 1501) = _; exact decide_eq_true (by omega)) (cc (by show decide (t 10 < IntKind.wrap .i64 (t 1501 + 3)) = _; rw [hn3]; exact decide_eq_true (by omega)) cn)) (ic (⟨by show (0 : Int) ≤ t 10; omega, by show t 10 ≤ 35184372088832; omega⟩) (ic (⟨by show (1 : Int) ≤ t 1501; omega, by show t 1501 ≤ 17592186044416; omega⟩) (ic (⟨by show (1 : Int) ≤ t 17; omega, by show t 17 ≤ 1; omega⟩) inl)))) (ff_ok _ _ _ b) (ff_keys _) t2_p0m1 hj' (by show (s 1501 + 3 - evs (thL (th (.bin .add .i64 (.var (nat_lit 10)) (.lit (.ofNat (nat_lit 1)))) (.var (nat_lit 11)) (.var (nat_lit 12)) (.var (nat_lit 13)) (.var (nat_lit 14)) (.var (nat_lit 16)) (.bin .sub .i64 (.var (nat_lit 17)) (.lit (.ofNat (nat_lit 1)))) (.var (nat_lit 18)))) t 10).toNat < (s 1501 + 3 - t 10).toNat; rw [e10]; omega) (th_big t)
    ·
      have e10 : evs (thL (th (.bin .add .i64 (.var (nat_lit 10)) (.lit (.ofNat (nat_lit 1)))) (.var (nat_lit 11)) (.var (nat_lit 12)) (.var (nat_lit 13)) (.var (nat_lit 14)) (.var (nat_lit 16)) (.bin .sub .i64 (.var (nat_lit 17)) (.lit (.ofNat (nat_lit 1)))) (.var (nat_lit 18)))) t 10 = t 10 + 1 := w64 (t 10 + 1) (by omega) (by omega)
      have e17 : evs (thL (th (.bin .add .i64 (.var (nat_lit 10)) (.lit (.ofNat (nat_lit 1)))) (.var (nat_lit 11)) (.var (nat_lit 12)) (.var (nat_lit 13)) (.var (nat_lit 14)) (.var (nat_lit 16)) (.bin .sub .i64 (.var (nat_lit 17)) (.lit (.ofNat (nat_lit 1)))) (.var (nat_lit 18)))) t 17 = t 17 - 1 := w64 (t 17 - 1) (by omega) (by omega)
      have hj' : J s false true (evs (thL (th (.bin .add .i64 (.var (nat_lit 10)) (.lit (.ofNat (nat_lit 1)))) (.var (nat_lit 11)) (.var (nat_lit 12)) (.var (nat_lit 13)) (.var (nat_lit 14)) (.var (nat_lit 16)) (.bin .sub .i64 (.var (nat_lit 17)) (.lit (.ofNat (nat_lit 1)))) (.var (nat_lit 18)))) t) := ⟨fun i hi => (th_other t i hi).trans (ho i hi), ⟨by rw [e10]; omega, by rw [e10]; omega⟩, fun _ => ⟨by rw [e10]; omega, by rw [e10, e17]; omega⟩, fun h => (by cases h), fun h => (by cases h)⟩
      exact .step (c := 2) (cfOk (rw := r2_p0m2) (cm := c2_p0m2) (iv := i2_p0m2) (rc (hp) rn) (cc (by show decide (t 10 < t 1501) = _; exact decide_eq_true (by omega)) (cc (by show decide (t 10 < IntKind.wrap .i64 (t 1501 + 3)) = _; rw [hn3]; exact decide_eq_true (by omega)) cn)) (ic (⟨by show (0 : Int) ≤ t 10; omega, by show t 10 ≤ 35184372088832; omega⟩) (ic (⟨by show (1 : Int) ≤ t 1501; omega, by show t 1501 ≤ 17592186044416; omega⟩) (ic (⟨by show (2 : Int) ≤ t 17; omega, by show t 17 ≤ 17592186044416; omega⟩) inl)))) (ff_ok _ _ _ b) (ff_keys _) t2_p0m2 hj' (by show (s 1501 + 3 - evs (thL (th (.bin .add .i64 (.var (nat_lit 10)) (.lit (.ofNat (nat_lit 1)))) (.var (nat_lit 11)) (.var (nat_lit 12)) (.var (nat_lit 13)) (.var (nat_lit 14)) (.var (nat_lit 16)) (.bin .sub .i64 (.var (nat_lit 17)) (.lit (.ofNat (nat_lit 1)))) (.var (nat_lit 18)))) t 10).toNat < (s 1501 + 3 - t 10).toNat; rw [e10]; omega) (th_big t)
  ·
    by_cases hm : t 17 = 1
    ·
      have e10 : evs (thL (th (.bin .add .i64 (.var (nat_lit 10)) (.lit (.ofNat (nat_lit 1)))) (.var (nat_lit 11)) (.var (nat_lit 12)) (.var (nat_lit 13)) (.var (nat_lit 14)) (.var (nat_lit 16)) (.bin .sub .i64 (.var (nat_lit 17)) (.lit (.ofNat (nat_lit 1)))) (.var (nat_lit 18)))) t 10 = t 10 + 1 := w64 (t 10 + 1) (by omega) (by omega)
      have hj' : J s false false (evs (thL (th (.bin .add .i64 (.var (nat_lit 10)) (.lit (.ofNat (nat_lit 1)))) (.var (nat_lit 11)) (.var (nat_lit 12)) (.var (nat_lit 13)) (.var (nat_lit 14)) (.var (nat_lit 16)) (.bin .sub .i64 (.var (nat_lit 17)) (.lit (.ofNat (nat_lit 1)))) (.var (nat_lit 18)))) t) := ⟨fun i hi => (th_other t i hi).trans (ho i hi), ⟨by rw [e10]; omega, by rw [e10]; omega⟩, fun h => (by cases h), fun _ => (by rw [e10]; omega), fun h => (by cases h)⟩
      exact .step (c := 3) (cfOk (rw := r2_p1m1) (cm := c2_p1m1) (iv := i2_p1m1) (rc (hp) rn) (cc (by show decide (t 10 < t 1501) = _; exact decide_eq_true (by omega)) (cc (by show decide (t 10 < IntKind.wrap .i64 (t 1501 + 3)) = _; rw [hn3]; exact decide_eq_true (by omega)) cn)) (ic (⟨by show (0 : Int) ≤ t 10; omega, by show t 10 ≤ 35184372088832; omega⟩) (ic (⟨by show (1 : Int) ≤ t 1501; omega, by show t 1501 ≤ 17592186044416; omega⟩) (ic (⟨by show (1 : Int) ≤ t 17; omega, by show t 17 ≤ 1; omega⟩) inl)))) (ff_ok _ _ _ b) (ff_keys _) t2_p1m1 hj' (by show (s 1501 + 3 - evs (thL (th (.bin .add .i64 (.var (nat_lit 10)) (.lit (.ofNat (nat_lit 1)))) (.var (nat_lit 11)) (.var (nat_lit 12)) (.var (nat_lit 13)) (.var (nat_lit 14)) (.var (nat_lit 16)) (.bin .sub .i64 (.var (nat_lit 17)) (.lit (.ofNat (nat_lit 1)))) (.var (nat_lit 18)))) t 10).toNat < (s 1501 + 3 - t 10).toNat; rw [e10]; omega) (th_big t)
    ·
      have e10 : evs (thL (th (.bin .add .i64 (.var (nat_lit 10)) (.lit (.ofNat (nat_lit 1)))) (.var (nat_lit 11)) (.var (nat_lit 12)) (.var (nat_lit 13)) (.var (nat_lit 14)) (.var (nat_lit 16)) (.bin .sub .i64 (.var (nat_lit 17)) (.lit (.ofNat (nat_lit 1)))) (.var (nat_lit 18)))) t 10 = t 10 + 1 := w64 (t 10 + 1) (by omega) (by omega)
      have e17 : evs (thL (th (.bin .add .i64 (.var (nat_lit 10)) (.lit (.ofNat (nat_lit 1)))) (.var (nat_lit 11)) (.var (nat_lit 12)) (.var (nat_lit 13)) (.var (nat_lit 14)) (.var (nat_lit 16)) (.bin .sub .i64 (.var (nat_lit 17)) (.lit (.ofNat (nat_lit 1)))) (.var (nat_lit 18)))) t 17 = t 17 - 1 := w64 (t 17 - 1) (by omega) (by omega)
      have hj' : J s false true (evs (thL (th (.bin .add .i64 (.var (nat_lit 10)) (.lit (.ofNat (nat_lit 1)))) (.var (nat_lit 11)) (.var (nat_lit 12)) (.var (nat_lit 13)) (.var (nat_lit 14)) (.var (nat_lit 16)) (.bin .sub .i64 (.var (nat_lit 17)) (.lit (.ofNat (nat_lit 1)))) (.var (nat_lit 18)))) t) := ⟨fun i hi => (th_other t i hi).trans (ho i hi), ⟨by rw [e10]; omega, by rw [e10]; omega⟩, fun _ => ⟨by rw [e10]; omega, by rw [e10, e17]; omega⟩, fun h => (by cases h), fun h => (by cases h)⟩
      exact .step (c := 2) (cfOk (rw := r2_p1m2) (cm := c2_p1m2) (iv := i2_p1m2) (rc (hp) rn) (cc (by show decide (t 10 < t 1501) = _; exact decide_eq_true (by omega)) (cc (by show decide (t 10 < IntKind.wrap .i64 (t 1501 + 3)) = _; rw [hn3]; exact decide_eq_true (by omega)) cn)) (ic (⟨by show (0 : Int) ≤ t 10; omega, by show t 10 ≤ 35184372088832; omega⟩) (ic (⟨by show (1 : Int) ≤ t 1501; omega, by show t 1501 ≤ 17592186044416; omega⟩) (ic (⟨by show (2 : Int) ≤ t 17; omega, by show t 17 ≤ 17592186044416; omega⟩) inl)))) (ff_ok _ _ _ b) (ff_keys _) t2_p1m2 hj' (by show (s 1501 + 3 - evs (thL (th (.bin .add .i64 (.var (nat_lit 10)) (.lit (.ofNat (nat_lit 1)))) (.var (nat_lit 11)) (.var (nat_lit 12)) (.var (nat_lit 13)) (.var (nat_lit 14)) (.var (nat_lit 16)) (.bin .sub .i64 (.var (nat_lit 17)) (.lit (.ofNat (nat_lit 1)))) (.var (nat_lit 18)))) t 10).toNat < (s 1501 + 3 - t 10).toNat; rw [e10]; omega) (th_big t)
theorem way3 {W0 : World} [hg : GlOk gl W0] {s t : Nat → Int} (b : Frame) (hs0 : 0 ≤ s 1500 ∧ s 1500 ≤ 0) (hs1 : 1 ≤ s 1501 ∧ s 1501 ≤ 17592186044416) (hz : ∀ i, Gh i → s i = 0) (h : J s false false t) : Go.Ai.Way Try.prog W0 c3.V b lp.2 nxE pat (JJ s) (mu s) s (.exit 0) tmX .e 3 t := by
  obtain ⟨ho, ⟨h0, h1⟩, hi1, hi2, hsc⟩ := h
  have o0 : t 1500 = s 1500 := ho 1500 (by unfold Gh; omega)
  have o1 : t 1501 = s 1501 := ho 1501 (by unfold Gh; omega)
  have hn3 : IntKind.wrap .i64 (t 1501 + 3) = t 1501 + 3 := w64 _ (by omega) (by omega)
  have i1 := hi2 rfl
  by_cases he : t 10 = s 1501 + 3
  · refine .stop (cfOk (rw := []) (cm := [(.lss, (.var (nat_lit 10)), (.bin .add .i64 (.var (nat_lit 1501)) (.lit (.ofNat (nat_lit 3)))), false)]) (iv := []) rn (cc (by show decide (t 10 < IntKind.wrap .i64 (t 1501 + 3)) = _; rw [hn3]; exact decide_eq_false (by omega)) cn) inl) (ff_ok _ _ _ b) (ff_keys _) x3 ?_
    funext i
    by_cases hi : Gh i
    · rw [hz i hi]
      rcases hi with rfl | rfl | rfl | rfl | rfl | rfl | rfl | rfl <;> rfl
    · exact (th_other t i hi).trans (ho i hi)
  have hpar := and1 (opVal .add .i64 (t 2) (t 10))
  have hrem := rem3 (t (gix 0 (t 11).toNat))
  rcases hpar with hp | hp
  ·
    have e10 : evs (thL (th (.bin .add .i64 (.var (nat_lit 10)) (.lit (.ofNat (nat_lit 1)))) (.var (nat_lit 11)) (.var (nat_lit 12)) (.var (nat_lit 13)) (.var (nat_lit 14)) (.var (nat_lit 16)) (.var (nat_lit 17)) (.var (nat_lit 18)))) t 10 = t 10 + 1 := w64 (t 10 + 1) (by omega) (by omega)
    have hj' : J s false false (evs (thL (th (.bin .add .i64 (.var (nat_lit 10)) (.lit (.ofNat (nat_lit 1)))) (.var (nat_lit 11)) (.var (nat_lit 12)) (.var (nat_lit 13)) (.var (nat_lit 14)) (.var (nat_lit 16)) (.var (nat_lit 17)) (.var (nat_lit 18)))) t) := ⟨fun i hi => (th_other t i hi).trans (ho i hi), ⟨by rw [e10]; omega, by rw [e10]; omega⟩, fun h => (by cases h), fun _ => (by rw [e10]; omega), fun h => (by cases h)⟩
    exact .step (c := 3) (cfOk (rw := r3_p0) (cm := c3_p0) (iv := i3_p0) (rc (hp) rn) (cc (by show decide (t 10 < t 1501) = _; exact decide_eq_false (by omega)) (cc (by show decide (t 10 < IntKind.wrap .i64 (t 1501 + 3)) = _; rw [hn3]; exact decide_eq_true (by omega)) cn)) (ic (⟨by show (0 : Int) ≤ t 10; omega, by show t 10 ≤ 35184372088832; omega⟩) (ic (⟨by show (1 : Int) ≤ t 1501; omega, by show t 1501 ≤ 17592186044416; omega⟩) inl))) (ff_ok _ _ _ b) (ff_keys _) t3_p0 hj' (by show (s 1501 + 3 - evs (thL (th (.bin .add .i64 (.var (nat_lit 10)) (.lit (.ofNat (nat_lit 1)))) (.var (nat_lit 11)) (.var (nat_lit 12)) (.var (nat_lit 13)) (.var (nat_lit 14)) (.var (nat_lit 16)) (.var (nat_lit 17)) (.var (nat_lit 18)))) t 10).toNat < (s 1501 + 3 - t 10).toNat; rw [e10]; omega) (th_big t)
  ·
    have e10 : evs (thL (th (.bin .add .i64 (.var (nat_lit 10)) (.lit (.ofNat (nat_lit 1)))) (.var (nat_lit 11)) (.var (nat_lit 12)) (.var (nat_lit 13)) (.var (nat_lit 14)) (.var (nat_lit 16)) (.var (nat_lit 17)) (.var (nat_lit 18)))) t 10 = t 10 + 1 := w64 (t 10 + 1) (by omega) (by omega)
    have hj' : J s false false (evs (thL (th (.bin .add .i64 (.var (nat_lit 10)) (.lit (.ofNat (nat_lit 1)))) (.var (nat_lit 11)) (.var (nat_lit 12)) (.var (nat_lit 13)) (.var (nat_lit 14)) (.var (nat_lit 16)) (.var (nat_lit 17)) (.var (nat_lit 18)))) t) := ⟨fun i hi => (th_other t i hi).trans (ho i hi), ⟨by rw [e10]; omega, by rw [e10]; omega⟩, fun h => (by cases h), fun _ => (by rw [e10]; omega), fun h => (by cases h)⟩
    exact .step (c := 3) (cfOk (rw := r3_p1) (cm := c3_p1) (iv := i3_p1) (rc (hp) rn) (cc (by show decide (t 10 < t 1501) = _; exact decide_eq_false (by omega)) (cc (by show decide (t 10 < IntKind.wrap .i64 (t 1501 + 3)) = _; rw [hn3]; exact decide_eq_true (by omega)) cn)) (ic (⟨by show (0 : Int) ≤ t 10; omega, by show t 10 ≤ 35184372088832; omega⟩) (ic (⟨by show (1 : Int) ≤ t 1501; omega, by show t 1501 ≤ 17592186044416; omega⟩) inl))) (ff_ok _ _ _ b) (ff_keys _) t3_p1 hj' (by show (s 1501 + 3 - evs (thL (th (.bin .add .i64 (.var (nat_lit 10)) (.lit (.ofNat (nat_lit 1)))) (.var (nat_lit 11)) (.var (nat_lit 12)) (.var (nat_lit 13)) (.var (nat_lit 14)) (.var (nat_lit 16)) (.var (nat_lit 17)) (.var (nat_lit 18)))) t 10).toNat < (s 1501 + 3 - t 10).toNat; rw [e10]; omega) (th_big t)
theorem wayA {W0 : World} [hg : GlOk gl W0] {s t : Nat → Int} (b : Frame) (hs0 : 0 ≤ s 1500 ∧ s 1500 ≤ 0) (hs1 : 1 ≤ s 1501 ∧ s 1501 ≤ 17592186044416) (hz : ∀ i, Gh i → s i = 0) (a : Nat) (h : JJ s a t) : Go.Ai.Way Try.prog W0 c3.V b lp.2 nxE pat (JJ s) (mu s) s (.exit 0) tmX .e a t := by
  match a, h with
  | 0, h => exact absurd h (by intro h; obtain ⟨_, ⟨_, _⟩, h1, h2, h3⟩ := h; have := h3 rfl; omega)
  | 1, h => exact absurd h (by intro h; obtain ⟨_, ⟨_, _⟩, h1, h2, h3⟩ := h; have := h3 rfl; omega)
  | 2, h => exact way2 b hs0 hs1 hz h
  | 3, h => exact way3 b hs0 hs1 hz h
  | _ + 4, h => exact h.elim
theorem keysA {s t : Nat → Int} (hs0 : 0 ≤ s 1500 ∧ s 1500 ≤ 0) (hs1 : 1 ≤ s 1501 ∧ s 1501 ≤ 17592186044416) (a : Nat) (h : JJ s a t) : Keys c3.V (pat a).tm ∧ ∀ l o, PT.get l (pat a).T = some o → ∃ o', PT.get l TE = some o' := by
  match a, h with
  | 0, h => exact absurd h (by intro h; obtain ⟨_, ⟨_, _⟩, h1, h2, h3⟩ := h; have := h3 rfl; omega)
  | 1, h => exact absurd h (by intro h; obtain ⟨_, ⟨_, _⟩, h1, h2, h3⟩ := h; have := h3 rfl; omega)
  | 2, h => exact ⟨fun p v e => keysB_ok _ _ _ k2 p v e, names_of n2⟩
  | 3, h => exact ⟨fun p v e => keysB_ok _ _ _ k3 p v e, names_of n3⟩
  | _ + 4, h => exact h.elim
theorem lf {W0 : World} [hg : GlOk gl W0] (s : Nat → Int) (b : Frame) {ρ : P → Option (Nat × Nat)} {w : World} {arr : Array Value} {dv : List Deferred} {cs : List Frame} {k : List Item}
    (hcf : cfE.ok s) (st : St Try.prog W0 c3.V.n b tmE [] ⟨nxE, TE⟩ .no ⟨s, ρ⟩ w arr dv cs) : CodeOk Try.prog W0 c3.V.n b ⟨nxE, TE⟩ ⟨s, ρ⟩ w cs (lone (Fr b arr (.code lp.2 :: .inLoop lp.2 :: k) dv) cs w) k (.ok (.exit 0) tmX [] ⟨nxE, .e⟩ .no) := by
  obtain ⟨hs0, hs1, z10, z11, z12, z13, z14, z16, z17, z18, _⟩ := of_iv (l := ivE) hcf.2.2.1
  change (0 : Int) ≤ s 1500 ∧ s 1500 ≤ 0 at hs0
  change (1 : Int) ≤ s 1501 ∧ s 1501 ≤ 17592186044416 at hs1
  have hz : ∀ i, Gh i → s i = 0 := fun i hi => by
    rcases hi with rfl | rfl | rfl | rfl | rfl | rfl | rfl | rfl
    · exact Int.le_antisymm z10.2 z10.1
    · exact Int.le_antisymm z11.2 z11.1
    · exact Int.le_antisymm z12.2 z12.1
    · exact Int.le_antisymm z13.2 z13.1
    · exact Int.le_antisymm z14.2 z14.1
    · exact Int.le_antisymm z16.2 z16.1
    · exact Int.le_antisymm z17.2 z17.1
    · exact Int.le_antisymm z18.2 z18.1
  refine loop_many (pat := pat) (a0 := 2) (θ0 := thL (th (.lit (.ofNat (nat_lit 0))) (.lit (.ofNat (nat_lit 0))) (.lit (.ofNat (nat_lit 0))) (.lit (.ofNat (nat_lit 0))) (.lit (.ofNat (nat_lit 0))) (.lit (.ofNat (nat_lit 0))) (.var (nat_lit 1501)) (.var (nat_lit 1500)))) (JJ s) (mu s) hcf q0 (fun a t h => (keysA hs0 hs1 a h).1) (fun a t h => (keysA hs0 hs1 a h).2) (fun l o e => by rw [PT.get_e] at e; cases e) ?_ (fun a t h => wayA b hs0 hs1 hz a h) (th_big s) (fun a t h i hi => ?_) st
  · show J s false true (evs (thL (th (.lit (.ofNat (nat_lit 0))) (.lit (.ofNat (nat_lit 0))) (.lit (.ofNat (nat_lit 0))) (.lit (.ofNat (nat_lit 0))) (.lit (.ofNat (nat_lit 0))) (.lit (.ofNat (nat_lit 0))) (.var (nat_lit 1501)) (.var (nat_lit 1500)))) s)
    have e10 : evs (thL (th (.lit (.ofNat (nat_lit 0))) (.lit (.ofNat (nat_lit 0))) (.lit (.ofNat (nat_lit 0))) (.lit (.ofNat (nat_lit 0))) (.lit (.ofNat (nat_lit 0))) (.lit (.ofNat (nat_lit 0))) (.var (nat_lit 1501)) (.var (nat_lit 1500)))) s 10 = 0 := rfl
    have e11 : evs (thL (th (.lit (.ofNat (nat_lit 0))) (.lit (.ofNat (nat_lit 0))) (.lit (.ofNat (nat_lit 0))) (.lit (.ofNat (nat_lit 0))) (.lit (.ofNat (nat_lit 0))) (.lit (.ofNat (nat_lit 0))) (.var (nat_lit 1501)) (.var (nat_lit 1500)))) s 11 = 0 := rfl
    have e17 : evs (thL (th (.lit (.ofNat (nat_lit 0))) (.lit (.ofNat (nat_lit 0))) (.lit (.ofNat (nat_lit 0))) (.lit (.ofNat (nat_lit 0))) (.lit (.ofNat (nat_lit 0))) (.lit (.ofNat (nat_lit 0))) (.var (nat_lit 1501)) (.var (nat_lit 1500)))) s 17 = s 1501 := rfl
    have e18 : evs (thL (th (.lit (.ofNat (nat_lit 0))) (.lit (.ofNat (nat_lit 0))) (.lit (.ofNat (nat_lit 0))) (.lit (.ofNat (nat_lit 0))) (.lit (.ofNat (nat_lit 0))) (.lit (.ofNat (nat_lit 0))) (.var (nat_lit 1501)) (.var (nat_lit 1500)))) s 18 = s 1500 := rfl
    exact ⟨fun i hi => th_other s i hi, ⟨by rw [e10]; omega, by rw [e10]; omega⟩, fun _ => ⟨by rw [e10]; omega, by rw [e10, e17]; omega⟩, fun h => (by cases h), fun h => (by cases h)⟩
  · have hG : ¬ Gh i := by unfold Gh; omega
    match a, h with
    | 0, h => exact h.1 i hG
    | 1, h => exact h.1 i hG
    | 2, h => exact h.1 i hG
    | 3, h => exact h.1 i hG
    | _ + 4, h => exact h.elim
theorem calls {w : World} [hg : GlOk gl w] (s : Nat → Int) (h12 : s 1200 = 2) (x0 : Addr) (c0 : Nat) (x1 : Addr) (n1 c1 : Nat) (e1 : (n1 : Int) = s 1501) (hx1 : 0 < n1 → x1 = ⟨(s 1301).toNat, (s 1401).toNat + 0, none⟩) (hk1 : n1 ≤ c1) (p : Int) (hp : s 2 = p) (hcf : cfE.ok s) (hX : XOk w s) : Calls Try.prog 3 #[.slice (some x0) 0 c0, .slice (some x1) n1 c1, .int .i64 p] w fun e w' => e = .returned (.bool true) ∧ Below w.heap.size w w' := by
  subst hp
  haveI : GlOk cfE.gl w := hg
  exact soundL comp.mixed comp.TOk (over := ovr cfE) (cf := cfE) (fuel := 1000000) (d := 200) (f := 3) (avs := avE) (σ := s) (xs := [.slice (some x0) 0 c0, .slice (some x1) n1 c1, .int .i64 (s 2)]) (fun _ h => ovr_ok h) hcf
    (.cons (.gsl (o := 0) rfl rfl (.ext (by show ((0 : Nat) : Int) < s 1200; rw [h12]; decide)) (fun h => absurd h (Nat.lt_irrefl 0)) (Nat.zero_le _)) (.cons (.gsl (o := 0) rfl e1 (.ext (by show ((1 : Nat) : Int) < s 1200; rw [h12]; decide)) hx1 hk1) (.cons (.int .i64 (.var 2)) .nil)))
    (lh := hFact cfE mE hErr) (x := c3) (Q := fun y => y = lp.2) (hFact_keys (fun ex tm ds H rc e => by cases e; exact fun p v e => keysB_ok _ _ _ kX p v e) (fun F h _ _ _ _ _ _ _ _ _ _ e => by cases e))
    (fun y hy => by subst hy; exact hFact_ok (fun b E w arr dv cs k hcf st hk => lf E.σ b hcf st) hErr_ok) qF loopsQ qE hX
end Go.Proofs.Ytmnfeljfemobkaa.schedInputs.zs
