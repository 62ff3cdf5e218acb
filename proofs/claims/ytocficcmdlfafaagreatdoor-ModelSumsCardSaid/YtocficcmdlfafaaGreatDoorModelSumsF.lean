/- The loop of gneiss/gneisslaw21.ModelSums's steps: what it comes to. -/
import Derived.Test.YtocficcmdlfafaaGreatDoorModelSumsQ
import Derived.Test.YtocficcmdlfafaaGreatDoorModelSumsM
namespace Go.Proofs.YtocficcmdlfafaaGreatDoor.modelSums
open Go Go.RowKit Go.Proofs Go.Ai Go.Proofs.YtocficcmdlfafaaGreatDoor.comp
set_option linter.unusedVariables false
set_option maxRecDepth 1000000
theorem sing {a b : Int} (h : a = b) : b ≤ a ∧ a ≤ b := by omega
theorem ivL_ok {a b : Nat} {σ : Nat → Int} (h0 : (a : Int) ≤ σ 10 ∧ σ 10 ≤ (b : Int)) (h1 : 0 ≤ σ 11 ∧ σ 11 ≤ 4128705) (h2 : 16 ≤ σ 12 ∧ σ 12 ≤ 760) (h3 : 0 ≤ opVal .and .i64 (σ 1) 65535 ∧ opVal .and .i64 (σ 1) 65535 ≤ 65535) : (cfB (ivL a b)).ok σ := by
  refine ⟨fun _ _ hm => (by cases hm), fun _ _ _ _ hm => (by cases hm), ?_, fun _ _ _ _ hm => (by cases hm)⟩
  intro u lo hi hm
  have hm : (u, lo, hi) ∈ [((.var 10 : SI), (.ofNat a : Int), (.ofNat b : Int)), (.var 11, 0, 4128705), (.var 12, 16, 760), (.bin .and .i64 (.var 1) (.lit 65535), 0, 65535)] := hm
  simp only [List.mem_cons, List.not_mem_nil, or_false, Prod.mk.injEq] at hm
  rcases hm with ⟨rfl, rfl, rfl⟩ | ⟨rfl, rfl, rfl⟩ | ⟨rfl, rfl, rfl⟩ | ⟨rfl, rfl, rfl⟩
  · exact h0
  · exact h1
  · exact h2
  · exact h3
theorem ov_ok {W0 : World} [hg : GlOk gl W0] {cf : Cf} (h1 : cf.gl = gl) (h2 : cf.rw = []) {c : CallF} (h : CallOk Tryz.prog W0 cf c) : CallOk Tryz.prog W0 cf (ov0 [] c) :=
  haveI : GlOk cf.gl W0 := by rw [h1]; exact hg
  ov0_ok h1 h2 h
theorem bt_ok {W0 : World} [hg : GlOk gl W0] (iv : List (SI × Int × Int)) : CallOk Tryz.prog W0 (cfB iv) (btF (cfB iv)).1 ∧ RndOk Tryz.prog W0 (cfB iv) (btF (cfB iv)).2 :=
  haveI : GlOk (cfB iv).gl W0 := hg
  bothC_ok TOk (fun call h => drawK_ok mixed h) (fun c h => ov_ok rfl rfl h) 1000000 200
theorem ff_ok {W0 : World} [hg : GlOk gl W0] (iv : List (SI × Int × Int)) (b : Frame) : BodyOk Tryz.prog W0 (cfB iv) c5.V b (FF (cfB iv)) lp.2 :=
  haveI : GlOk (cfB iv).gl W0 := hg
  fun tm ds H rc E w arr dv cs k hcf st hk => codeC_ok (bt_ok iv).1 (bt_ok iv).2 (drawK_ok mixed (bt_ok iv).1) lp.1 lp.2 qC tm ds H rc E w arr dv cs k hcf st hk
theorem ff_keys (cf : Cf) : BodyKeys c5.V (FF cf) := fun _ _ _ _ _ _ _ _ _ hk h => codeC_keys lp.1 lp.2 qC hk h
theorem keys0 : Keys c5.V tm0 := fun p v h => keysB_ok _ _ _ qK p v h
theorem keysX : CrKeys c5.V exitL := exitR_keys (fun ex tm ds H rc e => (ff_keys cfX).loop 1000000 _ _ _ _ _ _ _ _ _ keys0 e)
/-- the loop's numbers, round by round: k rounds in all, of which r are left -/
def J (σ σ' : Nat → Int) : Prop := (∀ i, i ≠ 10 → i ≠ 11 → i ≠ 12 → σ' i = σ i) ∧ ∃ r : Int, 0 ≤ r ∧ r < opVal .and .i64 (σ 0) 63 ∧ σ' 10 = r ∧ σ' 11 = (opVal .and .i64 (σ 0) 63 - r) * opVal .and .i64 (σ 1) 65535 ∧ σ' 12 = 4 + 12 * (opVal .and .i64 (σ 0) 63 - r)
theorem w32 (x : Int) (h0 : -2147483648 ≤ x) (h1 : x ≤ 2147483647) : IntKind.wrap .i32 x = x := by rw [IntKind.wrap_i32]; omega
theorem w64 (x : Int) (h0 : -4294967296 ≤ x) (h1 : x ≤ 4294967296) : IntKind.wrap .i64 x = x := by rw [IntKind.wrap_i64]; omega
theorem th_other {a b c : SI} (σ : Nat → Int) (i : Nat) (h0 : i ≠ 10) (h1 : i ≠ 11) (h2 : i ≠ 12) : evs (thL [(10, a), (11, b), (12, c)]) σ i = σ i := by
  unfold evs
  rw [thL_cons, if_neg (fun h => h0 h.symm), thL_cons, if_neg (fun h => h1 h.symm), thL_cons, if_neg (fun h => h2 h.symm)]
  rfl
theorem lfOk (W0 : World) [hg : GlOk gl W0] (b : Frame) : LfOk Tryz.prog W0 cfL c5.V b lp.2 mL := by
  intro E w arr dv cs k hcf st hk
  obtain ⟨σ, ρ⟩ := E
  have hk1 := hcf.2.2.1 _ _ _ (List.mem_cons_self : ((.bin .and .i64 (.var 0) (.lit 63) : SI), (1 : Int), (63 : Int)) ∈ ivR)
  change 1 ≤ opVal .and .i64 (σ 0) 63 ∧ opVal .and .i64 (σ 0) 63 ≤ 63 at hk1
  have hb1 := rng1 (σ 1)
  have hmul : ∀ r : Int, 0 ≤ r → r ≤ opVal .and .i64 (σ 0) 63 → 0 ≤ (opVal .and .i64 (σ 0) 63 - r) * opVal .and .i64 (σ 1) 65535 ∧ (opVal .and .i64 (σ 0) 63 - r) * opVal .and .i64 (σ 1) 65535 ≤ 63 * 65535 := fun r h0 h1 =>
    ⟨Int.mul_nonneg (by omega) hb1.1, Int.mul_le_mul (by omega) hb1.2 hb1.1 (by omega)⟩
  change St Tryz.prog W0 c5.V.n b tmE [] ⟨nxL, TE⟩ .no ⟨σ, ρ⟩ w arr dv cs at st
  change Keys c5.V tmE at hk
  show CodeOk Tryz.prog W0 c5.V.n b ⟨nxL, TE⟩ ⟨σ, ρ⟩ w cs _ k (exitR (thL thX) (loopC (FF cfX) 1000000 tm0 [] ⟨nxL, T0⟩ .no))
  refine loop_turn (cfA := cfA) (cfB := cfX) (FA := FF cfA) (FB := FF cfX) (fuel := 1000000) (m := nat_lit 12) (tme := tmE) (tm0 := tm0) (Te := TE) (T0 := T0) (nx := nxL) (θ0 := thL th0) (θA := thL thA) (θX := thL thX)
    (J σ) (fun σ' => (σ' 10).toNat) (ff_ok _ b) (ff_keys _) (ff_ok _ b) (ff_keys _) hcf q0 qA ⟨fun i h0 h1 h2 => th_other σ i h0 h1 h2, opVal .and .i64 (σ 0) 63 - 1, by omega, by omega, ?_, ?_, ?_⟩ (fun σ' hj => ?_)
    (thL_big th0 (by decide) σ) (fun σ' => thL_big thA (by decide) σ') (thL_big thX (by decide) σ) st hk
  · show IntKind.wrap .i32 (opVal .and .i64 (σ 0) 63 - 1) = opVal .and .i64 (σ 0) 63 - 1
    exact w32 _ (by omega) (by omega)
  · show IntKind.wrap .i32 (0 + opVal .and .i64 (σ 1) 65535) = (opVal .and .i64 (σ 0) 63 - (opVal .and .i64 (σ 0) 63 - 1)) * opVal .and .i64 (σ 1) 65535
    rw [show opVal .and .i64 (σ 0) 63 - (opVal .and .i64 (σ 0) 63 - 1) = 1 by omega, Int.one_mul, Int.zero_add]
    exact w32 _ (by omega) (by omega)
  · show (16 : Int) = 4 + 12 * (opVal .and .i64 (σ 0) 63 - (opVal .and .i64 (σ 0) 63 - 1))
    omega
  · obtain ⟨ho, r, hr0, hr1, h10, h11, h12⟩ := hj
    have hs0 : σ' 0 = σ 0 := ho 0 (by omega) (by omega) (by omega)
    have hs1 : σ' 1 = σ 1 := ho 1 (by omega) (by omega) (by omega)
    obtain ⟨hm0, hm1⟩ := hmul r hr0 (by omega)
    by_cases hr : r = 0
    · subst hr
      refine .inr ⟨ivL_ok (by rw [h10]; show (0 : Int) ≤ 0 ∧ (0 : Int) ≤ (0 : Int); exact ⟨by omega, by omega⟩) (by rw [h11]; exact ⟨hm0, by omega⟩) (by rw [h12]; omega) (by rw [hs1]; exact hb1), ?_⟩
      funext i
      by_cases i10 : i = 10
      · subst i10; rw [h10]; rfl
      by_cases i11 : i = 11
      · subst i11
        rw [h11, Int.sub_zero]
        rw [Int.sub_zero] at hm0 hm1
        exact (w64 _ (by omega) (by omega)).symm
      by_cases i12 : i = 12
      · subst i12
        rw [h12, Int.sub_zero]
        show _ = IntKind.wrap .i64 (4 + IntKind.wrap .i64 (12 * opVal .and .i64 (σ 0) 63))
        rw [w64 (12 * opVal .and .i64 (σ 0) 63) (by omega) (by omega), w64 _ (by omega) (by omega)]
      · rw [ho i i10 i11 i12]
        exact (th_other σ i i10 i11 i12).symm
    · obtain ⟨hn0, hn1⟩ := hmul (r - 1) (by omega) (by omega)
      have e2 : (opVal .and .i64 (σ 0) 63 - (r - 1)) * opVal .and .i64 (σ 1) 65535 = (opVal .and .i64 (σ 0) 63 - r) * opVal .and .i64 (σ 1) 65535 + opVal .and .i64 (σ 1) 65535 := by
        rw [show opVal .and .i64 (σ 0) 63 - (r - 1) = (opVal .and .i64 (σ 0) 63 - r) + 1 by omega, Int.add_mul, Int.one_mul]
      have hd : evs (thL thA) σ' 10 = r - 1 := by
        show IntKind.wrap .i32 (σ' 10 - 1) = r - 1
        rw [h10]
        exact w32 _ (by omega) (by omega)
      refine .inl ⟨ivL_ok (by rw [h10]; show (1 : Int) ≤ r ∧ r ≤ (62 : Int); exact ⟨by omega, by omega⟩) (by rw [h11]; exact ⟨hm0, by omega⟩) (by rw [h12]; omega) (by rw [hs1]; exact hb1), ⟨fun i h0 h1 h2 => (th_other σ' i h0 h1 h2).trans (ho i h0 h1 h2), r - 1, by omega, by omega, hd, ?_, ?_⟩, ?_⟩
      · show IntKind.wrap .i32 (σ' 11 + opVal .and .i64 (σ' 1) 65535) = _
        rw [h11, hs1, e2]
        rw [e2] at hn0 hn1
        exact w32 _ (by omega) (by omega)
      · have step : ∀ x : Int, 0 ≤ x → x ≤ 1000 → IntKind.wrap .i64 (x + 1) = x + 1 := fun x h0 h1 => w64 _ (by omega) (by omega)
        show IntKind.wrap .i64 (IntKind.wrap .i64 (IntKind.wrap .i64 (IntKind.wrap .i64 (IntKind.wrap .i64 (IntKind.wrap .i64 (IntKind.wrap .i64 (IntKind.wrap .i64 (IntKind.wrap .i64 (IntKind.wrap .i64 (IntKind.wrap .i64 (IntKind.wrap .i64 (σ' 12 + 1) + 1) + 1) + 1) + 1) + 1) + 1) + 1) + 1) + 1) + 1) + 1) = _
        rw [h12]
        generalize opVal .and .i64 (σ 0) 63 = kk at *
        rw [step (4 + 12 * (kk - r)) (by omega) (by omega), step (4 + 12 * (kk - r) + 1) (by omega) (by omega), step (4 + 12 * (kk - r) + 1 + 1) (by omega) (by omega), step (4 + 12 * (kk - r) + 1 + 1 + 1) (by omega) (by omega), step (4 + 12 * (kk - r) + 1 + 1 + 1 + 1) (by omega) (by omega), step (4 + 12 * (kk - r) + 1 + 1 + 1 + 1 + 1) (by omega) (by omega), step (4 + 12 * (kk - r) + 1 + 1 + 1 + 1 + 1 + 1) (by omega) (by omega), step (4 + 12 * (kk - r) + 1 + 1 + 1 + 1 + 1 + 1 + 1) (by omega) (by omega), step (4 + 12 * (kk - r) + 1 + 1 + 1 + 1 + 1 + 1 + 1 + 1) (by omega) (by omega), step (4 + 12 * (kk - r) + 1 + 1 + 1 + 1 + 1 + 1 + 1 + 1 + 1) (by omega) (by omega), step (4 + 12 * (kk - r) + 1 + 1 + 1 + 1 + 1 + 1 + 1 + 1 + 1 + 1) (by omega) (by omega), step (4 + 12 * (kk - r) + 1 + 1 + 1 + 1 + 1 + 1 + 1 + 1 + 1 + 1 + 1) (by omega) (by omega)]
        omega
      · show (evs (thL thA) σ' 10).toNat < (σ' 10).toNat
        rw [hd, h10]
        omega
theorem hErr_ok {W0 : World} {cf : Cf} {V : Kp} {y : Code} : LhOk Tryz.prog W0 cf V hErr y := fun b F _ _ _ _ _ _ _ _ _ _ _ _ _ _ _ => trivial
theorem at_L {a0 a1 : Int} (h0 : 1 ≤ opVal .and .i64 a0 63) (w : World) (hgl : GlOk gl w) : Calls Tryz.prog 5 #[.int .i64 a0, .int .i64 a1] w fun e w' => e = .returned (.bool true) ∧ Below w.heap.size w w' := by
  haveI : GlOk gl w := hgl
  haveI : GlOk cfL.gl w := hgl
  have g0 := rng0 a0
  have g1 := rng1 a1
  refine soundL comp.mixed comp.TOk (over := ovR m0 [] cmL ivR) (cf := cfL) (fuel := 1000000) (d := 200) (f := 5) (avs := [.int .i64 (.var 0), .int .i64 (.var 1)]) (σ := fun i => if i = 0 then a0 else if i = 1 then a1 else 0) (xs := [.int .i64 a0, .int .i64 a1]) (fun _ h => ov0_ok rfl rfl (overM_ok (m0ok w) (overJ_ok (fun e lo hi => subJ_ok w [] cmL ivR e lo hi) h)))
    ⟨fun _ _ hm => (by cases hm), fun op u v r hm => ?_, iv2 ⟨h0, g0.2⟩ g1, fun _ _ _ _ hm => (by cases hm)⟩ (.cons (.int .i64 (.var 0)) (.cons (.int .i64 (.var 1)) .nil))
    (lh := lhL) (x := c5) (Q := fun y => y = lp.2) (hUnr_keys (hFact_keys keysX (fun F h _ _ _ _ _ _ _ _ _ _ e => by cases e)) 16)
    (fun y hy => by subst hy; exact hUnr_ok (hFact_ok (fun b => lfOk w b) hErr_ok) 16) qF (fun fn c hf hc => loopsP_of _ _ (fun p hp => ?_)) qL
  · have hm : (op, u, v, r) ∈ [(BinOp.eql, eS1, eS2, true)] := hm
    simp only [List.mem_cons, List.not_mem_nil, or_false, Prod.mk.injEq] at hm
    obtain ⟨rfl, rfl, rfl, rfl⟩ := hm
    show decide (IntKind.wrap .i64 (IntKind.wrap .i64 (IntKind.wrap .i64 (IntKind.wrap .i64 (IntKind.wrap .i64 (IntKind.wrap .i64 (4 + IntKind.wrap .i64 (12 * opVal .and .i64 a0 63)) + 1) + 1) + 1) + 1) + 1) = IntKind.wrap .i64 (IntKind.wrap .i64 (IntKind.wrap .i64 (4 + IntKind.wrap .i64 (12 * opVal .and .i64 a0 63)) + 2) + 3)) = true
    generalize opVal .and .i64 a0 63 = kk at *
    rw [w64 (12 * kk) (by omega) (by omega), w64 (4 + 12 * kk) (by omega) (by omega), w64 (4 + 12 * kk + 1) (by omega) (by omega), w64 (4 + 12 * kk + 1 + 1) (by omega) (by omega), w64 (4 + 12 * kk + 1 + 1 + 1) (by omega) (by omega), w64 (4 + 12 * kk + 1 + 1 + 1 + 1) (by omega) (by omega), w64 (4 + 12 * kk + 1 + 1 + 1 + 1 + 1) (by omega) (by omega), w64 (4 + 12 * kk + 2) (by omega) (by omega), w64 (4 + 12 * kk + 2 + 3) (by omega) (by omega)]
    exact decide_eq_true (by omega)
  · have hc' : c = bodyOf 5 := by unfold bodyOf; rw [hf]; show c = fn.body.getD .skip; rw [hc]; rfl
    subst hc'
    have hn := Nat.eq_of_beq_eq_true qN
    unfold lp
    revert hp hn
    generalize loopsOf c5.code (bodyOf 5) = l
    intro hp hn
    match l, hn with
    | [q], _ => rw [List.mem_singleton.1 hp]; rfl
end Go.Proofs.YtocficcmdlfafaaGreatDoor.modelSums
