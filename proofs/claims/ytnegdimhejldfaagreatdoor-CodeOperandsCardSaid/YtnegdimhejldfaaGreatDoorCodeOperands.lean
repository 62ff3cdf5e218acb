/- gneiss/gneisslaw16.CodeOperands answers true at every input, and leaves its arguments as they were. No conditions. -/
import Derived.Test.YtnegdimhejldfaaGreatDoorRows
import Derived.WalkKit
import Derived.ProofKit
import Derived.OpenShut
import Derived.Below
import Derived.ChangeSame
import Derived.Test.YtnegdimhejldfaaGreatDoorCodeOperandsR0
import Derived.Test.YtnegdimhejldfaaGreatDoorCodeOperandsR1
import Derived.Test.YtnegdimhejldfaaGreatDoorCodeOperandsR2
import Derived.Test.YtnegdimhejldfaaGreatDoorCodeOperandsR3
import Derived.Test.YtnegdimhejldfaaGreatDoorCodeOperandsR4
import Derived.Test.YtnegdimhejldfaaGreatDoorCodeOperandsR5
import Derived.Test.YtnegdimhejldfaaGreatDoorCodeOperandsR6
import Derived.Test.YtnegdimhejldfaaGreatDoorCodeOperandsR7
import Derived.Test.YtnegdimhejldfaaGreatDoorLaid
import Derived.Test.YtnegdimhejldfaaGreatDoorTie
import Derived.Test.YtnegdimhejldfaaGreatDoorCodeOperandsJ
import Derived.Test.YtnegdimhejldfaaGreatDoorCards
import Derived.SevenTiedAt
namespace Go.Proofs.YtnegdimhejldfaaGreatDoor.codeOperands
open Go.Ai Go.ChangeShapes Go.WideShapes Go.ChangeAt Go.RowKit
set_option linter.unusedVariables false

theorem own : ownKnob Tryz.prog.godebug = none := by kernel_rfl

section
variable {H : Type} {enc : TypeId × Value → H} {P : Program}
theorem post_of_below {f : Func} {s : ChangeSpec} {apart fresh handsOn again : Bool} {W W' : World} {args : Array Value} {v : Value} {ds gs : List (DataW H)} {before pa pv : List MemPlace}
    (hW : DataW.Whole enc P f.params.toList s.vars apart W args.toList ds gs before)
    (hres : ∀ (b : Nat) (sp : Nat → Bool) (hd : Bool), DataW.TrodAll enc P W' b sp hd f.resultTypes.toList (v.resultList f.resultTypes.size) (s.fn H (ds ++ gs)).results [])
    (hargs : ∀ sp : Nat → Bool, (∀ p ∈ before, sp p.block = true) → DataW.TrodAll enc P W' 0 sp true f.params.toList args.toList (s.fn H (ds ++ gs)).args pa)
    (hvars : ∀ sp : Nat → Bool, (∀ p ∈ before, sp p.block = true) → DataW.TrodVars enc P W' sp s.vars (s.fn H (ds ++ gs)).vars pv)
    (hps : before = pa ++ pv) (hb : Below W.heap.size W W')
    (hok : ∀ (j : Nat) (t : TypeId) (r : Value), f.resultTypes[j]? = some t → (v.resultList f.resultTypes.size)[j]? = some r → Value.okWide P W' .any 0 t r) :
    s.post enc P f apart fresh handsOn again W args v W' := by
  have hlt : ∀ p ∈ before, p.block < W.heap.size := fun p hp => hW.lt p hp
  have hold : ∀ p ∈ before, (fun b => decide (b < W.heap.size)) p.block = true := fun p hp => by simpa using hlt p hp
  refine ⟨ds, gs, before, [], pa, pv, hW, hres _ _ _, hargs _ hold, hvars _ hold, World.keptBut_mono (fun p hp => ⟨hp, ?_⟩) (hb.frame (· ∈ before)), fun _ => ?_⟩
  · rw [hps, List.mem_append] at hp
    exact Or.inr hp
  · obtain ⟨_, _, _, _, _, hz, hn⟩ := hW
    refine ⟨hok, _, _, ([] ++ pa) ++ pv, ⟨[] ++ pa, pv, trodAll_append (hargs _ (fun _ _ => rfl)) (hres _ _ _), hvars _ (fun _ _ => rfl), rfl, ?_, ?_⟩, ?_⟩
    · intro b off hp
      have hin : MemPlace.cell b off ∈ before := by rw [hps]; simpa using hp
      rw [hb.frozen (hlt _ hin)]
      exact hz b off hin
    · intro ha
      have := hn ha
      rw [hps] at this
      simpa using this
    · intro p hp _
      rw [hps]
      simpa using hp
end
/-! ### the walk: by the abstract machine -/
theorem rng0 (a : Int) : 0 ≤ opVal .rem .u64 (IntKind.wrap .u64 a) 47 ∧ opVal .rem .u64 (IntKind.wrap .u64 a) 47 ≤ 46 := by
  have hw : 0 ≤ IntKind.wrap .u64 a := by
    rw [IntKind.wrap_u64]
    omega
  have h1 : (IntKind.wrap .u64 a).tmod 47 < 47 := Int.tmod_lt_of_pos _ (by omega)
  have h2 : 0 ≤ (IntKind.wrap .u64 a).tmod 47 := Int.tmod_nonneg _ hw
  show 0 ≤ (IntKind.wrap .u64 a).tmod 47 ∧ (IntKind.wrap .u64 a).tmod 47 ≤ 46
  omega
theorem rng1 (a : Int) : 0 ≤ opVal .and .i64 a 7 ∧ opVal .and .i64 a 7 ≤ 7 := by
  have h : (BitVec.ofInt 64 a &&& BitVec.ofInt 64 7).toNat ≤ 7 := by
    rw [BitVec.toNat_and]
    exact Nat.and_le_right
  show 0 ≤ IntKind.wrap .i64 ((BitVec.ofInt 64 a &&& BitVec.ofInt 64 7).toNat : Int) ∧ IntKind.wrap .i64 ((BitVec.ofInt 64 a &&& BitVec.ofInt 64 7).toNat : Int) ≤ 7
  rw [IntKind.wrap_i64]
  omega
theorem rng2 (a : Int) : 0 ≤ opVal .and .i64 a 7 ∧ opVal .and .i64 a 7 ≤ 7 := by
  have h : (BitVec.ofInt 64 a &&& BitVec.ofInt 64 7).toNat ≤ 7 := by
    rw [BitVec.toNat_and]
    exact Nat.and_le_right
  show 0 ≤ IntKind.wrap .i64 ((BitVec.ofInt 64 a &&& BitVec.ofInt 64 7).toNat : Int) ∧ IntKind.wrap .i64 ((BitVec.ofInt 64 a &&& BitVec.ofInt 64 7).toNat : Int) ≤ 7
  rw [IntKind.wrap_i64]
  omega
theorem at_ {a0 : Int} {a1 : Int} {a2 : Int}  {rw : List (SI × SI)} {iv : List (SI × Int × Int)} (hr : ∀ x y, (x, y) ∈ rw → x.ev (fun i => if i = 0 then a0 else if i = 1 then a1 else if i = 2 then a2 else 0) = y.ev (fun i => if i = 0 then a0 else if i = 1 then a1 else if i = 2 then a2 else 0)) (hi : ∀ x lo hi, (x, lo, hi) ∈ iv → lo ≤ x.ev (fun i => if i = 0 then a0 else if i = 1 then a1 else if i = 2 then a2 else 0) ∧ x.ev (fun i => if i = 0 then a0 else if i = 1 then a1 else if i = 2 then a2 else 0) ≤ hi) (r : yes (run rw iv) = true) (w : World) (hgl : GlOk gl w) : Calls Tryz.prog 5 #[.int .i64 a0, .int .i64 a1, .int .i64 a2] w fun e w' => e = .returned (.bool true) ∧ Below w.heap.size w w' :=
  haveI : GlOk (⟨rw, [], iv, fun _ _ _ => none, gl⟩ : Cf).gl w := hgl
  soundC comp.mixed comp.TOk (over := (overC 19)) (cf := ⟨rw, [], iv, fun _ _ _ => none, gl⟩) (σ := fun i => if i = 0 then a0 else if i = 1 then a1 else if i = 2 then a2 else 0) (xs := [.int .i64 a0, .int .i64 a1, .int .i64 a2]) (fun _ h => overC_ok awakes h)
    ⟨hr, fun _ _ _ _ hm => (by cases hm), hi, fun _ _ _ _ hm => (by cases hm)⟩
    (.cons (.int .i64 (.var 0)) (.cons (.int .i64 (.var 1)) (.cons (.int .i64 (.var 2)) .nil))) r
theorem iv0 {σ : Nat → Int} : ∀ u lo hi, (u, lo, hi) ∈ ([] : List (SI × Int × Int)) → lo ≤ u.ev σ ∧ u.ev σ ≤ hi := fun _ _ _ hm => by cases hm
theorem rw1 {σ : Nat → Int} {x0 y0 : SI} (h0 : x0.ev σ = y0.ev σ) : ∀ u v, (u, v) ∈ [(x0, y0)] → u.ev σ = v.ev σ := by
  intro u v hm
  simp only [List.mem_cons, List.not_mem_nil, or_false, Prod.mk.injEq] at hm
  rcases hm with ⟨rfl, rfl⟩
  · exact h0
theorem rw2 {σ : Nat → Int} {x0 y0 x1 y1 : SI} (h0 : x0.ev σ = y0.ev σ) (h1 : x1.ev σ = y1.ev σ) : ∀ u v, (u, v) ∈ [(x0, y0), (x1, y1)] → u.ev σ = v.ev σ := by
  intro u v hm
  simp only [List.mem_cons, List.not_mem_nil, or_false, Prod.mk.injEq] at hm
  rcases hm with ⟨rfl, rfl⟩ | ⟨rfl, rfl⟩
  · exact h0
  · exact h1
theorem rw3 {σ : Nat → Int} {x0 y0 x1 y1 x2 y2 : SI} (h0 : x0.ev σ = y0.ev σ) (h1 : x1.ev σ = y1.ev σ) (h2 : x2.ev σ = y2.ev σ) : ∀ u v, (u, v) ∈ [(x0, y0), (x1, y1), (x2, y2)] → u.ev σ = v.ev σ := by
  intro u v hm
  simp only [List.mem_cons, List.not_mem_nil, or_false, Prod.mk.injEq] at hm
  rcases hm with ⟨rfl, rfl⟩ | ⟨rfl, rfl⟩ | ⟨rfl, rfl⟩
  · exact h0
  · exact h1
  · exact h2
theorem atr {a0 : Int} {a1 : Int} {a2 : Int}  {rw : List (SI × SI)} {iv : List (SI × Int × Int)} (r : yes (run rw iv) = true) (hr : ∀ x y, (x, y) ∈ rw → x.ev (fun i => if i = 0 then a0 else if i = 1 then a1 else if i = 2 then a2 else 0) = y.ev (fun i => if i = 0 then a0 else if i = 1 then a1 else if i = 2 then a2 else 0)) (hi : ∀ x lo hi, (x, lo, hi) ∈ iv → lo ≤ x.ev (fun i => if i = 0 then a0 else if i = 1 then a1 else if i = 2 then a2 else 0) ∧ x.ev (fun i => if i = 0 then a0 else if i = 1 then a1 else if i = 2 then a2 else 0) ≤ hi) (w : World) (hgl : GlOk gl w) : Calls Tryz.prog 5 #[.int .i64 a0, .int .i64 a1, .int .i64 a2] w fun e w' => e = .returned (.bool true) ∧ Below w.heap.size w w' :=
  at_ hr hi r w hgl
theorem walk (a0 : Int) (a1 : Int) (a2 : Int) (w0 : (Lit.int .i64 a0).wf = true) (w1 : (Lit.int .i64 a1).wf = true) (w2 : (Lit.int .i64 a2).wf = true) (w : World) (hgl : GlOk gl w) :
    Calls Tryz.prog 5 #[.int .i64 a0, .int .i64 a1, .int .i64 a2] w fun e w' => e = .returned (.bool true) ∧ Below w.heap.size w w' := by
  have g0 := rng0 a0
  by_cases q1 : opVal .rem .u64 (IntKind.wrap .u64 a0) 47 < 23
  ·
    by_cases q2 : opVal .rem .u64 (IntKind.wrap .u64 a0) 47 < 11
    ·
      by_cases q3 : opVal .rem .u64 (IntKind.wrap .u64 a0) 47 < 5
      ·
        by_cases q4 : opVal .rem .u64 (IntKind.wrap .u64 a0) 47 < 2
        ·
          by_cases q5 : opVal .rem .u64 (IntKind.wrap .u64 a0) 47 < 1
          ·
            have e0 : opVal .rem .u64 (IntKind.wrap .u64 a0) 47 = 0 := by omega
            exact atr r0_x_x (rw1 e0) iv0 w hgl
          ·
            have e0 : opVal .rem .u64 (IntKind.wrap .u64 a0) 47 = 1 := by omega
            have g1 := rng1 a1
            by_cases q6 : opVal .and .i64 a1 7 < 4
            ·
              by_cases q7 : opVal .and .i64 a1 7 < 2
              ·
                by_cases q8 : opVal .and .i64 a1 7 < 1
                ·
                  have e1 : opVal .and .i64 a1 7 = 0 := by omega
                  exact atr r1_0_x (rw2 e0 e1) iv0 w hgl
                ·
                  have e1 : opVal .and .i64 a1 7 = 1 := by omega
                  exact atr r1_1_x (rw2 e0 e1) iv0 w hgl
              ·
                by_cases q8 : opVal .and .i64 a1 7 < 3
                ·
                  have e1 : opVal .and .i64 a1 7 = 2 := by omega
                  exact atr r1_2_x (rw2 e0 e1) iv0 w hgl
                ·
                  have e1 : opVal .and .i64 a1 7 = 3 := by omega
                  exact atr r1_3_x (rw2 e0 e1) iv0 w hgl
            ·
              by_cases q7 : opVal .and .i64 a1 7 < 6
              ·
                by_cases q8 : opVal .and .i64 a1 7 < 5
                ·
                  have e1 : opVal .and .i64 a1 7 = 4 := by omega
                  exact atr r1_4_x (rw2 e0 e1) iv0 w hgl
                ·
                  have e1 : opVal .and .i64 a1 7 = 5 := by omega
                  exact atr r1_5_x (rw2 e0 e1) iv0 w hgl
              ·
                by_cases q8 : opVal .and .i64 a1 7 < 7
                ·
                  have e1 : opVal .and .i64 a1 7 = 6 := by omega
                  exact atr r1_6_x (rw2 e0 e1) iv0 w hgl
                ·
                  have e1 : opVal .and .i64 a1 7 = 7 := by omega
                  exact atr r1_7_x (rw2 e0 e1) iv0 w hgl
        ·
          by_cases q5 : opVal .rem .u64 (IntKind.wrap .u64 a0) 47 < 3
          ·
            have e0 : opVal .rem .u64 (IntKind.wrap .u64 a0) 47 = 2 := by omega
            exact atr r2_x_x (rw1 e0) iv0 w hgl
          ·
            by_cases q6 : opVal .rem .u64 (IntKind.wrap .u64 a0) 47 < 4
            ·
              have e0 : opVal .rem .u64 (IntKind.wrap .u64 a0) 47 = 3 := by omega
              have g1 := rng1 a1
              by_cases q7 : opVal .and .i64 a1 7 < 4
              ·
                by_cases q8 : opVal .and .i64 a1 7 < 2
                ·
                  by_cases q9 : opVal .and .i64 a1 7 < 1
                  ·
                    have e1 : opVal .and .i64 a1 7 = 0 := by omega
                    exact atr r3_0_x (rw2 e0 e1) iv0 w hgl
                  ·
                    have e1 : opVal .and .i64 a1 7 = 1 := by omega
                    exact atr r3_1_x (rw2 e0 e1) iv0 w hgl
                ·
                  by_cases q9 : opVal .and .i64 a1 7 < 3
                  ·
                    have e1 : opVal .and .i64 a1 7 = 2 := by omega
                    exact atr r3_2_x (rw2 e0 e1) iv0 w hgl
                  ·
                    have e1 : opVal .and .i64 a1 7 = 3 := by omega
                    exact atr r3_3_x (rw2 e0 e1) iv0 w hgl
              ·
                by_cases q8 : opVal .and .i64 a1 7 < 6
                ·
                  by_cases q9 : opVal .and .i64 a1 7 < 5
                  ·
                    have e1 : opVal .and .i64 a1 7 = 4 := by omega
                    exact atr r3_4_x (rw2 e0 e1) iv0 w hgl
                  ·
                    have e1 : opVal .and .i64 a1 7 = 5 := by omega
                    exact atr r3_5_x (rw2 e0 e1) iv0 w hgl
                ·
                  by_cases q9 : opVal .and .i64 a1 7 < 7
                  ·
                    have e1 : opVal .and .i64 a1 7 = 6 := by omega
                    exact atr r3_6_x (rw2 e0 e1) iv0 w hgl
                  ·
                    have e1 : opVal .and .i64 a1 7 = 7 := by omega
                    exact atr r3_7_x (rw2 e0 e1) iv0 w hgl
            ·
              have e0 : opVal .rem .u64 (IntKind.wrap .u64 a0) 47 = 4 := by omega
              have g1 := rng1 a1
              by_cases q7 : opVal .and .i64 a1 7 < 4
              ·
                by_cases q8 : opVal .and .i64 a1 7 < 2
                ·
                  by_cases q9 : opVal .and .i64 a1 7 < 1
                  ·
                    have e1 : opVal .and .i64 a1 7 = 0 := by omega
                    exact atr r4_0_x (rw2 e0 e1) iv0 w hgl
                  ·
                    have e1 : opVal .and .i64 a1 7 = 1 := by omega
                    exact atr r4_1_x (rw2 e0 e1) iv0 w hgl
                ·
                  by_cases q9 : opVal .and .i64 a1 7 < 3
                  ·
                    have e1 : opVal .and .i64 a1 7 = 2 := by omega
                    exact atr r4_2_x (rw2 e0 e1) iv0 w hgl
                  ·
                    have e1 : opVal .and .i64 a1 7 = 3 := by omega
                    exact atr r4_3_x (rw2 e0 e1) iv0 w hgl
              ·
                by_cases q8 : opVal .and .i64 a1 7 < 6
                ·
                  by_cases q9 : opVal .and .i64 a1 7 < 5
                  ·
                    have e1 : opVal .and .i64 a1 7 = 4 := by omega
                    exact atr r4_4_x (rw2 e0 e1) iv0 w hgl
                  ·
                    have e1 : opVal .and .i64 a1 7 = 5 := by omega
                    exact atr r4_5_x (rw2 e0 e1) iv0 w hgl
                ·
                  by_cases q9 : opVal .and .i64 a1 7 < 7
                  ·
                    have e1 : opVal .and .i64 a1 7 = 6 := by omega
                    exact atr r4_6_x (rw2 e0 e1) iv0 w hgl
                  ·
                    have e1 : opVal .and .i64 a1 7 = 7 := by omega
                    exact atr r4_7_x (rw2 e0 e1) iv0 w hgl
      ·
        by_cases q4 : opVal .rem .u64 (IntKind.wrap .u64 a0) 47 < 8
        ·
          by_cases q5 : opVal .rem .u64 (IntKind.wrap .u64 a0) 47 < 6
          ·
            have e0 : opVal .rem .u64 (IntKind.wrap .u64 a0) 47 = 5 := by omega
            exact atr r5_x_x (rw1 e0) iv0 w hgl
          ·
            by_cases q6 : opVal .rem .u64 (IntKind.wrap .u64 a0) 47 < 7
            ·
              have e0 : opVal .rem .u64 (IntKind.wrap .u64 a0) 47 = 6 := by omega
              exact atr r6_x_x (rw1 e0) iv0 w hgl
            ·
              have e0 : opVal .rem .u64 (IntKind.wrap .u64 a0) 47 = 7 := by omega
              exact atr r7_x_x (rw1 e0) iv0 w hgl
        ·
          by_cases q5 : opVal .rem .u64 (IntKind.wrap .u64 a0) 47 < 9
          ·
            have e0 : opVal .rem .u64 (IntKind.wrap .u64 a0) 47 = 8 := by omega
            have g1 := rng1 a1
            by_cases q6 : opVal .and .i64 a1 7 < 4
            ·
              by_cases q7 : opVal .and .i64 a1 7 < 2
              ·
                by_cases q8 : opVal .and .i64 a1 7 < 1
                ·
                  have e1 : opVal .and .i64 a1 7 = 0 := by omega
                  exact atr r8_0_x (rw2 e0 e1) iv0 w hgl
                ·
                  have e1 : opVal .and .i64 a1 7 = 1 := by omega
                  exact atr r8_1_x (rw2 e0 e1) iv0 w hgl
              ·
                by_cases q8 : opVal .and .i64 a1 7 < 3
                ·
                  have e1 : opVal .and .i64 a1 7 = 2 := by omega
                  exact atr r8_2_x (rw2 e0 e1) iv0 w hgl
                ·
                  have e1 : opVal .and .i64 a1 7 = 3 := by omega
                  exact atr r8_3_x (rw2 e0 e1) iv0 w hgl
            ·
              by_cases q7 : opVal .and .i64 a1 7 < 6
              ·
                by_cases q8 : opVal .and .i64 a1 7 < 5
                ·
                  have e1 : opVal .and .i64 a1 7 = 4 := by omega
                  exact atr r8_4_x (rw2 e0 e1) iv0 w hgl
                ·
                  have e1 : opVal .and .i64 a1 7 = 5 := by omega
                  exact atr r8_5_x (rw2 e0 e1) iv0 w hgl
              ·
                by_cases q8 : opVal .and .i64 a1 7 < 7
                ·
                  have e1 : opVal .and .i64 a1 7 = 6 := by omega
                  exact atr r8_6_x (rw2 e0 e1) iv0 w hgl
                ·
                  have e1 : opVal .and .i64 a1 7 = 7 := by omega
                  exact atr r8_7_x (rw2 e0 e1) iv0 w hgl
          ·
            by_cases q6 : opVal .rem .u64 (IntKind.wrap .u64 a0) 47 < 10
            ·
              have e0 : opVal .rem .u64 (IntKind.wrap .u64 a0) 47 = 9 := by omega
              have g1 := rng1 a1
              by_cases q7 : opVal .and .i64 a1 7 < 4
              ·
                by_cases q8 : opVal .and .i64 a1 7 < 2
                ·
                  by_cases q9 : opVal .and .i64 a1 7 < 1
                  ·
                    have e1 : opVal .and .i64 a1 7 = 0 := by omega
                    exact atr r9_0_x (rw2 e0 e1) iv0 w hgl
                  ·
                    have e1 : opVal .and .i64 a1 7 = 1 := by omega
                    exact atr r9_1_x (rw2 e0 e1) iv0 w hgl
                ·
                  by_cases q9 : opVal .and .i64 a1 7 < 3
                  ·
                    have e1 : opVal .and .i64 a1 7 = 2 := by omega
                    exact atr r9_2_x (rw2 e0 e1) iv0 w hgl
                  ·
                    have e1 : opVal .and .i64 a1 7 = 3 := by omega
                    exact atr r9_3_x (rw2 e0 e1) iv0 w hgl
              ·
                by_cases q8 : opVal .and .i64 a1 7 < 6
                ·
                  by_cases q9 : opVal .and .i64 a1 7 < 5
                  ·
                    have e1 : opVal .and .i64 a1 7 = 4 := by omega
                    exact atr r9_4_x (rw2 e0 e1) iv0 w hgl
                  ·
                    have e1 : opVal .and .i64 a1 7 = 5 := by omega
                    exact atr r9_5_x (rw2 e0 e1) iv0 w hgl
                ·
                  by_cases q9 : opVal .and .i64 a1 7 < 7
                  ·
                    have e1 : opVal .and .i64 a1 7 = 6 := by omega
                    exact atr r9_6_x (rw2 e0 e1) iv0 w hgl
                  ·
                    have e1 : opVal .and .i64 a1 7 = 7 := by omega
                    exact atr r9_7_x (rw2 e0 e1) iv0 w hgl
            ·
              have e0 : opVal .rem .u64 (IntKind.wrap .u64 a0) 47 = 10 := by omega
              have g1 := rng1 a1
              by_cases q7 : opVal .and .i64 a1 7 < 4
              ·
                by_cases q8 : opVal .and .i64 a1 7 < 2
                ·
                  by_cases q9 : opVal .and .i64 a1 7 < 1
                  ·
                    have e1 : opVal .and .i64 a1 7 = 0 := by omega
                    exact atr r10_0_x (rw2 e0 e1) iv0 w hgl
                  ·
                    have e1 : opVal .and .i64 a1 7 = 1 := by omega
                    exact atr r10_1_x (rw2 e0 e1) iv0 w hgl
                ·
                  by_cases q9 : opVal .and .i64 a1 7 < 3
                  ·
                    have e1 : opVal .and .i64 a1 7 = 2 := by omega
                    exact atr r10_2_x (rw2 e0 e1) iv0 w hgl
                  ·
                    have e1 : opVal .and .i64 a1 7 = 3 := by omega
                    exact atr r10_3_x (rw2 e0 e1) iv0 w hgl
              ·
                by_cases q8 : opVal .and .i64 a1 7 < 6
                ·
                  by_cases q9 : opVal .and .i64 a1 7 < 5
                  ·
                    have e1 : opVal .and .i64 a1 7 = 4 := by omega
                    exact atr r10_4_x (rw2 e0 e1) iv0 w hgl
                  ·
                    have e1 : opVal .and .i64 a1 7 = 5 := by omega
                    exact atr r10_5_x (rw2 e0 e1) iv0 w hgl
                ·
                  by_cases q9 : opVal .and .i64 a1 7 < 7
                  ·
                    have e1 : opVal .and .i64 a1 7 = 6 := by omega
                    exact atr r10_6_x (rw2 e0 e1) iv0 w hgl
                  ·
                    have e1 : opVal .and .i64 a1 7 = 7 := by omega
                    exact atr r10_7_x (rw2 e0 e1) iv0 w hgl
    ·
      by_cases q3 : opVal .rem .u64 (IntKind.wrap .u64 a0) 47 < 17
      ·
        by_cases q4 : opVal .rem .u64 (IntKind.wrap .u64 a0) 47 < 14
        ·
          by_cases q5 : opVal .rem .u64 (IntKind.wrap .u64 a0) 47 < 12
          ·
            have e0 : opVal .rem .u64 (IntKind.wrap .u64 a0) 47 = 11 := by omega
            have g1 := rng1 a1
            by_cases q6 : opVal .and .i64 a1 7 < 4
            ·
              by_cases q7 : opVal .and .i64 a1 7 < 2
              ·
                by_cases q8 : opVal .and .i64 a1 7 < 1
                ·
                  have e1 : opVal .and .i64 a1 7 = 0 := by omega
                  exact atr r11_0_x (rw2 e0 e1) iv0 w hgl
                ·
                  have e1 : opVal .and .i64 a1 7 = 1 := by omega
                  exact atr r11_1_x (rw2 e0 e1) iv0 w hgl
              ·
                by_cases q8 : opVal .and .i64 a1 7 < 3
                ·
                  have e1 : opVal .and .i64 a1 7 = 2 := by omega
                  exact atr r11_2_x (rw2 e0 e1) iv0 w hgl
                ·
                  have e1 : opVal .and .i64 a1 7 = 3 := by omega
                  exact atr r11_3_x (rw2 e0 e1) iv0 w hgl
            ·
              by_cases q7 : opVal .and .i64 a1 7 < 6
              ·
                by_cases q8 : opVal .and .i64 a1 7 < 5
                ·
                  have e1 : opVal .and .i64 a1 7 = 4 := by omega
                  exact atr r11_4_x (rw2 e0 e1) iv0 w hgl
                ·
                  have e1 : opVal .and .i64 a1 7 = 5 := by omega
                  exact atr r11_5_x (rw2 e0 e1) iv0 w hgl
              ·
                by_cases q8 : opVal .and .i64 a1 7 < 7
                ·
                  have e1 : opVal .and .i64 a1 7 = 6 := by omega
                  exact atr r11_6_x (rw2 e0 e1) iv0 w hgl
                ·
                  have e1 : opVal .and .i64 a1 7 = 7 := by omega
                  exact atr r11_7_x (rw2 e0 e1) iv0 w hgl
          ·
            by_cases q6 : opVal .rem .u64 (IntKind.wrap .u64 a0) 47 < 13
            ·
              have e0 : opVal .rem .u64 (IntKind.wrap .u64 a0) 47 = 12 := by omega
              have g1 := rng1 a1
              by_cases q7 : opVal .and .i64 a1 7 < 4
              ·
                by_cases q8 : opVal .and .i64 a1 7 < 2
                ·
                  by_cases q9 : opVal .and .i64 a1 7 < 1
                  ·
                    have e1 : opVal .and .i64 a1 7 = 0 := by omega
                    exact atr r12_0_x (rw2 e0 e1) iv0 w hgl
                  ·
                    have e1 : opVal .and .i64 a1 7 = 1 := by omega
                    exact atr r12_1_x (rw2 e0 e1) iv0 w hgl
                ·
                  by_cases q9 : opVal .and .i64 a1 7 < 3
                  ·
                    have e1 : opVal .and .i64 a1 7 = 2 := by omega
                    exact atr r12_2_x (rw2 e0 e1) iv0 w hgl
                  ·
                    have e1 : opVal .and .i64 a1 7 = 3 := by omega
                    exact atr r12_3_x (rw2 e0 e1) iv0 w hgl
              ·
                by_cases q8 : opVal .and .i64 a1 7 < 6
                ·
                  by_cases q9 : opVal .and .i64 a1 7 < 5
                  ·
                    have e1 : opVal .and .i64 a1 7 = 4 := by omega
                    exact atr r12_4_x (rw2 e0 e1) iv0 w hgl
                  ·
                    have e1 : opVal .and .i64 a1 7 = 5 := by omega
                    exact atr r12_5_x (rw2 e0 e1) iv0 w hgl
                ·
                  by_cases q9 : opVal .and .i64 a1 7 < 7
                  ·
                    have e1 : opVal .and .i64 a1 7 = 6 := by omega
                    exact atr r12_6_x (rw2 e0 e1) iv0 w hgl
                  ·
                    have e1 : opVal .and .i64 a1 7 = 7 := by omega
                    exact atr r12_7_x (rw2 e0 e1) iv0 w hgl
            ·
              have e0 : opVal .rem .u64 (IntKind.wrap .u64 a0) 47 = 13 := by omega
              have g1 := rng1 a1
              by_cases q7 : opVal .and .i64 a1 7 < 4
              ·
                by_cases q8 : opVal .and .i64 a1 7 < 2
                ·
                  by_cases q9 : opVal .and .i64 a1 7 < 1
                  ·
                    have e1 : opVal .and .i64 a1 7 = 0 := by omega
                    exact atr r13_0_x (rw2 e0 e1) iv0 w hgl
                  ·
                    have e1 : opVal .and .i64 a1 7 = 1 := by omega
                    exact atr r13_1_x (rw2 e0 e1) iv0 w hgl
                ·
                  by_cases q9 : opVal .and .i64 a1 7 < 3
                  ·
                    have e1 : opVal .and .i64 a1 7 = 2 := by omega
                    exact atr r13_2_x (rw2 e0 e1) iv0 w hgl
                  ·
                    have e1 : opVal .and .i64 a1 7 = 3 := by omega
                    exact atr r13_3_x (rw2 e0 e1) iv0 w hgl
              ·
                by_cases q8 : opVal .and .i64 a1 7 < 6
                ·
                  by_cases q9 : opVal .and .i64 a1 7 < 5
                  ·
                    have e1 : opVal .and .i64 a1 7 = 4 := by omega
                    exact atr r13_4_x (rw2 e0 e1) iv0 w hgl
                  ·
                    have e1 : opVal .and .i64 a1 7 = 5 := by omega
                    exact atr r13_5_x (rw2 e0 e1) iv0 w hgl
                ·
                  by_cases q9 : opVal .and .i64 a1 7 < 7
                  ·
                    have e1 : opVal .and .i64 a1 7 = 6 := by omega
                    exact atr r13_6_x (rw2 e0 e1) iv0 w hgl
                  ·
                    have e1 : opVal .and .i64 a1 7 = 7 := by omega
                    exact atr r13_7_x (rw2 e0 e1) iv0 w hgl
        ·
          by_cases q5 : opVal .rem .u64 (IntKind.wrap .u64 a0) 47 < 15
          ·
            have e0 : opVal .rem .u64 (IntKind.wrap .u64 a0) 47 = 14 := by omega
            have g1 := rng1 a1
            by_cases q6 : opVal .and .i64 a1 7 < 4
            ·
              by_cases q7 : opVal .and .i64 a1 7 < 2
              ·
                by_cases q8 : opVal .and .i64 a1 7 < 1
                ·
                  have e1 : opVal .and .i64 a1 7 = 0 := by omega
                  exact atr r14_0_x (rw2 e0 e1) iv0 w hgl
                ·
                  have e1 : opVal .and .i64 a1 7 = 1 := by omega
                  exact atr r14_1_x (rw2 e0 e1) iv0 w hgl
              ·
                by_cases q8 : opVal .and .i64 a1 7 < 3
                ·
                  have e1 : opVal .and .i64 a1 7 = 2 := by omega
                  exact atr r14_2_x (rw2 e0 e1) iv0 w hgl
                ·
                  have e1 : opVal .and .i64 a1 7 = 3 := by omega
                  exact atr r14_3_x (rw2 e0 e1) iv0 w hgl
            ·
              by_cases q7 : opVal .and .i64 a1 7 < 6
              ·
                by_cases q8 : opVal .and .i64 a1 7 < 5
                ·
                  have e1 : opVal .and .i64 a1 7 = 4 := by omega
                  exact atr r14_4_x (rw2 e0 e1) iv0 w hgl
                ·
                  have e1 : opVal .and .i64 a1 7 = 5 := by omega
                  exact atr r14_5_x (rw2 e0 e1) iv0 w hgl
              ·
                by_cases q8 : opVal .and .i64 a1 7 < 7
                ·
                  have e1 : opVal .and .i64 a1 7 = 6 := by omega
                  exact atr r14_6_x (rw2 e0 e1) iv0 w hgl
                ·
                  have e1 : opVal .and .i64 a1 7 = 7 := by omega
                  exact atr r14_7_x (rw2 e0 e1) iv0 w hgl
          ·
            by_cases q6 : opVal .rem .u64 (IntKind.wrap .u64 a0) 47 < 16
            ·
              have e0 : opVal .rem .u64 (IntKind.wrap .u64 a0) 47 = 15 := by omega
              have g1 := rng1 a1
              by_cases q7 : opVal .and .i64 a1 7 < 4
              ·
                by_cases q8 : opVal .and .i64 a1 7 < 2
                ·
                  by_cases q9 : opVal .and .i64 a1 7 < 1
                  ·
                    have e1 : opVal .and .i64 a1 7 = 0 := by omega
                    have g2 := rng2 a2
                    by_cases q10 : opVal .and .i64 a2 7 < 4
                    ·
                      by_cases q11 : opVal .and .i64 a2 7 < 2
                      ·
                        by_cases q12 : opVal .and .i64 a2 7 < 1
                        ·
                          have e2 : opVal .and .i64 a2 7 = 0 := by omega
                          exact atr r15_0_0 (rw3 e0 e1 e2) iv0 w hgl
                        ·
                          have e2 : opVal .and .i64 a2 7 = 1 := by omega
                          exact atr r15_0_1 (rw3 e0 e1 e2) iv0 w hgl
                      ·
                        by_cases q12 : opVal .and .i64 a2 7 < 3
                        ·
                          have e2 : opVal .and .i64 a2 7 = 2 := by omega
                          exact atr r15_0_2 (rw3 e0 e1 e2) iv0 w hgl
                        ·
                          have e2 : opVal .and .i64 a2 7 = 3 := by omega
                          exact atr r15_0_3 (rw3 e0 e1 e2) iv0 w hgl
                    ·
                      by_cases q11 : opVal .and .i64 a2 7 < 6
                      ·
                        by_cases q12 : opVal .and .i64 a2 7 < 5
                        ·
                          have e2 : opVal .and .i64 a2 7 = 4 := by omega
                          exact atr r15_0_4 (rw3 e0 e1 e2) iv0 w hgl
                        ·
                          have e2 : opVal .and .i64 a2 7 = 5 := by omega
                          exact atr r15_0_5 (rw3 e0 e1 e2) iv0 w hgl
                      ·
                        by_cases q12 : opVal .and .i64 a2 7 < 7
                        ·
                          have e2 : opVal .and .i64 a2 7 = 6 := by omega
                          exact atr r15_0_6 (rw3 e0 e1 e2) iv0 w hgl
                        ·
                          have e2 : opVal .and .i64 a2 7 = 7 := by omega
                          exact atr r15_0_7 (rw3 e0 e1 e2) iv0 w hgl
                  ·
                    have e1 : opVal .and .i64 a1 7 = 1 := by omega
                    have g2 := rng2 a2
                    by_cases q10 : opVal .and .i64 a2 7 < 4
                    ·
                      by_cases q11 : opVal .and .i64 a2 7 < 2
                      ·
                        by_cases q12 : opVal .and .i64 a2 7 < 1
                        ·
                          have e2 : opVal .and .i64 a2 7 = 0 := by omega
                          exact atr r15_1_0 (rw3 e0 e1 e2) iv0 w hgl
                        ·
                          have e2 : opVal .and .i64 a2 7 = 1 := by omega
                          exact atr r15_1_1 (rw3 e0 e1 e2) iv0 w hgl
                      ·
                        by_cases q12 : opVal .and .i64 a2 7 < 3
                        ·
                          have e2 : opVal .and .i64 a2 7 = 2 := by omega
                          exact atr r15_1_2 (rw3 e0 e1 e2) iv0 w hgl
                        ·
                          have e2 : opVal .and .i64 a2 7 = 3 := by omega
                          exact atr r15_1_3 (rw3 e0 e1 e2) iv0 w hgl
                    ·
                      by_cases q11 : opVal .and .i64 a2 7 < 6
                      ·
                        by_cases q12 : opVal .and .i64 a2 7 < 5
                        ·
                          have e2 : opVal .and .i64 a2 7 = 4 := by omega
                          exact atr r15_1_4 (rw3 e0 e1 e2) iv0 w hgl
                        ·
                          have e2 : opVal .and .i64 a2 7 = 5 := by omega
                          exact atr r15_1_5 (rw3 e0 e1 e2) iv0 w hgl
                      ·
                        by_cases q12 : opVal .and .i64 a2 7 < 7
                        ·
                          have e2 : opVal .and .i64 a2 7 = 6 := by omega
                          exact atr r15_1_6 (rw3 e0 e1 e2) iv0 w hgl
                        ·
                          have e2 : opVal .and .i64 a2 7 = 7 := by omega
                          exact atr r15_1_7 (rw3 e0 e1 e2) iv0 w hgl
                ·
                  by_cases q9 : opVal .and .i64 a1 7 < 3
                  ·
                    have e1 : opVal .and .i64 a1 7 = 2 := by omega
                    have g2 := rng2 a2
                    by_cases q10 : opVal .and .i64 a2 7 < 4
                    ·
                      by_cases q11 : opVal .and .i64 a2 7 < 2
                      ·
                        by_cases q12 : opVal .and .i64 a2 7 < 1
                        ·
                          have e2 : opVal .and .i64 a2 7 = 0 := by omega
                          exact atr r15_2_0 (rw3 e0 e1 e2) iv0 w hgl
                        ·
                          have e2 : opVal .and .i64 a2 7 = 1 := by omega
                          exact atr r15_2_1 (rw3 e0 e1 e2) iv0 w hgl
                      ·
                        by_cases q12 : opVal .and .i64 a2 7 < 3
                        ·
                          have e2 : opVal .and .i64 a2 7 = 2 := by omega
                          exact atr r15_2_2 (rw3 e0 e1 e2) iv0 w hgl
                        ·
                          have e2 : opVal .and .i64 a2 7 = 3 := by omega
                          exact atr r15_2_3 (rw3 e0 e1 e2) iv0 w hgl
                    ·
                      by_cases q11 : opVal .and .i64 a2 7 < 6
                      ·
                        by_cases q12 : opVal .and .i64 a2 7 < 5
                        ·
                          have e2 : opVal .and .i64 a2 7 = 4 := by omega
                          exact atr r15_2_4 (rw3 e0 e1 e2) iv0 w hgl
                        ·
                          have e2 : opVal .and .i64 a2 7 = 5 := by omega
                          exact atr r15_2_5 (rw3 e0 e1 e2) iv0 w hgl
                      ·
                        by_cases q12 : opVal .and .i64 a2 7 < 7
                        ·
                          have e2 : opVal .and .i64 a2 7 = 6 := by omega
                          exact atr r15_2_6 (rw3 e0 e1 e2) iv0 w hgl
                        ·
                          have e2 : opVal .and .i64 a2 7 = 7 := by omega
                          exact atr r15_2_7 (rw3 e0 e1 e2) iv0 w hgl
                  ·
                    have e1 : opVal .and .i64 a1 7 = 3 := by omega
                    have g2 := rng2 a2
                    by_cases q10 : opVal .and .i64 a2 7 < 4
                    ·
                      by_cases q11 : opVal .and .i64 a2 7 < 2
                      ·
                        by_cases q12 : opVal .and .i64 a2 7 < 1
                        ·
                          have e2 : opVal .and .i64 a2 7 = 0 := by omega
                          exact atr r15_3_0 (rw3 e0 e1 e2) iv0 w hgl
                        ·
                          have e2 : opVal .and .i64 a2 7 = 1 := by omega
                          exact atr r15_3_1 (rw3 e0 e1 e2) iv0 w hgl
                      ·
                        by_cases q12 : opVal .and .i64 a2 7 < 3
                        ·
                          have e2 : opVal .and .i64 a2 7 = 2 := by omega
                          exact atr r15_3_2 (rw3 e0 e1 e2) iv0 w hgl
                        ·
                          have e2 : opVal .and .i64 a2 7 = 3 := by omega
                          exact atr r15_3_3 (rw3 e0 e1 e2) iv0 w hgl
                    ·
                      by_cases q11 : opVal .and .i64 a2 7 < 6
                      ·
                        by_cases q12 : opVal .and .i64 a2 7 < 5
                        ·
                          have e2 : opVal .and .i64 a2 7 = 4 := by omega
                          exact atr r15_3_4 (rw3 e0 e1 e2) iv0 w hgl
                        ·
                          have e2 : opVal .and .i64 a2 7 = 5 := by omega
                          exact atr r15_3_5 (rw3 e0 e1 e2) iv0 w hgl
                      ·
                        by_cases q12 : opVal .and .i64 a2 7 < 7
                        ·
                          have e2 : opVal .and .i64 a2 7 = 6 := by omega
                          exact atr r15_3_6 (rw3 e0 e1 e2) iv0 w hgl
                        ·
                          have e2 : opVal .and .i64 a2 7 = 7 := by omega
                          exact atr r15_3_7 (rw3 e0 e1 e2) iv0 w hgl
              ·
                by_cases q8 : opVal .and .i64 a1 7 < 6
                ·
                  by_cases q9 : opVal .and .i64 a1 7 < 5
                  ·
                    have e1 : opVal .and .i64 a1 7 = 4 := by omega
                    have g2 := rng2 a2
                    by_cases q10 : opVal .and .i64 a2 7 < 4
                    ·
                      by_cases q11 : opVal .and .i64 a2 7 < 2
                      ·
                        by_cases q12 : opVal .and .i64 a2 7 < 1
                        ·
                          have e2 : opVal .and .i64 a2 7 = 0 := by omega
                          exact atr r15_4_0 (rw3 e0 e1 e2) iv0 w hgl
                        ·
                          have e2 : opVal .and .i64 a2 7 = 1 := by omega
                          exact atr r15_4_1 (rw3 e0 e1 e2) iv0 w hgl
                      ·
                        by_cases q12 : opVal .and .i64 a2 7 < 3
                        ·
                          have e2 : opVal .and .i64 a2 7 = 2 := by omega
                          exact atr r15_4_2 (rw3 e0 e1 e2) iv0 w hgl
                        ·
                          have e2 : opVal .and .i64 a2 7 = 3 := by omega
                          exact atr r15_4_3 (rw3 e0 e1 e2) iv0 w hgl
                    ·
                      by_cases q11 : opVal .and .i64 a2 7 < 6
                      ·
                        by_cases q12 : opVal .and .i64 a2 7 < 5
                        ·
                          have e2 : opVal .and .i64 a2 7 = 4 := by omega
                          exact atr r15_4_4 (rw3 e0 e1 e2) iv0 w hgl
                        ·
                          have e2 : opVal .and .i64 a2 7 = 5 := by omega
                          exact atr r15_4_5 (rw3 e0 e1 e2) iv0 w hgl
                      ·
                        by_cases q12 : opVal .and .i64 a2 7 < 7
                        ·
                          have e2 : opVal .and .i64 a2 7 = 6 := by omega
                          exact atr r15_4_6 (rw3 e0 e1 e2) iv0 w hgl
                        ·
                          have e2 : opVal .and .i64 a2 7 = 7 := by omega
                          exact atr r15_4_7 (rw3 e0 e1 e2) iv0 w hgl
                  ·
                    have e1 : opVal .and .i64 a1 7 = 5 := by omega
                    have g2 := rng2 a2
                    by_cases q10 : opVal .and .i64 a2 7 < 4
                    ·
                      by_cases q11 : opVal .and .i64 a2 7 < 2
                      ·
                        by_cases q12 : opVal .and .i64 a2 7 < 1
                        ·
                          have e2 : opVal .and .i64 a2 7 = 0 := by omega
                          exact atr r15_5_0 (rw3 e0 e1 e2) iv0 w hgl
                        ·
                          have e2 : opVal .and .i64 a2 7 = 1 := by omega
                          exact atr r15_5_1 (rw3 e0 e1 e2) iv0 w hgl
                      ·
                        by_cases q12 : opVal .and .i64 a2 7 < 3
                        ·
                          have e2 : opVal .and .i64 a2 7 = 2 := by omega
                          exact atr r15_5_2 (rw3 e0 e1 e2) iv0 w hgl
                        ·
                          have e2 : opVal .and .i64 a2 7 = 3 := by omega
                          exact atr r15_5_3 (rw3 e0 e1 e2) iv0 w hgl
                    ·
                      by_cases q11 : opVal .and .i64 a2 7 < 6
                      ·
                        by_cases q12 : opVal .and .i64 a2 7 < 5
                        ·
                          have e2 : opVal .and .i64 a2 7 = 4 := by omega
                          exact atr r15_5_4 (rw3 e0 e1 e2) iv0 w hgl
                        ·
                          have e2 : opVal .and .i64 a2 7 = 5 := by omega
                          exact atr r15_5_5 (rw3 e0 e1 e2) iv0 w hgl
                      ·
                        by_cases q12 : opVal .and .i64 a2 7 < 7
                        ·
                          have e2 : opVal .and .i64 a2 7 = 6 := by omega
                          exact atr r15_5_6 (rw3 e0 e1 e2) iv0 w hgl
                        ·
                          have e2 : opVal .and .i64 a2 7 = 7 := by omega
                          exact atr r15_5_7 (rw3 e0 e1 e2) iv0 w hgl
                ·
                  by_cases q9 : opVal .and .i64 a1 7 < 7
                  ·
                    have e1 : opVal .and .i64 a1 7 = 6 := by omega
                    have g2 := rng2 a2
                    by_cases q10 : opVal .and .i64 a2 7 < 4
                    ·
                      by_cases q11 : opVal .and .i64 a2 7 < 2
                      ·
                        by_cases q12 : opVal .and .i64 a2 7 < 1
                        ·
                          have e2 : opVal .and .i64 a2 7 = 0 := by omega
                          exact atr r15_6_0 (rw3 e0 e1 e2) iv0 w hgl
                        ·
                          have e2 : opVal .and .i64 a2 7 = 1 := by omega
                          exact atr r15_6_1 (rw3 e0 e1 e2) iv0 w hgl
                      ·
                        by_cases q12 : opVal .and .i64 a2 7 < 3
                        ·
                          have e2 : opVal .and .i64 a2 7 = 2 := by omega
                          exact atr r15_6_2 (rw3 e0 e1 e2) iv0 w hgl
                        ·
                          have e2 : opVal .and .i64 a2 7 = 3 := by omega
                          exact atr r15_6_3 (rw3 e0 e1 e2) iv0 w hgl
                    ·
                      by_cases q11 : opVal .and .i64 a2 7 < 6
                      ·
                        by_cases q12 : opVal .and .i64 a2 7 < 5
                        ·
                          have e2 : opVal .and .i64 a2 7 = 4 := by omega
                          exact atr r15_6_4 (rw3 e0 e1 e2) iv0 w hgl
                        ·
                          have e2 : opVal .and .i64 a2 7 = 5 := by omega
                          exact atr r15_6_5 (rw3 e0 e1 e2) iv0 w hgl
                      ·
                        by_cases q12 : opVal .and .i64 a2 7 < 7
                        ·
                          have e2 : opVal .and .i64 a2 7 = 6 := by omega
                          exact atr r15_6_6 (rw3 e0 e1 e2) iv0 w hgl
                        ·
                          have e2 : opVal .and .i64 a2 7 = 7 := by omega
                          exact atr r15_6_7 (rw3 e0 e1 e2) iv0 w hgl
                  ·
                    have e1 : opVal .and .i64 a1 7 = 7 := by omega
                    have g2 := rng2 a2
                    by_cases q10 : opVal .and .i64 a2 7 < 4
                    ·
                      by_cases q11 : opVal .and .i64 a2 7 < 2
                      ·
                        by_cases q12 : opVal .and .i64 a2 7 < 1
                        ·
                          have e2 : opVal .and .i64 a2 7 = 0 := by omega
                          exact atr r15_7_0 (rw3 e0 e1 e2) iv0 w hgl
                        ·
                          have e2 : opVal .and .i64 a2 7 = 1 := by omega
                          exact atr r15_7_1 (rw3 e0 e1 e2) iv0 w hgl
                      ·
                        by_cases q12 : opVal .and .i64 a2 7 < 3
                        ·
                          have e2 : opVal .and .i64 a2 7 = 2 := by omega
                          exact atr r15_7_2 (rw3 e0 e1 e2) iv0 w hgl
                        ·
                          have e2 : opVal .and .i64 a2 7 = 3 := by omega
                          exact atr r15_7_3 (rw3 e0 e1 e2) iv0 w hgl
                    ·
                      by_cases q11 : opVal .and .i64 a2 7 < 6
                      ·
                        by_cases q12 : opVal .and .i64 a2 7 < 5
                        ·
                          have e2 : opVal .and .i64 a2 7 = 4 := by omega
                          exact atr r15_7_4 (rw3 e0 e1 e2) iv0 w hgl
                        ·
                          have e2 : opVal .and .i64 a2 7 = 5 := by omega
                          exact atr r15_7_5 (rw3 e0 e1 e2) iv0 w hgl
                      ·
                        by_cases q12 : opVal .and .i64 a2 7 < 7
                        ·
                          have e2 : opVal .and .i64 a2 7 = 6 := by omega
                          exact atr r15_7_6 (rw3 e0 e1 e2) iv0 w hgl
                        ·
                          have e2 : opVal .and .i64 a2 7 = 7 := by omega
                          exact atr r15_7_7 (rw3 e0 e1 e2) iv0 w hgl
            ·
              have e0 : opVal .rem .u64 (IntKind.wrap .u64 a0) 47 = 16 := by omega
              have g1 := rng1 a1
              by_cases q7 : opVal .and .i64 a1 7 < 4
              ·
                by_cases q8 : opVal .and .i64 a1 7 < 2
                ·
                  by_cases q9 : opVal .and .i64 a1 7 < 1
                  ·
                    have e1 : opVal .and .i64 a1 7 = 0 := by omega
                    have g2 := rng2 a2
                    by_cases q10 : opVal .and .i64 a2 7 < 4
                    ·
                      by_cases q11 : opVal .and .i64 a2 7 < 2
                      ·
                        by_cases q12 : opVal .and .i64 a2 7 < 1
                        ·
                          have e2 : opVal .and .i64 a2 7 = 0 := by omega
                          exact atr r16_0_0 (rw3 e0 e1 e2) iv0 w hgl
                        ·
                          have e2 : opVal .and .i64 a2 7 = 1 := by omega
                          exact atr r16_0_1 (rw3 e0 e1 e2) iv0 w hgl
                      ·
                        by_cases q12 : opVal .and .i64 a2 7 < 3
                        ·
                          have e2 : opVal .and .i64 a2 7 = 2 := by omega
                          exact atr r16_0_2 (rw3 e0 e1 e2) iv0 w hgl
                        ·
                          have e2 : opVal .and .i64 a2 7 = 3 := by omega
                          exact atr r16_0_3 (rw3 e0 e1 e2) iv0 w hgl
                    ·
                      by_cases q11 : opVal .and .i64 a2 7 < 6
                      ·
                        by_cases q12 : opVal .and .i64 a2 7 < 5
                        ·
                          have e2 : opVal .and .i64 a2 7 = 4 := by omega
                          exact atr r16_0_4 (rw3 e0 e1 e2) iv0 w hgl
                        ·
                          have e2 : opVal .and .i64 a2 7 = 5 := by omega
                          exact atr r16_0_5 (rw3 e0 e1 e2) iv0 w hgl
                      ·
                        by_cases q12 : opVal .and .i64 a2 7 < 7
                        ·
                          have e2 : opVal .and .i64 a2 7 = 6 := by omega
                          exact atr r16_0_6 (rw3 e0 e1 e2) iv0 w hgl
                        ·
                          have e2 : opVal .and .i64 a2 7 = 7 := by omega
                          exact atr r16_0_7 (rw3 e0 e1 e2) iv0 w hgl
                  ·
                    have e1 : opVal .and .i64 a1 7 = 1 := by omega
                    have g2 := rng2 a2
                    by_cases q10 : opVal .and .i64 a2 7 < 4
                    ·
                      by_cases q11 : opVal .and .i64 a2 7 < 2
                      ·
                        by_cases q12 : opVal .and .i64 a2 7 < 1
                        ·
                          have e2 : opVal .and .i64 a2 7 = 0 := by omega
                          exact atr r16_1_0 (rw3 e0 e1 e2) iv0 w hgl
                        ·
                          have e2 : opVal .and .i64 a2 7 = 1 := by omega
                          exact atr r16_1_1 (rw3 e0 e1 e2) iv0 w hgl
                      ·
                        by_cases q12 : opVal .and .i64 a2 7 < 3
                        ·
                          have e2 : opVal .and .i64 a2 7 = 2 := by omega
                          exact atr r16_1_2 (rw3 e0 e1 e2) iv0 w hgl
                        ·
                          have e2 : opVal .and .i64 a2 7 = 3 := by omega
                          exact atr r16_1_3 (rw3 e0 e1 e2) iv0 w hgl
                    ·
                      by_cases q11 : opVal .and .i64 a2 7 < 6
                      ·
                        by_cases q12 : opVal .and .i64 a2 7 < 5
                        ·
                          have e2 : opVal .and .i64 a2 7 = 4 := by omega
                          exact atr r16_1_4 (rw3 e0 e1 e2) iv0 w hgl
                        ·
                          have e2 : opVal .and .i64 a2 7 = 5 := by omega
                          exact atr r16_1_5 (rw3 e0 e1 e2) iv0 w hgl
                      ·
                        by_cases q12 : opVal .and .i64 a2 7 < 7
                        ·
                          have e2 : opVal .and .i64 a2 7 = 6 := by omega
                          exact atr r16_1_6 (rw3 e0 e1 e2) iv0 w hgl
                        ·
                          have e2 : opVal .and .i64 a2 7 = 7 := by omega
                          exact atr r16_1_7 (rw3 e0 e1 e2) iv0 w hgl
                ·
                  by_cases q9 : opVal .and .i64 a1 7 < 3
                  ·
                    have e1 : opVal .and .i64 a1 7 = 2 := by omega
                    have g2 := rng2 a2
                    by_cases q10 : opVal .and .i64 a2 7 < 4
                    ·
                      by_cases q11 : opVal .and .i64 a2 7 < 2
                      ·
                        by_cases q12 : opVal .and .i64 a2 7 < 1
                        ·
                          have e2 : opVal .and .i64 a2 7 = 0 := by omega
                          exact atr r16_2_0 (rw3 e0 e1 e2) iv0 w hgl
                        ·
                          have e2 : opVal .and .i64 a2 7 = 1 := by omega
                          exact atr r16_2_1 (rw3 e0 e1 e2) iv0 w hgl
                      ·
                        by_cases q12 : opVal .and .i64 a2 7 < 3
                        ·
                          have e2 : opVal .and .i64 a2 7 = 2 := by omega
                          exact atr r16_2_2 (rw3 e0 e1 e2) iv0 w hgl
                        ·
                          have e2 : opVal .and .i64 a2 7 = 3 := by omega
                          exact atr r16_2_3 (rw3 e0 e1 e2) iv0 w hgl
                    ·
                      by_cases q11 : opVal .and .i64 a2 7 < 6
                      ·
                        by_cases q12 : opVal .and .i64 a2 7 < 5
                        ·
                          have e2 : opVal .and .i64 a2 7 = 4 := by omega
                          exact atr r16_2_4 (rw3 e0 e1 e2) iv0 w hgl
                        ·
                          have e2 : opVal .and .i64 a2 7 = 5 := by omega
                          exact atr r16_2_5 (rw3 e0 e1 e2) iv0 w hgl
                      ·
                        by_cases q12 : opVal .and .i64 a2 7 < 7
                        ·
                          have e2 : opVal .and .i64 a2 7 = 6 := by omega
                          exact atr r16_2_6 (rw3 e0 e1 e2) iv0 w hgl
                        ·
                          have e2 : opVal .and .i64 a2 7 = 7 := by omega
                          exact atr r16_2_7 (rw3 e0 e1 e2) iv0 w hgl
                  ·
                    have e1 : opVal .and .i64 a1 7 = 3 := by omega
                    have g2 := rng2 a2
                    by_cases q10 : opVal .and .i64 a2 7 < 4
                    ·
                      by_cases q11 : opVal .and .i64 a2 7 < 2
                      ·
                        by_cases q12 : opVal .and .i64 a2 7 < 1
                        ·
                          have e2 : opVal .and .i64 a2 7 = 0 := by omega
                          exact atr r16_3_0 (rw3 e0 e1 e2) iv0 w hgl
                        ·
                          have e2 : opVal .and .i64 a2 7 = 1 := by omega
                          exact atr r16_3_1 (rw3 e0 e1 e2) iv0 w hgl
                      ·
                        by_cases q12 : opVal .and .i64 a2 7 < 3
                        ·
                          have e2 : opVal .and .i64 a2 7 = 2 := by omega
                          exact atr r16_3_2 (rw3 e0 e1 e2) iv0 w hgl
                        ·
                          have e2 : opVal .and .i64 a2 7 = 3 := by omega
                          exact atr r16_3_3 (rw3 e0 e1 e2) iv0 w hgl
                    ·
                      by_cases q11 : opVal .and .i64 a2 7 < 6
                      ·
                        by_cases q12 : opVal .and .i64 a2 7 < 5
                        ·
                          have e2 : opVal .and .i64 a2 7 = 4 := by omega
                          exact atr r16_3_4 (rw3 e0 e1 e2) iv0 w hgl
                        ·
                          have e2 : opVal .and .i64 a2 7 = 5 := by omega
                          exact atr r16_3_5 (rw3 e0 e1 e2) iv0 w hgl
                      ·
                        by_cases q12 : opVal .and .i64 a2 7 < 7
                        ·
                          have e2 : opVal .and .i64 a2 7 = 6 := by omega
                          exact atr r16_3_6 (rw3 e0 e1 e2) iv0 w hgl
                        ·
                          have e2 : opVal .and .i64 a2 7 = 7 := by omega
                          exact atr r16_3_7 (rw3 e0 e1 e2) iv0 w hgl
              ·
                by_cases q8 : opVal .and .i64 a1 7 < 6
                ·
                  by_cases q9 : opVal .and .i64 a1 7 < 5
                  ·
                    have e1 : opVal .and .i64 a1 7 = 4 := by omega
                    have g2 := rng2 a2
                    by_cases q10 : opVal .and .i64 a2 7 < 4
                    ·
                      by_cases q11 : opVal .and .i64 a2 7 < 2
                      ·
                        by_cases q12 : opVal .and .i64 a2 7 < 1
                        ·
                          have e2 : opVal .and .i64 a2 7 = 0 := by omega
                          exact atr r16_4_0 (rw3 e0 e1 e2) iv0 w hgl
                        ·
                          have e2 : opVal .and .i64 a2 7 = 1 := by omega
                          exact atr r16_4_1 (rw3 e0 e1 e2) iv0 w hgl
                      ·
                        by_cases q12 : opVal .and .i64 a2 7 < 3
                        ·
                          have e2 : opVal .and .i64 a2 7 = 2 := by omega
                          exact atr r16_4_2 (rw3 e0 e1 e2) iv0 w hgl
                        ·
                          have e2 : opVal .and .i64 a2 7 = 3 := by omega
                          exact atr r16_4_3 (rw3 e0 e1 e2) iv0 w hgl
                    ·
                      by_cases q11 : opVal .and .i64 a2 7 < 6
                      ·
                        by_cases q12 : opVal .and .i64 a2 7 < 5
                        ·
                          have e2 : opVal .and .i64 a2 7 = 4 := by omega
                          exact atr r16_4_4 (rw3 e0 e1 e2) iv0 w hgl
                        ·
                          have e2 : opVal .and .i64 a2 7 = 5 := by omega
                          exact atr r16_4_5 (rw3 e0 e1 e2) iv0 w hgl
                      ·
                        by_cases q12 : opVal .and .i64 a2 7 < 7
                        ·
                          have e2 : opVal .and .i64 a2 7 = 6 := by omega
                          exact atr r16_4_6 (rw3 e0 e1 e2) iv0 w hgl
                        ·
                          have e2 : opVal .and .i64 a2 7 = 7 := by omega
                          exact atr r16_4_7 (rw3 e0 e1 e2) iv0 w hgl
                  ·
                    have e1 : opVal .and .i64 a1 7 = 5 := by omega
                    have g2 := rng2 a2
                    by_cases q10 : opVal .and .i64 a2 7 < 4
                    ·
                      by_cases q11 : opVal .and .i64 a2 7 < 2
                      ·
                        by_cases q12 : opVal .and .i64 a2 7 < 1
                        ·
                          have e2 : opVal .and .i64 a2 7 = 0 := by omega
                          exact atr r16_5_0 (rw3 e0 e1 e2) iv0 w hgl
                        ·
                          have e2 : opVal .and .i64 a2 7 = 1 := by omega
                          exact atr r16_5_1 (rw3 e0 e1 e2) iv0 w hgl
                      ·
                        by_cases q12 : opVal .and .i64 a2 7 < 3
                        ·
                          have e2 : opVal .and .i64 a2 7 = 2 := by omega
                          exact atr r16_5_2 (rw3 e0 e1 e2) iv0 w hgl
                        ·
                          have e2 : opVal .and .i64 a2 7 = 3 := by omega
                          exact atr r16_5_3 (rw3 e0 e1 e2) iv0 w hgl
                    ·
                      by_cases q11 : opVal .and .i64 a2 7 < 6
                      ·
                        by_cases q12 : opVal .and .i64 a2 7 < 5
                        ·
                          have e2 : opVal .and .i64 a2 7 = 4 := by omega
                          exact atr r16_5_4 (rw3 e0 e1 e2) iv0 w hgl
                        ·
                          have e2 : opVal .and .i64 a2 7 = 5 := by omega
                          exact atr r16_5_5 (rw3 e0 e1 e2) iv0 w hgl
                      ·
                        by_cases q12 : opVal .and .i64 a2 7 < 7
                        ·
                          have e2 : opVal .and .i64 a2 7 = 6 := by omega
                          exact atr r16_5_6 (rw3 e0 e1 e2) iv0 w hgl
                        ·
                          have e2 : opVal .and .i64 a2 7 = 7 := by omega
                          exact atr r16_5_7 (rw3 e0 e1 e2) iv0 w hgl
                ·
                  by_cases q9 : opVal .and .i64 a1 7 < 7
                  ·
                    have e1 : opVal .and .i64 a1 7 = 6 := by omega
                    have g2 := rng2 a2
                    by_cases q10 : opVal .and .i64 a2 7 < 4
                    ·
                      by_cases q11 : opVal .and .i64 a2 7 < 2
                      ·
                        by_cases q12 : opVal .and .i64 a2 7 < 1
                        ·
                          have e2 : opVal .and .i64 a2 7 = 0 := by omega
                          exact atr r16_6_0 (rw3 e0 e1 e2) iv0 w hgl
                        ·
                          have e2 : opVal .and .i64 a2 7 = 1 := by omega
                          exact atr r16_6_1 (rw3 e0 e1 e2) iv0 w hgl
                      ·
                        by_cases q12 : opVal .and .i64 a2 7 < 3
                        ·
                          have e2 : opVal .and .i64 a2 7 = 2 := by omega
                          exact atr r16_6_2 (rw3 e0 e1 e2) iv0 w hgl
                        ·
                          have e2 : opVal .and .i64 a2 7 = 3 := by omega
                          exact atr r16_6_3 (rw3 e0 e1 e2) iv0 w hgl
                    ·
                      by_cases q11 : opVal .and .i64 a2 7 < 6
                      ·
                        by_cases q12 : opVal .and .i64 a2 7 < 5
                        ·
                          have e2 : opVal .and .i64 a2 7 = 4 := by omega
                          exact atr r16_6_4 (rw3 e0 e1 e2) iv0 w hgl
                        ·
                          have e2 : opVal .and .i64 a2 7 = 5 := by omega
                          exact atr r16_6_5 (rw3 e0 e1 e2) iv0 w hgl
                      ·
                        by_cases q12 : opVal .and .i64 a2 7 < 7
                        ·
                          have e2 : opVal .and .i64 a2 7 = 6 := by omega
                          exact atr r16_6_6 (rw3 e0 e1 e2) iv0 w hgl
                        ·
                          have e2 : opVal .and .i64 a2 7 = 7 := by omega
                          exact atr r16_6_7 (rw3 e0 e1 e2) iv0 w hgl
                  ·
                    have e1 : opVal .and .i64 a1 7 = 7 := by omega
                    have g2 := rng2 a2
                    by_cases q10 : opVal .and .i64 a2 7 < 4
                    ·
                      by_cases q11 : opVal .and .i64 a2 7 < 2
                      ·
                        by_cases q12 : opVal .and .i64 a2 7 < 1
                        ·
                          have e2 : opVal .and .i64 a2 7 = 0 := by omega
                          exact atr r16_7_0 (rw3 e0 e1 e2) iv0 w hgl
                        ·
                          have e2 : opVal .and .i64 a2 7 = 1 := by omega
                          exact atr r16_7_1 (rw3 e0 e1 e2) iv0 w hgl
                      ·
                        by_cases q12 : opVal .and .i64 a2 7 < 3
                        ·
                          have e2 : opVal .and .i64 a2 7 = 2 := by omega
                          exact atr r16_7_2 (rw3 e0 e1 e2) iv0 w hgl
                        ·
                          have e2 : opVal .and .i64 a2 7 = 3 := by omega
                          exact atr r16_7_3 (rw3 e0 e1 e2) iv0 w hgl
                    ·
                      by_cases q11 : opVal .and .i64 a2 7 < 6
                      ·
                        by_cases q12 : opVal .and .i64 a2 7 < 5
                        ·
                          have e2 : opVal .and .i64 a2 7 = 4 := by omega
                          exact atr r16_7_4 (rw3 e0 e1 e2) iv0 w hgl
                        ·
                          have e2 : opVal .and .i64 a2 7 = 5 := by omega
                          exact atr r16_7_5 (rw3 e0 e1 e2) iv0 w hgl
                      ·
                        by_cases q12 : opVal .and .i64 a2 7 < 7
                        ·
                          have e2 : opVal .and .i64 a2 7 = 6 := by omega
                          exact atr r16_7_6 (rw3 e0 e1 e2) iv0 w hgl
                        ·
                          have e2 : opVal .and .i64 a2 7 = 7 := by omega
                          exact atr r16_7_7 (rw3 e0 e1 e2) iv0 w hgl
      ·
        by_cases q4 : opVal .rem .u64 (IntKind.wrap .u64 a0) 47 < 20
        ·
          by_cases q5 : opVal .rem .u64 (IntKind.wrap .u64 a0) 47 < 18
          ·
            have e0 : opVal .rem .u64 (IntKind.wrap .u64 a0) 47 = 17 := by omega
            have g1 := rng1 a1
            by_cases q6 : opVal .and .i64 a1 7 < 4
            ·
              by_cases q7 : opVal .and .i64 a1 7 < 2
              ·
                by_cases q8 : opVal .and .i64 a1 7 < 1
                ·
                  have e1 : opVal .and .i64 a1 7 = 0 := by omega
                  have g2 := rng2 a2
                  by_cases q9 : opVal .and .i64 a2 7 < 4
                  ·
                    by_cases q10 : opVal .and .i64 a2 7 < 2
                    ·
                      by_cases q11 : opVal .and .i64 a2 7 < 1
                      ·
                        have e2 : opVal .and .i64 a2 7 = 0 := by omega
                        exact atr r17_0_0 (rw3 e0 e1 e2) iv0 w hgl
                      ·
                        have e2 : opVal .and .i64 a2 7 = 1 := by omega
                        exact atr r17_0_1 (rw3 e0 e1 e2) iv0 w hgl
                    ·
                      by_cases q11 : opVal .and .i64 a2 7 < 3
                      ·
                        have e2 : opVal .and .i64 a2 7 = 2 := by omega
                        exact atr r17_0_2 (rw3 e0 e1 e2) iv0 w hgl
                      ·
                        have e2 : opVal .and .i64 a2 7 = 3 := by omega
                        exact atr r17_0_3 (rw3 e0 e1 e2) iv0 w hgl
                  ·
                    by_cases q10 : opVal .and .i64 a2 7 < 6
                    ·
                      by_cases q11 : opVal .and .i64 a2 7 < 5
                      ·
                        have e2 : opVal .and .i64 a2 7 = 4 := by omega
                        exact atr r17_0_4 (rw3 e0 e1 e2) iv0 w hgl
                      ·
                        have e2 : opVal .and .i64 a2 7 = 5 := by omega
                        exact atr r17_0_5 (rw3 e0 e1 e2) iv0 w hgl
                    ·
                      by_cases q11 : opVal .and .i64 a2 7 < 7
                      ·
                        have e2 : opVal .and .i64 a2 7 = 6 := by omega
                        exact atr r17_0_6 (rw3 e0 e1 e2) iv0 w hgl
                      ·
                        have e2 : opVal .and .i64 a2 7 = 7 := by omega
                        exact atr r17_0_7 (rw3 e0 e1 e2) iv0 w hgl
                ·
                  have e1 : opVal .and .i64 a1 7 = 1 := by omega
                  have g2 := rng2 a2
                  by_cases q9 : opVal .and .i64 a2 7 < 4
                  ·
                    by_cases q10 : opVal .and .i64 a2 7 < 2
                    ·
                      by_cases q11 : opVal .and .i64 a2 7 < 1
                      ·
                        have e2 : opVal .and .i64 a2 7 = 0 := by omega
                        exact atr r17_1_0 (rw3 e0 e1 e2) iv0 w hgl
                      ·
                        have e2 : opVal .and .i64 a2 7 = 1 := by omega
                        exact atr r17_1_1 (rw3 e0 e1 e2) iv0 w hgl
                    ·
                      by_cases q11 : opVal .and .i64 a2 7 < 3
                      ·
                        have e2 : opVal .and .i64 a2 7 = 2 := by omega
                        exact atr r17_1_2 (rw3 e0 e1 e2) iv0 w hgl
                      ·
                        have e2 : opVal .and .i64 a2 7 = 3 := by omega
                        exact atr r17_1_3 (rw3 e0 e1 e2) iv0 w hgl
                  ·
                    by_cases q10 : opVal .and .i64 a2 7 < 6
                    ·
                      by_cases q11 : opVal .and .i64 a2 7 < 5
                      ·
                        have e2 : opVal .and .i64 a2 7 = 4 := by omega
                        exact atr r17_1_4 (rw3 e0 e1 e2) iv0 w hgl
                      ·
                        have e2 : opVal .and .i64 a2 7 = 5 := by omega
                        exact atr r17_1_5 (rw3 e0 e1 e2) iv0 w hgl
                    ·
                      by_cases q11 : opVal .and .i64 a2 7 < 7
                      ·
                        have e2 : opVal .and .i64 a2 7 = 6 := by omega
                        exact atr r17_1_6 (rw3 e0 e1 e2) iv0 w hgl
                      ·
                        have e2 : opVal .and .i64 a2 7 = 7 := by omega
                        exact atr r17_1_7 (rw3 e0 e1 e2) iv0 w hgl
              ·
                by_cases q8 : opVal .and .i64 a1 7 < 3
                ·
                  have e1 : opVal .and .i64 a1 7 = 2 := by omega
                  have g2 := rng2 a2
                  by_cases q9 : opVal .and .i64 a2 7 < 4
                  ·
                    by_cases q10 : opVal .and .i64 a2 7 < 2
                    ·
                      by_cases q11 : opVal .and .i64 a2 7 < 1
                      ·
                        have e2 : opVal .and .i64 a2 7 = 0 := by omega
                        exact atr r17_2_0 (rw3 e0 e1 e2) iv0 w hgl
                      ·
                        have e2 : opVal .and .i64 a2 7 = 1 := by omega
                        exact atr r17_2_1 (rw3 e0 e1 e2) iv0 w hgl
                    ·
                      by_cases q11 : opVal .and .i64 a2 7 < 3
                      ·
                        have e2 : opVal .and .i64 a2 7 = 2 := by omega
                        exact atr r17_2_2 (rw3 e0 e1 e2) iv0 w hgl
                      ·
                        have e2 : opVal .and .i64 a2 7 = 3 := by omega
                        exact atr r17_2_3 (rw3 e0 e1 e2) iv0 w hgl
                  ·
                    by_cases q10 : opVal .and .i64 a2 7 < 6
                    ·
                      by_cases q11 : opVal .and .i64 a2 7 < 5
                      ·
                        have e2 : opVal .and .i64 a2 7 = 4 := by omega
                        exact atr r17_2_4 (rw3 e0 e1 e2) iv0 w hgl
                      ·
                        have e2 : opVal .and .i64 a2 7 = 5 := by omega
                        exact atr r17_2_5 (rw3 e0 e1 e2) iv0 w hgl
                    ·
                      by_cases q11 : opVal .and .i64 a2 7 < 7
                      ·
                        have e2 : opVal .and .i64 a2 7 = 6 := by omega
                        exact atr r17_2_6 (rw3 e0 e1 e2) iv0 w hgl
                      ·
                        have e2 : opVal .and .i64 a2 7 = 7 := by omega
                        exact atr r17_2_7 (rw3 e0 e1 e2) iv0 w hgl
                ·
                  have e1 : opVal .and .i64 a1 7 = 3 := by omega
                  have g2 := rng2 a2
                  by_cases q9 : opVal .and .i64 a2 7 < 4
                  ·
                    by_cases q10 : opVal .and .i64 a2 7 < 2
                    ·
                      by_cases q11 : opVal .and .i64 a2 7 < 1
                      ·
                        have e2 : opVal .and .i64 a2 7 = 0 := by omega
                        exact atr r17_3_0 (rw3 e0 e1 e2) iv0 w hgl
                      ·
                        have e2 : opVal .and .i64 a2 7 = 1 := by omega
                        exact atr r17_3_1 (rw3 e0 e1 e2) iv0 w hgl
                    ·
                      by_cases q11 : opVal .and .i64 a2 7 < 3
                      ·
                        have e2 : opVal .and .i64 a2 7 = 2 := by omega
                        exact atr r17_3_2 (rw3 e0 e1 e2) iv0 w hgl
                      ·
                        have e2 : opVal .and .i64 a2 7 = 3 := by omega
                        exact atr r17_3_3 (rw3 e0 e1 e2) iv0 w hgl
                  ·
                    by_cases q10 : opVal .and .i64 a2 7 < 6
                    ·
                      by_cases q11 : opVal .and .i64 a2 7 < 5
                      ·
                        have e2 : opVal .and .i64 a2 7 = 4 := by omega
                        exact atr r17_3_4 (rw3 e0 e1 e2) iv0 w hgl
                      ·
                        have e2 : opVal .and .i64 a2 7 = 5 := by omega
                        exact atr r17_3_5 (rw3 e0 e1 e2) iv0 w hgl
                    ·
                      by_cases q11 : opVal .and .i64 a2 7 < 7
                      ·
                        have e2 : opVal .and .i64 a2 7 = 6 := by omega
                        exact atr r17_3_6 (rw3 e0 e1 e2) iv0 w hgl
                      ·
                        have e2 : opVal .and .i64 a2 7 = 7 := by omega
                        exact atr r17_3_7 (rw3 e0 e1 e2) iv0 w hgl
            ·
              by_cases q7 : opVal .and .i64 a1 7 < 6
              ·
                by_cases q8 : opVal .and .i64 a1 7 < 5
                ·
                  have e1 : opVal .and .i64 a1 7 = 4 := by omega
                  have g2 := rng2 a2
                  by_cases q9 : opVal .and .i64 a2 7 < 4
                  ·
                    by_cases q10 : opVal .and .i64 a2 7 < 2
                    ·
                      by_cases q11 : opVal .and .i64 a2 7 < 1
                      ·
                        have e2 : opVal .and .i64 a2 7 = 0 := by omega
                        exact atr r17_4_0 (rw3 e0 e1 e2) iv0 w hgl
                      ·
                        have e2 : opVal .and .i64 a2 7 = 1 := by omega
                        exact atr r17_4_1 (rw3 e0 e1 e2) iv0 w hgl
                    ·
                      by_cases q11 : opVal .and .i64 a2 7 < 3
                      ·
                        have e2 : opVal .and .i64 a2 7 = 2 := by omega
                        exact atr r17_4_2 (rw3 e0 e1 e2) iv0 w hgl
                      ·
                        have e2 : opVal .and .i64 a2 7 = 3 := by omega
                        exact atr r17_4_3 (rw3 e0 e1 e2) iv0 w hgl
                  ·
                    by_cases q10 : opVal .and .i64 a2 7 < 6
                    ·
                      by_cases q11 : opVal .and .i64 a2 7 < 5
                      ·
                        have e2 : opVal .and .i64 a2 7 = 4 := by omega
                        exact atr r17_4_4 (rw3 e0 e1 e2) iv0 w hgl
                      ·
                        have e2 : opVal .and .i64 a2 7 = 5 := by omega
                        exact atr r17_4_5 (rw3 e0 e1 e2) iv0 w hgl
                    ·
                      by_cases q11 : opVal .and .i64 a2 7 < 7
                      ·
                        have e2 : opVal .and .i64 a2 7 = 6 := by omega
                        exact atr r17_4_6 (rw3 e0 e1 e2) iv0 w hgl
                      ·
                        have e2 : opVal .and .i64 a2 7 = 7 := by omega
                        exact atr r17_4_7 (rw3 e0 e1 e2) iv0 w hgl
                ·
                  have e1 : opVal .and .i64 a1 7 = 5 := by omega
                  have g2 := rng2 a2
                  by_cases q9 : opVal .and .i64 a2 7 < 4
                  ·
                    by_cases q10 : opVal .and .i64 a2 7 < 2
                    ·
                      by_cases q11 : opVal .and .i64 a2 7 < 1
                      ·
                        have e2 : opVal .and .i64 a2 7 = 0 := by omega
                        exact atr r17_5_0 (rw3 e0 e1 e2) iv0 w hgl
                      ·
                        have e2 : opVal .and .i64 a2 7 = 1 := by omega
                        exact atr r17_5_1 (rw3 e0 e1 e2) iv0 w hgl
                    ·
                      by_cases q11 : opVal .and .i64 a2 7 < 3
                      ·
                        have e2 : opVal .and .i64 a2 7 = 2 := by omega
                        exact atr r17_5_2 (rw3 e0 e1 e2) iv0 w hgl
                      ·
                        have e2 : opVal .and .i64 a2 7 = 3 := by omega
                        exact atr r17_5_3 (rw3 e0 e1 e2) iv0 w hgl
                  ·
                    by_cases q10 : opVal .and .i64 a2 7 < 6
                    ·
                      by_cases q11 : opVal .and .i64 a2 7 < 5
                      ·
                        have e2 : opVal .and .i64 a2 7 = 4 := by omega
                        exact atr r17_5_4 (rw3 e0 e1 e2) iv0 w hgl
                      ·
                        have e2 : opVal .and .i64 a2 7 = 5 := by omega
                        exact atr r17_5_5 (rw3 e0 e1 e2) iv0 w hgl
                    ·
                      by_cases q11 : opVal .and .i64 a2 7 < 7
                      ·
                        have e2 : opVal .and .i64 a2 7 = 6 := by omega
                        exact atr r17_5_6 (rw3 e0 e1 e2) iv0 w hgl
                      ·
                        have e2 : opVal .and .i64 a2 7 = 7 := by omega
                        exact atr r17_5_7 (rw3 e0 e1 e2) iv0 w hgl
              ·
                by_cases q8 : opVal .and .i64 a1 7 < 7
                ·
                  have e1 : opVal .and .i64 a1 7 = 6 := by omega
                  have g2 := rng2 a2
                  by_cases q9 : opVal .and .i64 a2 7 < 4
                  ·
                    by_cases q10 : opVal .and .i64 a2 7 < 2
                    ·
                      by_cases q11 : opVal .and .i64 a2 7 < 1
                      ·
                        have e2 : opVal .and .i64 a2 7 = 0 := by omega
                        exact atr r17_6_0 (rw3 e0 e1 e2) iv0 w hgl
                      ·
                        have e2 : opVal .and .i64 a2 7 = 1 := by omega
                        exact atr r17_6_1 (rw3 e0 e1 e2) iv0 w hgl
                    ·
                      by_cases q11 : opVal .and .i64 a2 7 < 3
                      ·
                        have e2 : opVal .and .i64 a2 7 = 2 := by omega
                        exact atr r17_6_2 (rw3 e0 e1 e2) iv0 w hgl
                      ·
                        have e2 : opVal .and .i64 a2 7 = 3 := by omega
                        exact atr r17_6_3 (rw3 e0 e1 e2) iv0 w hgl
                  ·
                    by_cases q10 : opVal .and .i64 a2 7 < 6
                    ·
                      by_cases q11 : opVal .and .i64 a2 7 < 5
                      ·
                        have e2 : opVal .and .i64 a2 7 = 4 := by omega
                        exact atr r17_6_4 (rw3 e0 e1 e2) iv0 w hgl
                      ·
                        have e2 : opVal .and .i64 a2 7 = 5 := by omega
                        exact atr r17_6_5 (rw3 e0 e1 e2) iv0 w hgl
                    ·
                      by_cases q11 : opVal .and .i64 a2 7 < 7
                      ·
                        have e2 : opVal .and .i64 a2 7 = 6 := by omega
                        exact atr r17_6_6 (rw3 e0 e1 e2) iv0 w hgl
                      ·
                        have e2 : opVal .and .i64 a2 7 = 7 := by omega
                        exact atr r17_6_7 (rw3 e0 e1 e2) iv0 w hgl
                ·
                  have e1 : opVal .and .i64 a1 7 = 7 := by omega
                  have g2 := rng2 a2
                  by_cases q9 : opVal .and .i64 a2 7 < 4
                  ·
                    by_cases q10 : opVal .and .i64 a2 7 < 2
                    ·
                      by_cases q11 : opVal .and .i64 a2 7 < 1
                      ·
                        have e2 : opVal .and .i64 a2 7 = 0 := by omega
                        exact atr r17_7_0 (rw3 e0 e1 e2) iv0 w hgl
                      ·
                        have e2 : opVal .and .i64 a2 7 = 1 := by omega
                        exact atr r17_7_1 (rw3 e0 e1 e2) iv0 w hgl
                    ·
                      by_cases q11 : opVal .and .i64 a2 7 < 3
                      ·
                        have e2 : opVal .and .i64 a2 7 = 2 := by omega
                        exact atr r17_7_2 (rw3 e0 e1 e2) iv0 w hgl
                      ·
                        have e2 : opVal .and .i64 a2 7 = 3 := by omega
                        exact atr r17_7_3 (rw3 e0 e1 e2) iv0 w hgl
                  ·
                    by_cases q10 : opVal .and .i64 a2 7 < 6
                    ·
                      by_cases q11 : opVal .and .i64 a2 7 < 5
                      ·
                        have e2 : opVal .and .i64 a2 7 = 4 := by omega
                        exact atr r17_7_4 (rw3 e0 e1 e2) iv0 w hgl
                      ·
                        have e2 : opVal .and .i64 a2 7 = 5 := by omega
                        exact atr r17_7_5 (rw3 e0 e1 e2) iv0 w hgl
                    ·
                      by_cases q11 : opVal .and .i64 a2 7 < 7
                      ·
                        have e2 : opVal .and .i64 a2 7 = 6 := by omega
                        exact atr r17_7_6 (rw3 e0 e1 e2) iv0 w hgl
                      ·
                        have e2 : opVal .and .i64 a2 7 = 7 := by omega
                        exact atr r17_7_7 (rw3 e0 e1 e2) iv0 w hgl
          ·
            by_cases q6 : opVal .rem .u64 (IntKind.wrap .u64 a0) 47 < 19
            ·
              have e0 : opVal .rem .u64 (IntKind.wrap .u64 a0) 47 = 18 := by omega
              have g1 := rng1 a1
              by_cases q7 : opVal .and .i64 a1 7 < 4
              ·
                by_cases q8 : opVal .and .i64 a1 7 < 2
                ·
                  by_cases q9 : opVal .and .i64 a1 7 < 1
                  ·
                    have e1 : opVal .and .i64 a1 7 = 0 := by omega
                    have g2 := rng2 a2
                    by_cases q10 : opVal .and .i64 a2 7 < 4
                    ·
                      by_cases q11 : opVal .and .i64 a2 7 < 2
                      ·
                        by_cases q12 : opVal .and .i64 a2 7 < 1
                        ·
                          have e2 : opVal .and .i64 a2 7 = 0 := by omega
                          exact atr r18_0_0 (rw3 e0 e1 e2) iv0 w hgl
                        ·
                          have e2 : opVal .and .i64 a2 7 = 1 := by omega
                          exact atr r18_0_1 (rw3 e0 e1 e2) iv0 w hgl
                      ·
                        by_cases q12 : opVal .and .i64 a2 7 < 3
                        ·
                          have e2 : opVal .and .i64 a2 7 = 2 := by omega
                          exact atr r18_0_2 (rw3 e0 e1 e2) iv0 w hgl
                        ·
                          have e2 : opVal .and .i64 a2 7 = 3 := by omega
                          exact atr r18_0_3 (rw3 e0 e1 e2) iv0 w hgl
                    ·
                      by_cases q11 : opVal .and .i64 a2 7 < 6
                      ·
                        by_cases q12 : opVal .and .i64 a2 7 < 5
                        ·
                          have e2 : opVal .and .i64 a2 7 = 4 := by omega
                          exact atr r18_0_4 (rw3 e0 e1 e2) iv0 w hgl
                        ·
                          have e2 : opVal .and .i64 a2 7 = 5 := by omega
                          exact atr r18_0_5 (rw3 e0 e1 e2) iv0 w hgl
                      ·
                        by_cases q12 : opVal .and .i64 a2 7 < 7
                        ·
                          have e2 : opVal .and .i64 a2 7 = 6 := by omega
                          exact atr r18_0_6 (rw3 e0 e1 e2) iv0 w hgl
                        ·
                          have e2 : opVal .and .i64 a2 7 = 7 := by omega
                          exact atr r18_0_7 (rw3 e0 e1 e2) iv0 w hgl
                  ·
                    have e1 : opVal .and .i64 a1 7 = 1 := by omega
                    have g2 := rng2 a2
                    by_cases q10 : opVal .and .i64 a2 7 < 4
                    ·
                      by_cases q11 : opVal .and .i64 a2 7 < 2
                      ·
                        by_cases q12 : opVal .and .i64 a2 7 < 1
                        ·
                          have e2 : opVal .and .i64 a2 7 = 0 := by omega
                          exact atr r18_1_0 (rw3 e0 e1 e2) iv0 w hgl
                        ·
                          have e2 : opVal .and .i64 a2 7 = 1 := by omega
                          exact atr r18_1_1 (rw3 e0 e1 e2) iv0 w hgl
                      ·
                        by_cases q12 : opVal .and .i64 a2 7 < 3
                        ·
                          have e2 : opVal .and .i64 a2 7 = 2 := by omega
                          exact atr r18_1_2 (rw3 e0 e1 e2) iv0 w hgl
                        ·
                          have e2 : opVal .and .i64 a2 7 = 3 := by omega
                          exact atr r18_1_3 (rw3 e0 e1 e2) iv0 w hgl
                    ·
                      by_cases q11 : opVal .and .i64 a2 7 < 6
                      ·
                        by_cases q12 : opVal .and .i64 a2 7 < 5
                        ·
                          have e2 : opVal .and .i64 a2 7 = 4 := by omega
                          exact atr r18_1_4 (rw3 e0 e1 e2) iv0 w hgl
                        ·
                          have e2 : opVal .and .i64 a2 7 = 5 := by omega
                          exact atr r18_1_5 (rw3 e0 e1 e2) iv0 w hgl
                      ·
                        by_cases q12 : opVal .and .i64 a2 7 < 7
                        ·
                          have e2 : opVal .and .i64 a2 7 = 6 := by omega
                          exact atr r18_1_6 (rw3 e0 e1 e2) iv0 w hgl
                        ·
                          have e2 : opVal .and .i64 a2 7 = 7 := by omega
                          exact atr r18_1_7 (rw3 e0 e1 e2) iv0 w hgl
                ·
                  by_cases q9 : opVal .and .i64 a1 7 < 3
                  ·
                    have e1 : opVal .and .i64 a1 7 = 2 := by omega
                    have g2 := rng2 a2
                    by_cases q10 : opVal .and .i64 a2 7 < 4
                    ·
                      by_cases q11 : opVal .and .i64 a2 7 < 2
                      ·
                        by_cases q12 : opVal .and .i64 a2 7 < 1
                        ·
                          have e2 : opVal .and .i64 a2 7 = 0 := by omega
                          exact atr r18_2_0 (rw3 e0 e1 e2) iv0 w hgl
                        ·
                          have e2 : opVal .and .i64 a2 7 = 1 := by omega
                          exact atr r18_2_1 (rw3 e0 e1 e2) iv0 w hgl
                      ·
                        by_cases q12 : opVal .and .i64 a2 7 < 3
                        ·
                          have e2 : opVal .and .i64 a2 7 = 2 := by omega
                          exact atr r18_2_2 (rw3 e0 e1 e2) iv0 w hgl
                        ·
                          have e2 : opVal .and .i64 a2 7 = 3 := by omega
                          exact atr r18_2_3 (rw3 e0 e1 e2) iv0 w hgl
                    ·
                      by_cases q11 : opVal .and .i64 a2 7 < 6
                      ·
                        by_cases q12 : opVal .and .i64 a2 7 < 5
                        ·
                          have e2 : opVal .and .i64 a2 7 = 4 := by omega
                          exact atr r18_2_4 (rw3 e0 e1 e2) iv0 w hgl
                        ·
                          have e2 : opVal .and .i64 a2 7 = 5 := by omega
                          exact atr r18_2_5 (rw3 e0 e1 e2) iv0 w hgl
                      ·
                        by_cases q12 : opVal .and .i64 a2 7 < 7
                        ·
                          have e2 : opVal .and .i64 a2 7 = 6 := by omega
                          exact atr r18_2_6 (rw3 e0 e1 e2) iv0 w hgl
                        ·
                          have e2 : opVal .and .i64 a2 7 = 7 := by omega
                          exact atr r18_2_7 (rw3 e0 e1 e2) iv0 w hgl
                  ·
                    have e1 : opVal .and .i64 a1 7 = 3 := by omega
                    have g2 := rng2 a2
                    by_cases q10 : opVal .and .i64 a2 7 < 4
                    ·
                      by_cases q11 : opVal .and .i64 a2 7 < 2
                      ·
                        by_cases q12 : opVal .and .i64 a2 7 < 1
                        ·
                          have e2 : opVal .and .i64 a2 7 = 0 := by omega
                          exact atr r18_3_0 (rw3 e0 e1 e2) iv0 w hgl
                        ·
                          have e2 : opVal .and .i64 a2 7 = 1 := by omega
                          exact atr r18_3_1 (rw3 e0 e1 e2) iv0 w hgl
                      ·
                        by_cases q12 : opVal .and .i64 a2 7 < 3
                        ·
                          have e2 : opVal .and .i64 a2 7 = 2 := by omega
                          exact atr r18_3_2 (rw3 e0 e1 e2) iv0 w hgl
                        ·
                          have e2 : opVal .and .i64 a2 7 = 3 := by omega
                          exact atr r18_3_3 (rw3 e0 e1 e2) iv0 w hgl
                    ·
                      by_cases q11 : opVal .and .i64 a2 7 < 6
                      ·
                        by_cases q12 : opVal .and .i64 a2 7 < 5
                        ·
                          have e2 : opVal .and .i64 a2 7 = 4 := by omega
                          exact atr r18_3_4 (rw3 e0 e1 e2) iv0 w hgl
                        ·
                          have e2 : opVal .and .i64 a2 7 = 5 := by omega
                          exact atr r18_3_5 (rw3 e0 e1 e2) iv0 w hgl
                      ·
                        by_cases q12 : opVal .and .i64 a2 7 < 7
                        ·
                          have e2 : opVal .and .i64 a2 7 = 6 := by omega
                          exact atr r18_3_6 (rw3 e0 e1 e2) iv0 w hgl
                        ·
                          have e2 : opVal .and .i64 a2 7 = 7 := by omega
                          exact atr r18_3_7 (rw3 e0 e1 e2) iv0 w hgl
              ·
                by_cases q8 : opVal .and .i64 a1 7 < 6
                ·
                  by_cases q9 : opVal .and .i64 a1 7 < 5
                  ·
                    have e1 : opVal .and .i64 a1 7 = 4 := by omega
                    have g2 := rng2 a2
                    by_cases q10 : opVal .and .i64 a2 7 < 4
                    ·
                      by_cases q11 : opVal .and .i64 a2 7 < 2
                      ·
                        by_cases q12 : opVal .and .i64 a2 7 < 1
                        ·
                          have e2 : opVal .and .i64 a2 7 = 0 := by omega
                          exact atr r18_4_0 (rw3 e0 e1 e2) iv0 w hgl
                        ·
                          have e2 : opVal .and .i64 a2 7 = 1 := by omega
                          exact atr r18_4_1 (rw3 e0 e1 e2) iv0 w hgl
                      ·
                        by_cases q12 : opVal .and .i64 a2 7 < 3
                        ·
                          have e2 : opVal .and .i64 a2 7 = 2 := by omega
                          exact atr r18_4_2 (rw3 e0 e1 e2) iv0 w hgl
                        ·
                          have e2 : opVal .and .i64 a2 7 = 3 := by omega
                          exact atr r18_4_3 (rw3 e0 e1 e2) iv0 w hgl
                    ·
                      by_cases q11 : opVal .and .i64 a2 7 < 6
                      ·
                        by_cases q12 : opVal .and .i64 a2 7 < 5
                        ·
                          have e2 : opVal .and .i64 a2 7 = 4 := by omega
                          exact atr r18_4_4 (rw3 e0 e1 e2) iv0 w hgl
                        ·
                          have e2 : opVal .and .i64 a2 7 = 5 := by omega
                          exact atr r18_4_5 (rw3 e0 e1 e2) iv0 w hgl
                      ·
                        by_cases q12 : opVal .and .i64 a2 7 < 7
                        ·
                          have e2 : opVal .and .i64 a2 7 = 6 := by omega
                          exact atr r18_4_6 (rw3 e0 e1 e2) iv0 w hgl
                        ·
                          have e2 : opVal .and .i64 a2 7 = 7 := by omega
                          exact atr r18_4_7 (rw3 e0 e1 e2) iv0 w hgl
                  ·
                    have e1 : opVal .and .i64 a1 7 = 5 := by omega
                    have g2 := rng2 a2
                    by_cases q10 : opVal .and .i64 a2 7 < 4
                    ·
                      by_cases q11 : opVal .and .i64 a2 7 < 2
                      ·
                        by_cases q12 : opVal .and .i64 a2 7 < 1
                        ·
                          have e2 : opVal .and .i64 a2 7 = 0 := by omega
                          exact atr r18_5_0 (rw3 e0 e1 e2) iv0 w hgl
                        ·
                          have e2 : opVal .and .i64 a2 7 = 1 := by omega
                          exact atr r18_5_1 (rw3 e0 e1 e2) iv0 w hgl
                      ·
                        by_cases q12 : opVal .and .i64 a2 7 < 3
                        ·
                          have e2 : opVal .and .i64 a2 7 = 2 := by omega
                          exact atr r18_5_2 (rw3 e0 e1 e2) iv0 w hgl
                        ·
                          have e2 : opVal .and .i64 a2 7 = 3 := by omega
                          exact atr r18_5_3 (rw3 e0 e1 e2) iv0 w hgl
                    ·
                      by_cases q11 : opVal .and .i64 a2 7 < 6
                      ·
                        by_cases q12 : opVal .and .i64 a2 7 < 5
                        ·
                          have e2 : opVal .and .i64 a2 7 = 4 := by omega
                          exact atr r18_5_4 (rw3 e0 e1 e2) iv0 w hgl
                        ·
                          have e2 : opVal .and .i64 a2 7 = 5 := by omega
                          exact atr r18_5_5 (rw3 e0 e1 e2) iv0 w hgl
                      ·
                        by_cases q12 : opVal .and .i64 a2 7 < 7
                        ·
                          have e2 : opVal .and .i64 a2 7 = 6 := by omega
                          exact atr r18_5_6 (rw3 e0 e1 e2) iv0 w hgl
                        ·
                          have e2 : opVal .and .i64 a2 7 = 7 := by omega
                          exact atr r18_5_7 (rw3 e0 e1 e2) iv0 w hgl
                ·
                  by_cases q9 : opVal .and .i64 a1 7 < 7
                  ·
                    have e1 : opVal .and .i64 a1 7 = 6 := by omega
                    have g2 := rng2 a2
                    by_cases q10 : opVal .and .i64 a2 7 < 4
                    ·
                      by_cases q11 : opVal .and .i64 a2 7 < 2
                      ·
                        by_cases q12 : opVal .and .i64 a2 7 < 1
                        ·
                          have e2 : opVal .and .i64 a2 7 = 0 := by omega
                          exact atr r18_6_0 (rw3 e0 e1 e2) iv0 w hgl
                        ·
                          have e2 : opVal .and .i64 a2 7 = 1 := by omega
                          exact atr r18_6_1 (rw3 e0 e1 e2) iv0 w hgl
                      ·
                        by_cases q12 : opVal .and .i64 a2 7 < 3
                        ·
                          have e2 : opVal .and .i64 a2 7 = 2 := by omega
                          exact atr r18_6_2 (rw3 e0 e1 e2) iv0 w hgl
                        ·
                          have e2 : opVal .and .i64 a2 7 = 3 := by omega
                          exact atr r18_6_3 (rw3 e0 e1 e2) iv0 w hgl
                    ·
                      by_cases q11 : opVal .and .i64 a2 7 < 6
                      ·
                        by_cases q12 : opVal .and .i64 a2 7 < 5
                        ·
                          have e2 : opVal .and .i64 a2 7 = 4 := by omega
                          exact atr r18_6_4 (rw3 e0 e1 e2) iv0 w hgl
                        ·
                          have e2 : opVal .and .i64 a2 7 = 5 := by omega
                          exact atr r18_6_5 (rw3 e0 e1 e2) iv0 w hgl
                      ·
                        by_cases q12 : opVal .and .i64 a2 7 < 7
                        ·
                          have e2 : opVal .and .i64 a2 7 = 6 := by omega
                          exact atr r18_6_6 (rw3 e0 e1 e2) iv0 w hgl
                        ·
                          have e2 : opVal .and .i64 a2 7 = 7 := by omega
                          exact atr r18_6_7 (rw3 e0 e1 e2) iv0 w hgl
                  ·
                    have e1 : opVal .and .i64 a1 7 = 7 := by omega
                    have g2 := rng2 a2
                    by_cases q10 : opVal .and .i64 a2 7 < 4
                    ·
                      by_cases q11 : opVal .and .i64 a2 7 < 2
                      ·
                        by_cases q12 : opVal .and .i64 a2 7 < 1
                        ·
                          have e2 : opVal .and .i64 a2 7 = 0 := by omega
                          exact atr r18_7_0 (rw3 e0 e1 e2) iv0 w hgl
                        ·
                          have e2 : opVal .and .i64 a2 7 = 1 := by omega
                          exact atr r18_7_1 (rw3 e0 e1 e2) iv0 w hgl
                      ·
                        by_cases q12 : opVal .and .i64 a2 7 < 3
                        ·
                          have e2 : opVal .and .i64 a2 7 = 2 := by omega
                          exact atr r18_7_2 (rw3 e0 e1 e2) iv0 w hgl
                        ·
                          have e2 : opVal .and .i64 a2 7 = 3 := by omega
                          exact atr r18_7_3 (rw3 e0 e1 e2) iv0 w hgl
                    ·
                      by_cases q11 : opVal .and .i64 a2 7 < 6
                      ·
                        by_cases q12 : opVal .and .i64 a2 7 < 5
                        ·
                          have e2 : opVal .and .i64 a2 7 = 4 := by omega
                          exact atr r18_7_4 (rw3 e0 e1 e2) iv0 w hgl
                        ·
                          have e2 : opVal .and .i64 a2 7 = 5 := by omega
                          exact atr r18_7_5 (rw3 e0 e1 e2) iv0 w hgl
                      ·
                        by_cases q12 : opVal .and .i64 a2 7 < 7
                        ·
                          have e2 : opVal .and .i64 a2 7 = 6 := by omega
                          exact atr r18_7_6 (rw3 e0 e1 e2) iv0 w hgl
                        ·
                          have e2 : opVal .and .i64 a2 7 = 7 := by omega
                          exact atr r18_7_7 (rw3 e0 e1 e2) iv0 w hgl
            ·
              have e0 : opVal .rem .u64 (IntKind.wrap .u64 a0) 47 = 19 := by omega
              exact atr r19_x_x (rw1 e0) iv0 w hgl
        ·
          by_cases q5 : opVal .rem .u64 (IntKind.wrap .u64 a0) 47 < 21
          ·
            have e0 : opVal .rem .u64 (IntKind.wrap .u64 a0) 47 = 20 := by omega
            exact atr r20_x_x (rw1 e0) iv0 w hgl
          ·
            by_cases q6 : opVal .rem .u64 (IntKind.wrap .u64 a0) 47 < 22
            ·
              have e0 : opVal .rem .u64 (IntKind.wrap .u64 a0) 47 = 21 := by omega
              exact atr r21_x_x (rw1 e0) iv0 w hgl
            ·
              have e0 : opVal .rem .u64 (IntKind.wrap .u64 a0) 47 = 22 := by omega
              exact atr r22_x_x (rw1 e0) iv0 w hgl
  ·
    by_cases q2 : opVal .rem .u64 (IntKind.wrap .u64 a0) 47 < 35
    ·
      by_cases q3 : opVal .rem .u64 (IntKind.wrap .u64 a0) 47 < 29
      ·
        by_cases q4 : opVal .rem .u64 (IntKind.wrap .u64 a0) 47 < 26
        ·
          by_cases q5 : opVal .rem .u64 (IntKind.wrap .u64 a0) 47 < 24
          ·
            have e0 : opVal .rem .u64 (IntKind.wrap .u64 a0) 47 = 23 := by omega
            exact atr r23_x_x (rw1 e0) iv0 w hgl
          ·
            by_cases q6 : opVal .rem .u64 (IntKind.wrap .u64 a0) 47 < 25
            ·
              have e0 : opVal .rem .u64 (IntKind.wrap .u64 a0) 47 = 24 := by omega
              exact atr r24_x_x (rw1 e0) iv0 w hgl
            ·
              have e0 : opVal .rem .u64 (IntKind.wrap .u64 a0) 47 = 25 := by omega
              exact atr r25_x_x (rw1 e0) iv0 w hgl
        ·
          by_cases q5 : opVal .rem .u64 (IntKind.wrap .u64 a0) 47 < 27
          ·
            have e0 : opVal .rem .u64 (IntKind.wrap .u64 a0) 47 = 26 := by omega
            have g1 := rng1 a1
            by_cases q6 : opVal .and .i64 a1 7 < 4
            ·
              by_cases q7 : opVal .and .i64 a1 7 < 2
              ·
                by_cases q8 : opVal .and .i64 a1 7 < 1
                ·
                  have e1 : opVal .and .i64 a1 7 = 0 := by omega
                  have g2 := rng2 a2
                  by_cases q9 : opVal .and .i64 a2 7 < 4
                  ·
                    by_cases q10 : opVal .and .i64 a2 7 < 2
                    ·
                      by_cases q11 : opVal .and .i64 a2 7 < 1
                      ·
                        have e2 : opVal .and .i64 a2 7 = 0 := by omega
                        exact atr r26_0_0 (rw3 e0 e1 e2) iv0 w hgl
                      ·
                        have e2 : opVal .and .i64 a2 7 = 1 := by omega
                        exact atr r26_0_1 (rw3 e0 e1 e2) iv0 w hgl
                    ·
                      by_cases q11 : opVal .and .i64 a2 7 < 3
                      ·
                        have e2 : opVal .and .i64 a2 7 = 2 := by omega
                        exact atr r26_0_2 (rw3 e0 e1 e2) iv0 w hgl
                      ·
                        have e2 : opVal .and .i64 a2 7 = 3 := by omega
                        exact atr r26_0_3 (rw3 e0 e1 e2) iv0 w hgl
                  ·
                    by_cases q10 : opVal .and .i64 a2 7 < 6
                    ·
                      by_cases q11 : opVal .and .i64 a2 7 < 5
                      ·
                        have e2 : opVal .and .i64 a2 7 = 4 := by omega
                        exact atr r26_0_4 (rw3 e0 e1 e2) iv0 w hgl
                      ·
                        have e2 : opVal .and .i64 a2 7 = 5 := by omega
                        exact atr r26_0_5 (rw3 e0 e1 e2) iv0 w hgl
                    ·
                      by_cases q11 : opVal .and .i64 a2 7 < 7
                      ·
                        have e2 : opVal .and .i64 a2 7 = 6 := by omega
                        exact atr r26_0_6 (rw3 e0 e1 e2) iv0 w hgl
                      ·
                        have e2 : opVal .and .i64 a2 7 = 7 := by omega
                        exact atr r26_0_7 (rw3 e0 e1 e2) iv0 w hgl
                ·
                  have e1 : opVal .and .i64 a1 7 = 1 := by omega
                  have g2 := rng2 a2
                  by_cases q9 : opVal .and .i64 a2 7 < 4
                  ·
                    by_cases q10 : opVal .and .i64 a2 7 < 2
                    ·
                      by_cases q11 : opVal .and .i64 a2 7 < 1
                      ·
                        have e2 : opVal .and .i64 a2 7 = 0 := by omega
                        exact atr r26_1_0 (rw3 e0 e1 e2) iv0 w hgl
                      ·
                        have e2 : opVal .and .i64 a2 7 = 1 := by omega
                        exact atr r26_1_1 (rw3 e0 e1 e2) iv0 w hgl
                    ·
                      by_cases q11 : opVal .and .i64 a2 7 < 3
                      ·
                        have e2 : opVal .and .i64 a2 7 = 2 := by omega
                        exact atr r26_1_2 (rw3 e0 e1 e2) iv0 w hgl
                      ·
                        have e2 : opVal .and .i64 a2 7 = 3 := by omega
                        exact atr r26_1_3 (rw3 e0 e1 e2) iv0 w hgl
                  ·
                    by_cases q10 : opVal .and .i64 a2 7 < 6
                    ·
                      by_cases q11 : opVal .and .i64 a2 7 < 5
                      ·
                        have e2 : opVal .and .i64 a2 7 = 4 := by omega
                        exact atr r26_1_4 (rw3 e0 e1 e2) iv0 w hgl
                      ·
                        have e2 : opVal .and .i64 a2 7 = 5 := by omega
                        exact atr r26_1_5 (rw3 e0 e1 e2) iv0 w hgl
                    ·
                      by_cases q11 : opVal .and .i64 a2 7 < 7
                      ·
                        have e2 : opVal .and .i64 a2 7 = 6 := by omega
                        exact atr r26_1_6 (rw3 e0 e1 e2) iv0 w hgl
                      ·
                        have e2 : opVal .and .i64 a2 7 = 7 := by omega
                        exact atr r26_1_7 (rw3 e0 e1 e2) iv0 w hgl
              ·
                by_cases q8 : opVal .and .i64 a1 7 < 3
                ·
                  have e1 : opVal .and .i64 a1 7 = 2 := by omega
                  have g2 := rng2 a2
                  by_cases q9 : opVal .and .i64 a2 7 < 4
                  ·
                    by_cases q10 : opVal .and .i64 a2 7 < 2
                    ·
                      by_cases q11 : opVal .and .i64 a2 7 < 1
                      ·
                        have e2 : opVal .and .i64 a2 7 = 0 := by omega
                        exact atr r26_2_0 (rw3 e0 e1 e2) iv0 w hgl
                      ·
                        have e2 : opVal .and .i64 a2 7 = 1 := by omega
                        exact atr r26_2_1 (rw3 e0 e1 e2) iv0 w hgl
                    ·
                      by_cases q11 : opVal .and .i64 a2 7 < 3
                      ·
                        have e2 : opVal .and .i64 a2 7 = 2 := by omega
                        exact atr r26_2_2 (rw3 e0 e1 e2) iv0 w hgl
                      ·
                        have e2 : opVal .and .i64 a2 7 = 3 := by omega
                        exact atr r26_2_3 (rw3 e0 e1 e2) iv0 w hgl
                  ·
                    by_cases q10 : opVal .and .i64 a2 7 < 6
                    ·
                      by_cases q11 : opVal .and .i64 a2 7 < 5
                      ·
                        have e2 : opVal .and .i64 a2 7 = 4 := by omega
                        exact atr r26_2_4 (rw3 e0 e1 e2) iv0 w hgl
                      ·
                        have e2 : opVal .and .i64 a2 7 = 5 := by omega
                        exact atr r26_2_5 (rw3 e0 e1 e2) iv0 w hgl
                    ·
                      by_cases q11 : opVal .and .i64 a2 7 < 7
                      ·
                        have e2 : opVal .and .i64 a2 7 = 6 := by omega
                        exact atr r26_2_6 (rw3 e0 e1 e2) iv0 w hgl
                      ·
                        have e2 : opVal .and .i64 a2 7 = 7 := by omega
                        exact atr r26_2_7 (rw3 e0 e1 e2) iv0 w hgl
                ·
                  have e1 : opVal .and .i64 a1 7 = 3 := by omega
                  have g2 := rng2 a2
                  by_cases q9 : opVal .and .i64 a2 7 < 4
                  ·
                    by_cases q10 : opVal .and .i64 a2 7 < 2
                    ·
                      by_cases q11 : opVal .and .i64 a2 7 < 1
                      ·
                        have e2 : opVal .and .i64 a2 7 = 0 := by omega
                        exact atr r26_3_0 (rw3 e0 e1 e2) iv0 w hgl
                      ·
                        have e2 : opVal .and .i64 a2 7 = 1 := by omega
                        exact atr r26_3_1 (rw3 e0 e1 e2) iv0 w hgl
                    ·
                      by_cases q11 : opVal .and .i64 a2 7 < 3
                      ·
                        have e2 : opVal .and .i64 a2 7 = 2 := by omega
                        exact atr r26_3_2 (rw3 e0 e1 e2) iv0 w hgl
                      ·
                        have e2 : opVal .and .i64 a2 7 = 3 := by omega
                        exact atr r26_3_3 (rw3 e0 e1 e2) iv0 w hgl
                  ·
                    by_cases q10 : opVal .and .i64 a2 7 < 6
                    ·
                      by_cases q11 : opVal .and .i64 a2 7 < 5
                      ·
                        have e2 : opVal .and .i64 a2 7 = 4 := by omega
                        exact atr r26_3_4 (rw3 e0 e1 e2) iv0 w hgl
                      ·
                        have e2 : opVal .and .i64 a2 7 = 5 := by omega
                        exact atr r26_3_5 (rw3 e0 e1 e2) iv0 w hgl
                    ·
                      by_cases q11 : opVal .and .i64 a2 7 < 7
                      ·
                        have e2 : opVal .and .i64 a2 7 = 6 := by omega
                        exact atr r26_3_6 (rw3 e0 e1 e2) iv0 w hgl
                      ·
                        have e2 : opVal .and .i64 a2 7 = 7 := by omega
                        exact atr r26_3_7 (rw3 e0 e1 e2) iv0 w hgl
            ·
              by_cases q7 : opVal .and .i64 a1 7 < 6
              ·
                by_cases q8 : opVal .and .i64 a1 7 < 5
                ·
                  have e1 : opVal .and .i64 a1 7 = 4 := by omega
                  have g2 := rng2 a2
                  by_cases q9 : opVal .and .i64 a2 7 < 4
                  ·
                    by_cases q10 : opVal .and .i64 a2 7 < 2
                    ·
                      by_cases q11 : opVal .and .i64 a2 7 < 1
                      ·
                        have e2 : opVal .and .i64 a2 7 = 0 := by omega
                        exact atr r26_4_0 (rw3 e0 e1 e2) iv0 w hgl
                      ·
                        have e2 : opVal .and .i64 a2 7 = 1 := by omega
                        exact atr r26_4_1 (rw3 e0 e1 e2) iv0 w hgl
                    ·
                      by_cases q11 : opVal .and .i64 a2 7 < 3
                      ·
                        have e2 : opVal .and .i64 a2 7 = 2 := by omega
                        exact atr r26_4_2 (rw3 e0 e1 e2) iv0 w hgl
                      ·
                        have e2 : opVal .and .i64 a2 7 = 3 := by omega
                        exact atr r26_4_3 (rw3 e0 e1 e2) iv0 w hgl
                  ·
                    by_cases q10 : opVal .and .i64 a2 7 < 6
                    ·
                      by_cases q11 : opVal .and .i64 a2 7 < 5
                      ·
                        have e2 : opVal .and .i64 a2 7 = 4 := by omega
                        exact atr r26_4_4 (rw3 e0 e1 e2) iv0 w hgl
                      ·
                        have e2 : opVal .and .i64 a2 7 = 5 := by omega
                        exact atr r26_4_5 (rw3 e0 e1 e2) iv0 w hgl
                    ·
                      by_cases q11 : opVal .and .i64 a2 7 < 7
                      ·
                        have e2 : opVal .and .i64 a2 7 = 6 := by omega
                        exact atr r26_4_6 (rw3 e0 e1 e2) iv0 w hgl
                      ·
                        have e2 : opVal .and .i64 a2 7 = 7 := by omega
                        exact atr r26_4_7 (rw3 e0 e1 e2) iv0 w hgl
                ·
                  have e1 : opVal .and .i64 a1 7 = 5 := by omega
                  have g2 := rng2 a2
                  by_cases q9 : opVal .and .i64 a2 7 < 4
                  ·
                    by_cases q10 : opVal .and .i64 a2 7 < 2
                    ·
                      by_cases q11 : opVal .and .i64 a2 7 < 1
                      ·
                        have e2 : opVal .and .i64 a2 7 = 0 := by omega
                        exact atr r26_5_0 (rw3 e0 e1 e2) iv0 w hgl
                      ·
                        have e2 : opVal .and .i64 a2 7 = 1 := by omega
                        exact atr r26_5_1 (rw3 e0 e1 e2) iv0 w hgl
                    ·
                      by_cases q11 : opVal .and .i64 a2 7 < 3
                      ·
                        have e2 : opVal .and .i64 a2 7 = 2 := by omega
                        exact atr r26_5_2 (rw3 e0 e1 e2) iv0 w hgl
                      ·
                        have e2 : opVal .and .i64 a2 7 = 3 := by omega
                        exact atr r26_5_3 (rw3 e0 e1 e2) iv0 w hgl
                  ·
                    by_cases q10 : opVal .and .i64 a2 7 < 6
                    ·
                      by_cases q11 : opVal .and .i64 a2 7 < 5
                      ·
                        have e2 : opVal .and .i64 a2 7 = 4 := by omega
                        exact atr r26_5_4 (rw3 e0 e1 e2) iv0 w hgl
                      ·
                        have e2 : opVal .and .i64 a2 7 = 5 := by omega
                        exact atr r26_5_5 (rw3 e0 e1 e2) iv0 w hgl
                    ·
                      by_cases q11 : opVal .and .i64 a2 7 < 7
                      ·
                        have e2 : opVal .and .i64 a2 7 = 6 := by omega
                        exact atr r26_5_6 (rw3 e0 e1 e2) iv0 w hgl
                      ·
                        have e2 : opVal .and .i64 a2 7 = 7 := by omega
                        exact atr r26_5_7 (rw3 e0 e1 e2) iv0 w hgl
              ·
                by_cases q8 : opVal .and .i64 a1 7 < 7
                ·
                  have e1 : opVal .and .i64 a1 7 = 6 := by omega
                  have g2 := rng2 a2
                  by_cases q9 : opVal .and .i64 a2 7 < 4
                  ·
                    by_cases q10 : opVal .and .i64 a2 7 < 2
                    ·
                      by_cases q11 : opVal .and .i64 a2 7 < 1
                      ·
                        have e2 : opVal .and .i64 a2 7 = 0 := by omega
                        exact atr r26_6_0 (rw3 e0 e1 e2) iv0 w hgl
                      ·
                        have e2 : opVal .and .i64 a2 7 = 1 := by omega
                        exact atr r26_6_1 (rw3 e0 e1 e2) iv0 w hgl
                    ·
                      by_cases q11 : opVal .and .i64 a2 7 < 3
                      ·
                        have e2 : opVal .and .i64 a2 7 = 2 := by omega
                        exact atr r26_6_2 (rw3 e0 e1 e2) iv0 w hgl
                      ·
                        have e2 : opVal .and .i64 a2 7 = 3 := by omega
                        exact atr r26_6_3 (rw3 e0 e1 e2) iv0 w hgl
                  ·
                    by_cases q10 : opVal .and .i64 a2 7 < 6
                    ·
                      by_cases q11 : opVal .and .i64 a2 7 < 5
                      ·
                        have e2 : opVal .and .i64 a2 7 = 4 := by omega
                        exact atr r26_6_4 (rw3 e0 e1 e2) iv0 w hgl
                      ·
                        have e2 : opVal .and .i64 a2 7 = 5 := by omega
                        exact atr r26_6_5 (rw3 e0 e1 e2) iv0 w hgl
                    ·
                      by_cases q11 : opVal .and .i64 a2 7 < 7
                      ·
                        have e2 : opVal .and .i64 a2 7 = 6 := by omega
                        exact atr r26_6_6 (rw3 e0 e1 e2) iv0 w hgl
                      ·
                        have e2 : opVal .and .i64 a2 7 = 7 := by omega
                        exact atr r26_6_7 (rw3 e0 e1 e2) iv0 w hgl
                ·
                  have e1 : opVal .and .i64 a1 7 = 7 := by omega
                  have g2 := rng2 a2
                  by_cases q9 : opVal .and .i64 a2 7 < 4
                  ·
                    by_cases q10 : opVal .and .i64 a2 7 < 2
                    ·
                      by_cases q11 : opVal .and .i64 a2 7 < 1
                      ·
                        have e2 : opVal .and .i64 a2 7 = 0 := by omega
                        exact atr r26_7_0 (rw3 e0 e1 e2) iv0 w hgl
                      ·
                        have e2 : opVal .and .i64 a2 7 = 1 := by omega
                        exact atr r26_7_1 (rw3 e0 e1 e2) iv0 w hgl
                    ·
                      by_cases q11 : opVal .and .i64 a2 7 < 3
                      ·
                        have e2 : opVal .and .i64 a2 7 = 2 := by omega
                        exact atr r26_7_2 (rw3 e0 e1 e2) iv0 w hgl
                      ·
                        have e2 : opVal .and .i64 a2 7 = 3 := by omega
                        exact atr r26_7_3 (rw3 e0 e1 e2) iv0 w hgl
                  ·
                    by_cases q10 : opVal .and .i64 a2 7 < 6
                    ·
                      by_cases q11 : opVal .and .i64 a2 7 < 5
                      ·
                        have e2 : opVal .and .i64 a2 7 = 4 := by omega
                        exact atr r26_7_4 (rw3 e0 e1 e2) iv0 w hgl
                      ·
                        have e2 : opVal .and .i64 a2 7 = 5 := by omega
                        exact atr r26_7_5 (rw3 e0 e1 e2) iv0 w hgl
                    ·
                      by_cases q11 : opVal .and .i64 a2 7 < 7
                      ·
                        have e2 : opVal .and .i64 a2 7 = 6 := by omega
                        exact atr r26_7_6 (rw3 e0 e1 e2) iv0 w hgl
                      ·
                        have e2 : opVal .and .i64 a2 7 = 7 := by omega
                        exact atr r26_7_7 (rw3 e0 e1 e2) iv0 w hgl
          ·
            by_cases q6 : opVal .rem .u64 (IntKind.wrap .u64 a0) 47 < 28
            ·
              have e0 : opVal .rem .u64 (IntKind.wrap .u64 a0) 47 = 27 := by omega
              have g1 := rng1 a1
              by_cases q7 : opVal .and .i64 a1 7 < 4
              ·
                by_cases q8 : opVal .and .i64 a1 7 < 2
                ·
                  by_cases q9 : opVal .and .i64 a1 7 < 1
                  ·
                    have e1 : opVal .and .i64 a1 7 = 0 := by omega
                    have g2 := rng2 a2
                    by_cases q10 : opVal .and .i64 a2 7 < 4
                    ·
                      by_cases q11 : opVal .and .i64 a2 7 < 2
                      ·
                        by_cases q12 : opVal .and .i64 a2 7 < 1
                        ·
                          have e2 : opVal .and .i64 a2 7 = 0 := by omega
                          exact atr r27_0_0 (rw3 e0 e1 e2) iv0 w hgl
                        ·
                          have e2 : opVal .and .i64 a2 7 = 1 := by omega
                          exact atr r27_0_1 (rw3 e0 e1 e2) iv0 w hgl
                      ·
                        by_cases q12 : opVal .and .i64 a2 7 < 3
                        ·
                          have e2 : opVal .and .i64 a2 7 = 2 := by omega
                          exact atr r27_0_2 (rw3 e0 e1 e2) iv0 w hgl
                        ·
                          have e2 : opVal .and .i64 a2 7 = 3 := by omega
                          exact atr r27_0_3 (rw3 e0 e1 e2) iv0 w hgl
                    ·
                      by_cases q11 : opVal .and .i64 a2 7 < 6
                      ·
                        by_cases q12 : opVal .and .i64 a2 7 < 5
                        ·
                          have e2 : opVal .and .i64 a2 7 = 4 := by omega
                          exact atr r27_0_4 (rw3 e0 e1 e2) iv0 w hgl
                        ·
                          have e2 : opVal .and .i64 a2 7 = 5 := by omega
                          exact atr r27_0_5 (rw3 e0 e1 e2) iv0 w hgl
                      ·
                        by_cases q12 : opVal .and .i64 a2 7 < 7
                        ·
                          have e2 : opVal .and .i64 a2 7 = 6 := by omega
                          exact atr r27_0_6 (rw3 e0 e1 e2) iv0 w hgl
                        ·
                          have e2 : opVal .and .i64 a2 7 = 7 := by omega
                          exact atr r27_0_7 (rw3 e0 e1 e2) iv0 w hgl
                  ·
                    have e1 : opVal .and .i64 a1 7 = 1 := by omega
                    have g2 := rng2 a2
                    by_cases q10 : opVal .and .i64 a2 7 < 4
                    ·
                      by_cases q11 : opVal .and .i64 a2 7 < 2
                      ·
                        by_cases q12 : opVal .and .i64 a2 7 < 1
                        ·
                          have e2 : opVal .and .i64 a2 7 = 0 := by omega
                          exact atr r27_1_0 (rw3 e0 e1 e2) iv0 w hgl
                        ·
                          have e2 : opVal .and .i64 a2 7 = 1 := by omega
                          exact atr r27_1_1 (rw3 e0 e1 e2) iv0 w hgl
                      ·
                        by_cases q12 : opVal .and .i64 a2 7 < 3
                        ·
                          have e2 : opVal .and .i64 a2 7 = 2 := by omega
                          exact atr r27_1_2 (rw3 e0 e1 e2) iv0 w hgl
                        ·
                          have e2 : opVal .and .i64 a2 7 = 3 := by omega
                          exact atr r27_1_3 (rw3 e0 e1 e2) iv0 w hgl
                    ·
                      by_cases q11 : opVal .and .i64 a2 7 < 6
                      ·
                        by_cases q12 : opVal .and .i64 a2 7 < 5
                        ·
                          have e2 : opVal .and .i64 a2 7 = 4 := by omega
                          exact atr r27_1_4 (rw3 e0 e1 e2) iv0 w hgl
                        ·
                          have e2 : opVal .and .i64 a2 7 = 5 := by omega
                          exact atr r27_1_5 (rw3 e0 e1 e2) iv0 w hgl
                      ·
                        by_cases q12 : opVal .and .i64 a2 7 < 7
                        ·
                          have e2 : opVal .and .i64 a2 7 = 6 := by omega
                          exact atr r27_1_6 (rw3 e0 e1 e2) iv0 w hgl
                        ·
                          have e2 : opVal .and .i64 a2 7 = 7 := by omega
                          exact atr r27_1_7 (rw3 e0 e1 e2) iv0 w hgl
                ·
                  by_cases q9 : opVal .and .i64 a1 7 < 3
                  ·
                    have e1 : opVal .and .i64 a1 7 = 2 := by omega
                    have g2 := rng2 a2
                    by_cases q10 : opVal .and .i64 a2 7 < 4
                    ·
                      by_cases q11 : opVal .and .i64 a2 7 < 2
                      ·
                        by_cases q12 : opVal .and .i64 a2 7 < 1
                        ·
                          have e2 : opVal .and .i64 a2 7 = 0 := by omega
                          exact atr r27_2_0 (rw3 e0 e1 e2) iv0 w hgl
                        ·
                          have e2 : opVal .and .i64 a2 7 = 1 := by omega
                          exact atr r27_2_1 (rw3 e0 e1 e2) iv0 w hgl
                      ·
                        by_cases q12 : opVal .and .i64 a2 7 < 3
                        ·
                          have e2 : opVal .and .i64 a2 7 = 2 := by omega
                          exact atr r27_2_2 (rw3 e0 e1 e2) iv0 w hgl
                        ·
                          have e2 : opVal .and .i64 a2 7 = 3 := by omega
                          exact atr r27_2_3 (rw3 e0 e1 e2) iv0 w hgl
                    ·
                      by_cases q11 : opVal .and .i64 a2 7 < 6
                      ·
                        by_cases q12 : opVal .and .i64 a2 7 < 5
                        ·
                          have e2 : opVal .and .i64 a2 7 = 4 := by omega
                          exact atr r27_2_4 (rw3 e0 e1 e2) iv0 w hgl
                        ·
                          have e2 : opVal .and .i64 a2 7 = 5 := by omega
                          exact atr r27_2_5 (rw3 e0 e1 e2) iv0 w hgl
                      ·
                        by_cases q12 : opVal .and .i64 a2 7 < 7
                        ·
                          have e2 : opVal .and .i64 a2 7 = 6 := by omega
                          exact atr r27_2_6 (rw3 e0 e1 e2) iv0 w hgl
                        ·
                          have e2 : opVal .and .i64 a2 7 = 7 := by omega
                          exact atr r27_2_7 (rw3 e0 e1 e2) iv0 w hgl
                  ·
                    have e1 : opVal .and .i64 a1 7 = 3 := by omega
                    have g2 := rng2 a2
                    by_cases q10 : opVal .and .i64 a2 7 < 4
                    ·
                      by_cases q11 : opVal .and .i64 a2 7 < 2
                      ·
                        by_cases q12 : opVal .and .i64 a2 7 < 1
                        ·
                          have e2 : opVal .and .i64 a2 7 = 0 := by omega
                          exact atr r27_3_0 (rw3 e0 e1 e2) iv0 w hgl
                        ·
                          have e2 : opVal .and .i64 a2 7 = 1 := by omega
                          exact atr r27_3_1 (rw3 e0 e1 e2) iv0 w hgl
                      ·
                        by_cases q12 : opVal .and .i64 a2 7 < 3
                        ·
                          have e2 : opVal .and .i64 a2 7 = 2 := by omega
                          exact atr r27_3_2 (rw3 e0 e1 e2) iv0 w hgl
                        ·
                          have e2 : opVal .and .i64 a2 7 = 3 := by omega
                          exact atr r27_3_3 (rw3 e0 e1 e2) iv0 w hgl
                    ·
                      by_cases q11 : opVal .and .i64 a2 7 < 6
                      ·
                        by_cases q12 : opVal .and .i64 a2 7 < 5
                        ·
                          have e2 : opVal .and .i64 a2 7 = 4 := by omega
                          exact atr r27_3_4 (rw3 e0 e1 e2) iv0 w hgl
                        ·
                          have e2 : opVal .and .i64 a2 7 = 5 := by omega
                          exact atr r27_3_5 (rw3 e0 e1 e2) iv0 w hgl
                      ·
                        by_cases q12 : opVal .and .i64 a2 7 < 7
                        ·
                          have e2 : opVal .and .i64 a2 7 = 6 := by omega
                          exact atr r27_3_6 (rw3 e0 e1 e2) iv0 w hgl
                        ·
                          have e2 : opVal .and .i64 a2 7 = 7 := by omega
                          exact atr r27_3_7 (rw3 e0 e1 e2) iv0 w hgl
              ·
                by_cases q8 : opVal .and .i64 a1 7 < 6
                ·
                  by_cases q9 : opVal .and .i64 a1 7 < 5
                  ·
                    have e1 : opVal .and .i64 a1 7 = 4 := by omega
                    have g2 := rng2 a2
                    by_cases q10 : opVal .and .i64 a2 7 < 4
                    ·
                      by_cases q11 : opVal .and .i64 a2 7 < 2
                      ·
                        by_cases q12 : opVal .and .i64 a2 7 < 1
                        ·
                          have e2 : opVal .and .i64 a2 7 = 0 := by omega
                          exact atr r27_4_0 (rw3 e0 e1 e2) iv0 w hgl
                        ·
                          have e2 : opVal .and .i64 a2 7 = 1 := by omega
                          exact atr r27_4_1 (rw3 e0 e1 e2) iv0 w hgl
                      ·
                        by_cases q12 : opVal .and .i64 a2 7 < 3
                        ·
                          have e2 : opVal .and .i64 a2 7 = 2 := by omega
                          exact atr r27_4_2 (rw3 e0 e1 e2) iv0 w hgl
                        ·
                          have e2 : opVal .and .i64 a2 7 = 3 := by omega
                          exact atr r27_4_3 (rw3 e0 e1 e2) iv0 w hgl
                    ·
                      by_cases q11 : opVal .and .i64 a2 7 < 6
                      ·
                        by_cases q12 : opVal .and .i64 a2 7 < 5
                        ·
                          have e2 : opVal .and .i64 a2 7 = 4 := by omega
                          exact atr r27_4_4 (rw3 e0 e1 e2) iv0 w hgl
                        ·
                          have e2 : opVal .and .i64 a2 7 = 5 := by omega
                          exact atr r27_4_5 (rw3 e0 e1 e2) iv0 w hgl
                      ·
                        by_cases q12 : opVal .and .i64 a2 7 < 7
                        ·
                          have e2 : opVal .and .i64 a2 7 = 6 := by omega
                          exact atr r27_4_6 (rw3 e0 e1 e2) iv0 w hgl
                        ·
                          have e2 : opVal .and .i64 a2 7 = 7 := by omega
                          exact atr r27_4_7 (rw3 e0 e1 e2) iv0 w hgl
                  ·
                    have e1 : opVal .and .i64 a1 7 = 5 := by omega
                    have g2 := rng2 a2
                    by_cases q10 : opVal .and .i64 a2 7 < 4
                    ·
                      by_cases q11 : opVal .and .i64 a2 7 < 2
                      ·
                        by_cases q12 : opVal .and .i64 a2 7 < 1
                        ·
                          have e2 : opVal .and .i64 a2 7 = 0 := by omega
                          exact atr r27_5_0 (rw3 e0 e1 e2) iv0 w hgl
                        ·
                          have e2 : opVal .and .i64 a2 7 = 1 := by omega
                          exact atr r27_5_1 (rw3 e0 e1 e2) iv0 w hgl
                      ·
                        by_cases q12 : opVal .and .i64 a2 7 < 3
                        ·
                          have e2 : opVal .and .i64 a2 7 = 2 := by omega
                          exact atr r27_5_2 (rw3 e0 e1 e2) iv0 w hgl
                        ·
                          have e2 : opVal .and .i64 a2 7 = 3 := by omega
                          exact atr r27_5_3 (rw3 e0 e1 e2) iv0 w hgl
                    ·
                      by_cases q11 : opVal .and .i64 a2 7 < 6
                      ·
                        by_cases q12 : opVal .and .i64 a2 7 < 5
                        ·
                          have e2 : opVal .and .i64 a2 7 = 4 := by omega
                          exact atr r27_5_4 (rw3 e0 e1 e2) iv0 w hgl
                        ·
                          have e2 : opVal .and .i64 a2 7 = 5 := by omega
                          exact atr r27_5_5 (rw3 e0 e1 e2) iv0 w hgl
                      ·
                        by_cases q12 : opVal .and .i64 a2 7 < 7
                        ·
                          have e2 : opVal .and .i64 a2 7 = 6 := by omega
                          exact atr r27_5_6 (rw3 e0 e1 e2) iv0 w hgl
                        ·
                          have e2 : opVal .and .i64 a2 7 = 7 := by omega
                          exact atr r27_5_7 (rw3 e0 e1 e2) iv0 w hgl
                ·
                  by_cases q9 : opVal .and .i64 a1 7 < 7
                  ·
                    have e1 : opVal .and .i64 a1 7 = 6 := by omega
                    have g2 := rng2 a2
                    by_cases q10 : opVal .and .i64 a2 7 < 4
                    ·
                      by_cases q11 : opVal .and .i64 a2 7 < 2
                      ·
                        by_cases q12 : opVal .and .i64 a2 7 < 1
                        ·
                          have e2 : opVal .and .i64 a2 7 = 0 := by omega
                          exact atr r27_6_0 (rw3 e0 e1 e2) iv0 w hgl
                        ·
                          have e2 : opVal .and .i64 a2 7 = 1 := by omega
                          exact atr r27_6_1 (rw3 e0 e1 e2) iv0 w hgl
                      ·
                        by_cases q12 : opVal .and .i64 a2 7 < 3
                        ·
                          have e2 : opVal .and .i64 a2 7 = 2 := by omega
                          exact atr r27_6_2 (rw3 e0 e1 e2) iv0 w hgl
                        ·
                          have e2 : opVal .and .i64 a2 7 = 3 := by omega
                          exact atr r27_6_3 (rw3 e0 e1 e2) iv0 w hgl
                    ·
                      by_cases q11 : opVal .and .i64 a2 7 < 6
                      ·
                        by_cases q12 : opVal .and .i64 a2 7 < 5
                        ·
                          have e2 : opVal .and .i64 a2 7 = 4 := by omega
                          exact atr r27_6_4 (rw3 e0 e1 e2) iv0 w hgl
                        ·
                          have e2 : opVal .and .i64 a2 7 = 5 := by omega
                          exact atr r27_6_5 (rw3 e0 e1 e2) iv0 w hgl
                      ·
                        by_cases q12 : opVal .and .i64 a2 7 < 7
                        ·
                          have e2 : opVal .and .i64 a2 7 = 6 := by omega
                          exact atr r27_6_6 (rw3 e0 e1 e2) iv0 w hgl
                        ·
                          have e2 : opVal .and .i64 a2 7 = 7 := by omega
                          exact atr r27_6_7 (rw3 e0 e1 e2) iv0 w hgl
                  ·
                    have e1 : opVal .and .i64 a1 7 = 7 := by omega
                    have g2 := rng2 a2
                    by_cases q10 : opVal .and .i64 a2 7 < 4
                    ·
                      by_cases q11 : opVal .and .i64 a2 7 < 2
                      ·
                        by_cases q12 : opVal .and .i64 a2 7 < 1
                        ·
                          have e2 : opVal .and .i64 a2 7 = 0 := by omega
                          exact atr r27_7_0 (rw3 e0 e1 e2) iv0 w hgl
                        ·
                          have e2 : opVal .and .i64 a2 7 = 1 := by omega
                          exact atr r27_7_1 (rw3 e0 e1 e2) iv0 w hgl
                      ·
                        by_cases q12 : opVal .and .i64 a2 7 < 3
                        ·
                          have e2 : opVal .and .i64 a2 7 = 2 := by omega
                          exact atr r27_7_2 (rw3 e0 e1 e2) iv0 w hgl
                        ·
                          have e2 : opVal .and .i64 a2 7 = 3 := by omega
                          exact atr r27_7_3 (rw3 e0 e1 e2) iv0 w hgl
                    ·
                      by_cases q11 : opVal .and .i64 a2 7 < 6
                      ·
                        by_cases q12 : opVal .and .i64 a2 7 < 5
                        ·
                          have e2 : opVal .and .i64 a2 7 = 4 := by omega
                          exact atr r27_7_4 (rw3 e0 e1 e2) iv0 w hgl
                        ·
                          have e2 : opVal .and .i64 a2 7 = 5 := by omega
                          exact atr r27_7_5 (rw3 e0 e1 e2) iv0 w hgl
                      ·
                        by_cases q12 : opVal .and .i64 a2 7 < 7
                        ·
                          have e2 : opVal .and .i64 a2 7 = 6 := by omega
                          exact atr r27_7_6 (rw3 e0 e1 e2) iv0 w hgl
                        ·
                          have e2 : opVal .and .i64 a2 7 = 7 := by omega
                          exact atr r27_7_7 (rw3 e0 e1 e2) iv0 w hgl
            ·
              have e0 : opVal .rem .u64 (IntKind.wrap .u64 a0) 47 = 28 := by omega
              have g1 := rng1 a1
              by_cases q7 : opVal .and .i64 a1 7 < 4
              ·
                by_cases q8 : opVal .and .i64 a1 7 < 2
                ·
                  by_cases q9 : opVal .and .i64 a1 7 < 1
                  ·
                    have e1 : opVal .and .i64 a1 7 = 0 := by omega
                    have g2 := rng2 a2
                    by_cases q10 : opVal .and .i64 a2 7 < 4
                    ·
                      by_cases q11 : opVal .and .i64 a2 7 < 2
                      ·
                        by_cases q12 : opVal .and .i64 a2 7 < 1
                        ·
                          have e2 : opVal .and .i64 a2 7 = 0 := by omega
                          exact atr r28_0_0 (rw3 e0 e1 e2) iv0 w hgl
                        ·
                          have e2 : opVal .and .i64 a2 7 = 1 := by omega
                          exact atr r28_0_1 (rw3 e0 e1 e2) iv0 w hgl
                      ·
                        by_cases q12 : opVal .and .i64 a2 7 < 3
                        ·
                          have e2 : opVal .and .i64 a2 7 = 2 := by omega
                          exact atr r28_0_2 (rw3 e0 e1 e2) iv0 w hgl
                        ·
                          have e2 : opVal .and .i64 a2 7 = 3 := by omega
                          exact atr r28_0_3 (rw3 e0 e1 e2) iv0 w hgl
                    ·
                      by_cases q11 : opVal .and .i64 a2 7 < 6
                      ·
                        by_cases q12 : opVal .and .i64 a2 7 < 5
                        ·
                          have e2 : opVal .and .i64 a2 7 = 4 := by omega
                          exact atr r28_0_4 (rw3 e0 e1 e2) iv0 w hgl
                        ·
                          have e2 : opVal .and .i64 a2 7 = 5 := by omega
                          exact atr r28_0_5 (rw3 e0 e1 e2) iv0 w hgl
                      ·
                        by_cases q12 : opVal .and .i64 a2 7 < 7
                        ·
                          have e2 : opVal .and .i64 a2 7 = 6 := by omega
                          exact atr r28_0_6 (rw3 e0 e1 e2) iv0 w hgl
                        ·
                          have e2 : opVal .and .i64 a2 7 = 7 := by omega
                          exact atr r28_0_7 (rw3 e0 e1 e2) iv0 w hgl
                  ·
                    have e1 : opVal .and .i64 a1 7 = 1 := by omega
                    have g2 := rng2 a2
                    by_cases q10 : opVal .and .i64 a2 7 < 4
                    ·
                      by_cases q11 : opVal .and .i64 a2 7 < 2
                      ·
                        by_cases q12 : opVal .and .i64 a2 7 < 1
                        ·
                          have e2 : opVal .and .i64 a2 7 = 0 := by omega
                          exact atr r28_1_0 (rw3 e0 e1 e2) iv0 w hgl
                        ·
                          have e2 : opVal .and .i64 a2 7 = 1 := by omega
                          exact atr r28_1_1 (rw3 e0 e1 e2) iv0 w hgl
                      ·
                        by_cases q12 : opVal .and .i64 a2 7 < 3
                        ·
                          have e2 : opVal .and .i64 a2 7 = 2 := by omega
                          exact atr r28_1_2 (rw3 e0 e1 e2) iv0 w hgl
                        ·
                          have e2 : opVal .and .i64 a2 7 = 3 := by omega
                          exact atr r28_1_3 (rw3 e0 e1 e2) iv0 w hgl
                    ·
                      by_cases q11 : opVal .and .i64 a2 7 < 6
                      ·
                        by_cases q12 : opVal .and .i64 a2 7 < 5
                        ·
                          have e2 : opVal .and .i64 a2 7 = 4 := by omega
                          exact atr r28_1_4 (rw3 e0 e1 e2) iv0 w hgl
                        ·
                          have e2 : opVal .and .i64 a2 7 = 5 := by omega
                          exact atr r28_1_5 (rw3 e0 e1 e2) iv0 w hgl
                      ·
                        by_cases q12 : opVal .and .i64 a2 7 < 7
                        ·
                          have e2 : opVal .and .i64 a2 7 = 6 := by omega
                          exact atr r28_1_6 (rw3 e0 e1 e2) iv0 w hgl
                        ·
                          have e2 : opVal .and .i64 a2 7 = 7 := by omega
                          exact atr r28_1_7 (rw3 e0 e1 e2) iv0 w hgl
                ·
                  by_cases q9 : opVal .and .i64 a1 7 < 3
                  ·
                    have e1 : opVal .and .i64 a1 7 = 2 := by omega
                    have g2 := rng2 a2
                    by_cases q10 : opVal .and .i64 a2 7 < 4
                    ·
                      by_cases q11 : opVal .and .i64 a2 7 < 2
                      ·
                        by_cases q12 : opVal .and .i64 a2 7 < 1
                        ·
                          have e2 : opVal .and .i64 a2 7 = 0 := by omega
                          exact atr r28_2_0 (rw3 e0 e1 e2) iv0 w hgl
                        ·
                          have e2 : opVal .and .i64 a2 7 = 1 := by omega
                          exact atr r28_2_1 (rw3 e0 e1 e2) iv0 w hgl
                      ·
                        by_cases q12 : opVal .and .i64 a2 7 < 3
                        ·
                          have e2 : opVal .and .i64 a2 7 = 2 := by omega
                          exact atr r28_2_2 (rw3 e0 e1 e2) iv0 w hgl
                        ·
                          have e2 : opVal .and .i64 a2 7 = 3 := by omega
                          exact atr r28_2_3 (rw3 e0 e1 e2) iv0 w hgl
                    ·
                      by_cases q11 : opVal .and .i64 a2 7 < 6
                      ·
                        by_cases q12 : opVal .and .i64 a2 7 < 5
                        ·
                          have e2 : opVal .and .i64 a2 7 = 4 := by omega
                          exact atr r28_2_4 (rw3 e0 e1 e2) iv0 w hgl
                        ·
                          have e2 : opVal .and .i64 a2 7 = 5 := by omega
                          exact atr r28_2_5 (rw3 e0 e1 e2) iv0 w hgl
                      ·
                        by_cases q12 : opVal .and .i64 a2 7 < 7
                        ·
                          have e2 : opVal .and .i64 a2 7 = 6 := by omega
                          exact atr r28_2_6 (rw3 e0 e1 e2) iv0 w hgl
                        ·
                          have e2 : opVal .and .i64 a2 7 = 7 := by omega
                          exact atr r28_2_7 (rw3 e0 e1 e2) iv0 w hgl
                  ·
                    have e1 : opVal .and .i64 a1 7 = 3 := by omega
                    have g2 := rng2 a2
                    by_cases q10 : opVal .and .i64 a2 7 < 4
                    ·
                      by_cases q11 : opVal .and .i64 a2 7 < 2
                      ·
                        by_cases q12 : opVal .and .i64 a2 7 < 1
                        ·
                          have e2 : opVal .and .i64 a2 7 = 0 := by omega
                          exact atr r28_3_0 (rw3 e0 e1 e2) iv0 w hgl
                        ·
                          have e2 : opVal .and .i64 a2 7 = 1 := by omega
                          exact atr r28_3_1 (rw3 e0 e1 e2) iv0 w hgl
                      ·
                        by_cases q12 : opVal .and .i64 a2 7 < 3
                        ·
                          have e2 : opVal .and .i64 a2 7 = 2 := by omega
                          exact atr r28_3_2 (rw3 e0 e1 e2) iv0 w hgl
                        ·
                          have e2 : opVal .and .i64 a2 7 = 3 := by omega
                          exact atr r28_3_3 (rw3 e0 e1 e2) iv0 w hgl
                    ·
                      by_cases q11 : opVal .and .i64 a2 7 < 6
                      ·
                        by_cases q12 : opVal .and .i64 a2 7 < 5
                        ·
                          have e2 : opVal .and .i64 a2 7 = 4 := by omega
                          exact atr r28_3_4 (rw3 e0 e1 e2) iv0 w hgl
                        ·
                          have e2 : opVal .and .i64 a2 7 = 5 := by omega
                          exact atr r28_3_5 (rw3 e0 e1 e2) iv0 w hgl
                      ·
                        by_cases q12 : opVal .and .i64 a2 7 < 7
                        ·
                          have e2 : opVal .and .i64 a2 7 = 6 := by omega
                          exact atr r28_3_6 (rw3 e0 e1 e2) iv0 w hgl
                        ·
                          have e2 : opVal .and .i64 a2 7 = 7 := by omega
                          exact atr r28_3_7 (rw3 e0 e1 e2) iv0 w hgl
              ·
                by_cases q8 : opVal .and .i64 a1 7 < 6
                ·
                  by_cases q9 : opVal .and .i64 a1 7 < 5
                  ·
                    have e1 : opVal .and .i64 a1 7 = 4 := by omega
                    have g2 := rng2 a2
                    by_cases q10 : opVal .and .i64 a2 7 < 4
                    ·
                      by_cases q11 : opVal .and .i64 a2 7 < 2
                      ·
                        by_cases q12 : opVal .and .i64 a2 7 < 1
                        ·
                          have e2 : opVal .and .i64 a2 7 = 0 := by omega
                          exact atr r28_4_0 (rw3 e0 e1 e2) iv0 w hgl
                        ·
                          have e2 : opVal .and .i64 a2 7 = 1 := by omega
                          exact atr r28_4_1 (rw3 e0 e1 e2) iv0 w hgl
                      ·
                        by_cases q12 : opVal .and .i64 a2 7 < 3
                        ·
                          have e2 : opVal .and .i64 a2 7 = 2 := by omega
                          exact atr r28_4_2 (rw3 e0 e1 e2) iv0 w hgl
                        ·
                          have e2 : opVal .and .i64 a2 7 = 3 := by omega
                          exact atr r28_4_3 (rw3 e0 e1 e2) iv0 w hgl
                    ·
                      by_cases q11 : opVal .and .i64 a2 7 < 6
                      ·
                        by_cases q12 : opVal .and .i64 a2 7 < 5
                        ·
                          have e2 : opVal .and .i64 a2 7 = 4 := by omega
                          exact atr r28_4_4 (rw3 e0 e1 e2) iv0 w hgl
                        ·
                          have e2 : opVal .and .i64 a2 7 = 5 := by omega
                          exact atr r28_4_5 (rw3 e0 e1 e2) iv0 w hgl
                      ·
                        by_cases q12 : opVal .and .i64 a2 7 < 7
                        ·
                          have e2 : opVal .and .i64 a2 7 = 6 := by omega
                          exact atr r28_4_6 (rw3 e0 e1 e2) iv0 w hgl
                        ·
                          have e2 : opVal .and .i64 a2 7 = 7 := by omega
                          exact atr r28_4_7 (rw3 e0 e1 e2) iv0 w hgl
                  ·
                    have e1 : opVal .and .i64 a1 7 = 5 := by omega
                    have g2 := rng2 a2
                    by_cases q10 : opVal .and .i64 a2 7 < 4
                    ·
                      by_cases q11 : opVal .and .i64 a2 7 < 2
                      ·
                        by_cases q12 : opVal .and .i64 a2 7 < 1
                        ·
                          have e2 : opVal .and .i64 a2 7 = 0 := by omega
                          exact atr r28_5_0 (rw3 e0 e1 e2) iv0 w hgl
                        ·
                          have e2 : opVal .and .i64 a2 7 = 1 := by omega
                          exact atr r28_5_1 (rw3 e0 e1 e2) iv0 w hgl
                      ·
                        by_cases q12 : opVal .and .i64 a2 7 < 3
                        ·
                          have e2 : opVal .and .i64 a2 7 = 2 := by omega
                          exact atr r28_5_2 (rw3 e0 e1 e2) iv0 w hgl
                        ·
                          have e2 : opVal .and .i64 a2 7 = 3 := by omega
                          exact atr r28_5_3 (rw3 e0 e1 e2) iv0 w hgl
                    ·
                      by_cases q11 : opVal .and .i64 a2 7 < 6
                      ·
                        by_cases q12 : opVal .and .i64 a2 7 < 5
                        ·
                          have e2 : opVal .and .i64 a2 7 = 4 := by omega
                          exact atr r28_5_4 (rw3 e0 e1 e2) iv0 w hgl
                        ·
                          have e2 : opVal .and .i64 a2 7 = 5 := by omega
                          exact atr r28_5_5 (rw3 e0 e1 e2) iv0 w hgl
                      ·
                        by_cases q12 : opVal .and .i64 a2 7 < 7
                        ·
                          have e2 : opVal .and .i64 a2 7 = 6 := by omega
                          exact atr r28_5_6 (rw3 e0 e1 e2) iv0 w hgl
                        ·
                          have e2 : opVal .and .i64 a2 7 = 7 := by omega
                          exact atr r28_5_7 (rw3 e0 e1 e2) iv0 w hgl
                ·
                  by_cases q9 : opVal .and .i64 a1 7 < 7
                  ·
                    have e1 : opVal .and .i64 a1 7 = 6 := by omega
                    have g2 := rng2 a2
                    by_cases q10 : opVal .and .i64 a2 7 < 4
                    ·
                      by_cases q11 : opVal .and .i64 a2 7 < 2
                      ·
                        by_cases q12 : opVal .and .i64 a2 7 < 1
                        ·
                          have e2 : opVal .and .i64 a2 7 = 0 := by omega
                          exact atr r28_6_0 (rw3 e0 e1 e2) iv0 w hgl
                        ·
                          have e2 : opVal .and .i64 a2 7 = 1 := by omega
                          exact atr r28_6_1 (rw3 e0 e1 e2) iv0 w hgl
                      ·
                        by_cases q12 : opVal .and .i64 a2 7 < 3
                        ·
                          have e2 : opVal .and .i64 a2 7 = 2 := by omega
                          exact atr r28_6_2 (rw3 e0 e1 e2) iv0 w hgl
                        ·
                          have e2 : opVal .and .i64 a2 7 = 3 := by omega
                          exact atr r28_6_3 (rw3 e0 e1 e2) iv0 w hgl
                    ·
                      by_cases q11 : opVal .and .i64 a2 7 < 6
                      ·
                        by_cases q12 : opVal .and .i64 a2 7 < 5
                        ·
                          have e2 : opVal .and .i64 a2 7 = 4 := by omega
                          exact atr r28_6_4 (rw3 e0 e1 e2) iv0 w hgl
                        ·
                          have e2 : opVal .and .i64 a2 7 = 5 := by omega
                          exact atr r28_6_5 (rw3 e0 e1 e2) iv0 w hgl
                      ·
                        by_cases q12 : opVal .and .i64 a2 7 < 7
                        ·
                          have e2 : opVal .and .i64 a2 7 = 6 := by omega
                          exact atr r28_6_6 (rw3 e0 e1 e2) iv0 w hgl
                        ·
                          have e2 : opVal .and .i64 a2 7 = 7 := by omega
                          exact atr r28_6_7 (rw3 e0 e1 e2) iv0 w hgl
                  ·
                    have e1 : opVal .and .i64 a1 7 = 7 := by omega
                    have g2 := rng2 a2
                    by_cases q10 : opVal .and .i64 a2 7 < 4
                    ·
                      by_cases q11 : opVal .and .i64 a2 7 < 2
                      ·
                        by_cases q12 : opVal .and .i64 a2 7 < 1
                        ·
                          have e2 : opVal .and .i64 a2 7 = 0 := by omega
                          exact atr r28_7_0 (rw3 e0 e1 e2) iv0 w hgl
                        ·
                          have e2 : opVal .and .i64 a2 7 = 1 := by omega
                          exact atr r28_7_1 (rw3 e0 e1 e2) iv0 w hgl
                      ·
                        by_cases q12 : opVal .and .i64 a2 7 < 3
                        ·
                          have e2 : opVal .and .i64 a2 7 = 2 := by omega
                          exact atr r28_7_2 (rw3 e0 e1 e2) iv0 w hgl
                        ·
                          have e2 : opVal .and .i64 a2 7 = 3 := by omega
                          exact atr r28_7_3 (rw3 e0 e1 e2) iv0 w hgl
                    ·
                      by_cases q11 : opVal .and .i64 a2 7 < 6
                      ·
                        by_cases q12 : opVal .and .i64 a2 7 < 5
                        ·
                          have e2 : opVal .and .i64 a2 7 = 4 := by omega
                          exact atr r28_7_4 (rw3 e0 e1 e2) iv0 w hgl
                        ·
                          have e2 : opVal .and .i64 a2 7 = 5 := by omega
                          exact atr r28_7_5 (rw3 e0 e1 e2) iv0 w hgl
                      ·
                        by_cases q12 : opVal .and .i64 a2 7 < 7
                        ·
                          have e2 : opVal .and .i64 a2 7 = 6 := by omega
                          exact atr r28_7_6 (rw3 e0 e1 e2) iv0 w hgl
                        ·
                          have e2 : opVal .and .i64 a2 7 = 7 := by omega
                          exact atr r28_7_7 (rw3 e0 e1 e2) iv0 w hgl
      ·
        by_cases q4 : opVal .rem .u64 (IntKind.wrap .u64 a0) 47 < 32
        ·
          by_cases q5 : opVal .rem .u64 (IntKind.wrap .u64 a0) 47 < 30
          ·
            have e0 : opVal .rem .u64 (IntKind.wrap .u64 a0) 47 = 29 := by omega
            exact atr r29_x_x (rw1 e0) iv0 w hgl
          ·
            by_cases q6 : opVal .rem .u64 (IntKind.wrap .u64 a0) 47 < 31
            ·
              have e0 : opVal .rem .u64 (IntKind.wrap .u64 a0) 47 = 30 := by omega
              exact atr r30_x_x (rw1 e0) iv0 w hgl
            ·
              have e0 : opVal .rem .u64 (IntKind.wrap .u64 a0) 47 = 31 := by omega
              exact atr r31_x_x (rw1 e0) iv0 w hgl
        ·
          by_cases q5 : opVal .rem .u64 (IntKind.wrap .u64 a0) 47 < 33
          ·
            have e0 : opVal .rem .u64 (IntKind.wrap .u64 a0) 47 = 32 := by omega
            exact atr r32_x_x (rw1 e0) iv0 w hgl
          ·
            by_cases q6 : opVal .rem .u64 (IntKind.wrap .u64 a0) 47 < 34
            ·
              have e0 : opVal .rem .u64 (IntKind.wrap .u64 a0) 47 = 33 := by omega
              have g1 := rng1 a1
              by_cases q7 : opVal .and .i64 a1 7 < 4
              ·
                by_cases q8 : opVal .and .i64 a1 7 < 2
                ·
                  by_cases q9 : opVal .and .i64 a1 7 < 1
                  ·
                    have e1 : opVal .and .i64 a1 7 = 0 := by omega
                    exact atr r33_0_x (rw2 e0 e1) iv0 w hgl
                  ·
                    have e1 : opVal .and .i64 a1 7 = 1 := by omega
                    exact atr r33_1_x (rw2 e0 e1) iv0 w hgl
                ·
                  by_cases q9 : opVal .and .i64 a1 7 < 3
                  ·
                    have e1 : opVal .and .i64 a1 7 = 2 := by omega
                    exact atr r33_2_x (rw2 e0 e1) iv0 w hgl
                  ·
                    have e1 : opVal .and .i64 a1 7 = 3 := by omega
                    exact atr r33_3_x (rw2 e0 e1) iv0 w hgl
              ·
                by_cases q8 : opVal .and .i64 a1 7 < 6
                ·
                  by_cases q9 : opVal .and .i64 a1 7 < 5
                  ·
                    have e1 : opVal .and .i64 a1 7 = 4 := by omega
                    exact atr r33_4_x (rw2 e0 e1) iv0 w hgl
                  ·
                    have e1 : opVal .and .i64 a1 7 = 5 := by omega
                    exact atr r33_5_x (rw2 e0 e1) iv0 w hgl
                ·
                  by_cases q9 : opVal .and .i64 a1 7 < 7
                  ·
                    have e1 : opVal .and .i64 a1 7 = 6 := by omega
                    exact atr r33_6_x (rw2 e0 e1) iv0 w hgl
                  ·
                    have e1 : opVal .and .i64 a1 7 = 7 := by omega
                    exact atr r33_7_x (rw2 e0 e1) iv0 w hgl
            ·
              have e0 : opVal .rem .u64 (IntKind.wrap .u64 a0) 47 = 34 := by omega
              have g1 := rng1 a1
              by_cases q7 : opVal .and .i64 a1 7 < 4
              ·
                by_cases q8 : opVal .and .i64 a1 7 < 2
                ·
                  by_cases q9 : opVal .and .i64 a1 7 < 1
                  ·
                    have e1 : opVal .and .i64 a1 7 = 0 := by omega
                    exact atr r34_0_x (rw2 e0 e1) iv0 w hgl
                  ·
                    have e1 : opVal .and .i64 a1 7 = 1 := by omega
                    exact atr r34_1_x (rw2 e0 e1) iv0 w hgl
                ·
                  by_cases q9 : opVal .and .i64 a1 7 < 3
                  ·
                    have e1 : opVal .and .i64 a1 7 = 2 := by omega
                    exact atr r34_2_x (rw2 e0 e1) iv0 w hgl
                  ·
                    have e1 : opVal .and .i64 a1 7 = 3 := by omega
                    exact atr r34_3_x (rw2 e0 e1) iv0 w hgl
              ·
                by_cases q8 : opVal .and .i64 a1 7 < 6
                ·
                  by_cases q9 : opVal .and .i64 a1 7 < 5
                  ·
                    have e1 : opVal .and .i64 a1 7 = 4 := by omega
                    exact atr r34_4_x (rw2 e0 e1) iv0 w hgl
                  ·
                    have e1 : opVal .and .i64 a1 7 = 5 := by omega
                    exact atr r34_5_x (rw2 e0 e1) iv0 w hgl
                ·
                  by_cases q9 : opVal .and .i64 a1 7 < 7
                  ·
                    have e1 : opVal .and .i64 a1 7 = 6 := by omega
                    exact atr r34_6_x (rw2 e0 e1) iv0 w hgl
                  ·
                    have e1 : opVal .and .i64 a1 7 = 7 := by omega
                    exact atr r34_7_x (rw2 e0 e1) iv0 w hgl
    ·
      by_cases q3 : opVal .rem .u64 (IntKind.wrap .u64 a0) 47 < 41
      ·
        by_cases q4 : opVal .rem .u64 (IntKind.wrap .u64 a0) 47 < 38
        ·
          by_cases q5 : opVal .rem .u64 (IntKind.wrap .u64 a0) 47 < 36
          ·
            have e0 : opVal .rem .u64 (IntKind.wrap .u64 a0) 47 = 35 := by omega
            exact atr r35_x_x (rw1 e0) iv0 w hgl
          ·
            by_cases q6 : opVal .rem .u64 (IntKind.wrap .u64 a0) 47 < 37
            ·
              have e0 : opVal .rem .u64 (IntKind.wrap .u64 a0) 47 = 36 := by omega
              exact atr r36_x_x (rw1 e0) iv0 w hgl
            ·
              have e0 : opVal .rem .u64 (IntKind.wrap .u64 a0) 47 = 37 := by omega
              exact atr r37_x_x (rw1 e0) iv0 w hgl
        ·
          by_cases q5 : opVal .rem .u64 (IntKind.wrap .u64 a0) 47 < 39
          ·
            have e0 : opVal .rem .u64 (IntKind.wrap .u64 a0) 47 = 38 := by omega
            exact atr r38_x_x (rw1 e0) iv0 w hgl
          ·
            by_cases q6 : opVal .rem .u64 (IntKind.wrap .u64 a0) 47 < 40
            ·
              have e0 : opVal .rem .u64 (IntKind.wrap .u64 a0) 47 = 39 := by omega
              exact atr r39_x_x (rw1 e0) iv0 w hgl
            ·
              have e0 : opVal .rem .u64 (IntKind.wrap .u64 a0) 47 = 40 := by omega
              exact atr r40_x_x (rw1 e0) iv0 w hgl
      ·
        by_cases q4 : opVal .rem .u64 (IntKind.wrap .u64 a0) 47 < 44
        ·
          by_cases q5 : opVal .rem .u64 (IntKind.wrap .u64 a0) 47 < 42
          ·
            have e0 : opVal .rem .u64 (IntKind.wrap .u64 a0) 47 = 41 := by omega
            exact atr r41_x_x (rw1 e0) iv0 w hgl
          ·
            by_cases q6 : opVal .rem .u64 (IntKind.wrap .u64 a0) 47 < 43
            ·
              have e0 : opVal .rem .u64 (IntKind.wrap .u64 a0) 47 = 42 := by omega
              exact atr r42_x_x (rw1 e0) iv0 w hgl
            ·
              have e0 : opVal .rem .u64 (IntKind.wrap .u64 a0) 47 = 43 := by omega
              exact atr r43_x_x (rw1 e0) iv0 w hgl
        ·
          by_cases q5 : opVal .rem .u64 (IntKind.wrap .u64 a0) 47 < 45
          ·
            have e0 : opVal .rem .u64 (IntKind.wrap .u64 a0) 47 = 44 := by omega
            exact atr r44_x_x (rw1 e0) iv0 w hgl
          ·
            by_cases q6 : opVal .rem .u64 (IntKind.wrap .u64 a0) 47 < 46
            ·
              have e0 : opVal .rem .u64 (IntKind.wrap .u64 a0) 47 = 45 := by omega
              exact atr r45_x_x (rw1 e0) iv0 w hgl
            ·
              have e0 : opVal .rem .u64 (IntKind.wrap .u64 a0) 47 = 46 := by omega
              exact atr r46_x_x (rw1 e0) iv0 w hgl

/-! ### THE ROW's STEP: WRITTEN OUT: LEAVE IT -/
set_option maxRecDepth 100000 in
theorem lifted (os : Os) (started : os.Started) (H : Type) (enc : TypeId × Value → H) :
    ReturnsInHanded {} Tryz.checked os 5 .any (fun w args => (Rows.codeOperandsSpec.pre enc Tryz.prog Tryz.f5 Rows.codeOperandsRow.domain false w args ∧ laidMet Tryz.prog Rows.codeOperandsRow.laid w) ∧ sizedMet enc Tryz.prog Tryz.f5 (OpenSpec.ofChange Rows.codeOperandsSpec) false w args) (Rows.codeOperandsSpec.post enc Tryz.prog Tryz.f5 false true false false) := by
  refine returnsInHanded_of_change_and (C := Tryz.checked) (X := fun w _ => laidMet Tryz.prog Rows.codeOperandsRow.laid w) (fun _ _ _ hh h => h.of_heap hh) own started (by kernel_rfl) Tryz.func5
    (ChangeSpec.witness_shaped (enc := enc) (C := Tryz.checked) (os := os) (X := fun w _ => laidMet Tryz.prog Rows.codeOperandsRow.laid w) false (laidWorld os #[.int .i64 0, .int .i64 0, .int .i64 0]) #[.int .i64 0, .int .i64 0, .int .i64 0] 8 rfl (World.shaped_of_RefB (by kernel_rfl) (by kernel_rfl)) (by kernel_rfl) (by kernel_rfl) (by kernel_rfl) (laid_met_codeOperands os _ _)) ?_
  intro W base args ds gs before hval0 hW hcnd _ hL _
  have hval : ∀ (j : Nat) t v, Tryz.f5.params[j]? = some t → args[j]? = some v → Value.okWide Tryz.prog W .any base t v := hval0
  have hW' := hW
  obtain ⟨p, q, hA0, hV, rfl, hfz, hnd⟩ := hW
  have hA : DataW.TrodAll enc Tryz.prog W 0 (fun _ => true) true Tryz.f5.params.toList args.toList ds p := hA0
  rw [Tryz.params5] at hA hval
  obtain ⟨v0, vs0, d0, ds0, p0, q0, hargs, rfl, rfl, h0, r0⟩ := trodAll_cons hA
  obtain ⟨v1, vs1, d1, ds1, p1, q1, rfl, rfl, rfl, h1, r1⟩ := trodAll_cons r0
  obtain ⟨v2, vs2, d2, ds2, p2, q2, rfl, rfl, rfl, h2, r2⟩ := trodAll_cons r1
  obtain ⟨rfl, rfl, rfl⟩ := trodAll_nil r2
  obtain rfl : args = #[v0, v1, v2] := by cases args; simp_all
  obtain ⟨rfl, rfl⟩ := trodVars_none hV
  obtain ⟨a0, rfl, rfl, rfl, w0⟩ := open_int Tryz.underlying3 (hval 0 3 v0 rfl rfl) h0
  obtain ⟨a1, rfl, rfl, rfl, w1⟩ := open_int Tryz.underlying3 (hval 1 3 v1 rfl rfl) h1
  obtain ⟨a2, rfl, rfl, rfl, w2⟩ := open_int Tryz.underlying3 (hval 2 3 v2 rfl rfl) h2
  clear hA0 hval0
  simp only [List.append_nil] at hW'
  refine (walk a0 a1 a2 w0 w1 w2 W (gl_of_laid_codeOperands hL)).mono fun e W' ⟨he, hg⟩ => ?_
  subst he
  exact ⟨_, rfl, post_of_below (pa := []) (pv := []) hW' (fun _ _ _ => (trodAll_cons_mk (shut_bool Tryz.underlying4 _) trodAll_mk0)) (fun sp _ => (trodAll_cons_mk (shut_int Tryz.underlying3 w0) (trodAll_cons_mk (shut_int Tryz.underlying3 w1) (trodAll_cons_mk (shut_int Tryz.underlying3 w2) trodAll_mk0)))) (fun _ _ => rfl) rfl
    hg (ok_one (by kernel_rfl) rfl (okWide_bool_mk Tryz.underlying4 _))⟩

theorem over : Rows.codeOperandsRow.holds Tryz.pinned (OpenSpec.ofChange Rows.codeOperandsSpec) :=
  OpenClaim.holds_of_wide 5 Tryz.f5 rfl rfl rfl rfl rfl rfl rfl ⟨rfl, rfl, rfl, rfl, rfl⟩ rfl rfl rfl rfl rfl (by kernel_rfl) Tryz.func5 joined
    (of_decide_eq_true (by kernel_rfl)) (by unfold Func.isWrapper; first | (rw [if_pos (by decide +kernel)]; kernel_rfl) | (rw [if_neg (by decide +kernel)]; exact ⟨rfl, rfl⟩))
    (fun os started H enc _ => lifted os started H enc)

/-- ████ THE STATEMENT ████ -/
theorem proved : Rows.CodeOperandsCardSaid :=
  Claim7.holds_tied_plain_at .later [] [.data, .data, .data, .sentinel, .sentinel, .listed, .data] true (true, "cce98c41ac5a1a9c25bdcc50907c18bb2f353722e5ff9255f8cf98c9d2362171") true
    over (fun _ h => by cases h) g0 (fun _ h => by cases h) codeOperands_row_tie rfl ⟨rfl, rfl⟩ g1 rfl
    (fun f fn hf hfn => by
      obtain rfl : f = 5 := Option.some.inj (g2.symm.trans hf) |>.symm
      obtain rfl : fn = Tryz.f5 := (Option.some.inj (Tryz.func5.symm.trans hfn)).symm
      exact ⟨g3, fun j t ht => by
        rw [Tryz.params5] at ht
        have hm : t ∈ (Tryz.f5.params : Array TypeId).toList := by
          rw [Tryz.params5]
          exact Array.mem_toList_iff.2 (Array.mem_of_getElem? ht)
        have := List.all_eq_true.1 g4 t hm
        have h2 : Tryz.prog.wantsStandIn t = false := by simpa using this
        exact h2⟩)
    g5
#print axioms proved
end Go.Proofs.YtnegdimhejldfaaGreatDoor.codeOperands
