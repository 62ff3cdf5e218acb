/- gneiss/gneisslaw4.SchedTurns answers true at every input, and leaves its arguments as they were. No conditions. -/
import Derived.Test.YtmnfeljfemobkaaRows
import Derived.WalkKit
import Derived.ProofKit
import Derived.OpenShut
import Derived.Below
import Derived.ChangeSame
import Derived.Test.YtmnfeljfemobkaaSchedTurnsR0
import Derived.Test.YtmnfeljfemobkaaSchedTurnsR1
import Derived.Test.YtmnfeljfemobkaaSchedTurnsR2
import Derived.Test.YtmnfeljfemobkaaSchedTurnsR3
import Derived.Test.YtmnfeljfemobkaaSchedTurnsR4
import Derived.Test.YtmnfeljfemobkaaSchedTurnsR5
import Derived.Test.YtmnfeljfemobkaaSchedTurnsR6
import Derived.Test.YtmnfeljfemobkaaSchedTurnsR7
import Derived.Test.YtmnfeljfemobkaaSchedTurnsR8
import Derived.Test.YtmnfeljfemobkaaSchedTurnsR9
import Derived.Test.YtmnfeljfemobkaaSchedTurnsR10
import Derived.Test.YtmnfeljfemobkaaSchedTurnsR11
import Derived.Test.YtmnfeljfemobkaaSchedTurnsR12
import Derived.Test.YtmnfeljfemobkaaSchedTurnsR13
import Derived.Test.YtmnfeljfemobkaaSchedTurnsR14
import Derived.Test.YtmnfeljfemobkaaSchedTurnsR15
namespace Go.Proofs.Ytmnfeljfemobkaa.schedTurns
open Go.Ai Go.ChangeShapes Go.WideShapes Go.ChangeAt Go.RowKit
set_option linter.unusedVariables false

theorem own : ownKnob Try.prog.godebug = none := by kernel_rfl

section
variable {H : Type} {enc : TypeId × Value → H} {P : Program}
theorem post_of_below {f : Func} {s : ChangeSpec} {apart fresh handsOn again : Bool} {W W' : World} {args : Array Value} {v : Value} {ds gs : List (DataW H)} {before pa pv : List MemPlace}
    (hW : DataW.Whole enc P f.params.toList s.vars apart W args.toList ds gs before)
    (hres : ∀ (b : Nat) (sp : Nat → Bool) (hd : Bool), DataW.TrodAll enc P W' b sp hd f.resultTypes.toList (v.resultList f.resultTypes.size) (s.fn H (ds ++ gs)).results [])
    (hargs : ∀ sp : Nat → Bool, (∀ p ∈ before, sp p.block = true) → DataW.TrodAll enc P W' 0 sp true f.params.toList args.toList (s.fn H (ds ++ gs)).args pa)
    (hvars : ∀ sp : Nat → Bool, (∀ p ∈ before, sp p.block = true) → DataW.TrodVars enc P W' sp s.vars (s.fn H (ds ++ gs)).vars pv)
    (hps : before = pa ++ pv) (hb : Below W.heap.size W W')
    (hok : ∀ (j : Nat) (t : TypeId) (r : Value), f.resultTypes[j]? = some t → (v.resultList f.resultTypes.size)[j]? = some r → Value.okWide P W' .any 0 t r) :
    s.post enc P f apart fresh handsOn again W args v W' := by
  have hlt : ∀ p ∈ before, p.block < W.heap.size := fun p hp => hW.lt p hp
  have hold : ∀ p ∈ before, (fun b => decide (b < W.heap.size)) p.block = true := fun p hp => by simpa using hlt p hp
  refine ⟨ds, gs, before, [], pa, pv, hW, hres _ _ _, hargs _ hold, hvars _ hold, World.keptBut_mono (fun p hp => ⟨hp, ?_⟩) (hb.frame (· ∈ before)), fun _ => ?_⟩
  · rw [hps, List.mem_append] at hp
    exact Or.inr hp
  · obtain ⟨_, _, _, _, _, hz, hn⟩ := hW
    refine ⟨hok, _, _, ([] ++ pa) ++ pv, ⟨[] ++ pa, pv, trodAll_append (hargs _ (fun _ _ => rfl)) (hres _ _ _), hvars _ (fun _ _ => rfl), rfl, ?_, ?_⟩, ?_⟩
    · intro b off hp
      have hin : MemPlace.cell b off ∈ before := by rw [hps]; simpa using hp
      rw [hb.frozen (hlt _ hin)]
      exact hz b off hin
    · intro ha
      have := hn ha
      rw [hps] at this
      simpa using this
    · intro p hp _
      rw [hps]
      simpa using hp
end
/-! ### the walk: by the abstract machine -/
theorem rng0 (a : Int) : 0 ≤ opVal .and .i64 a 7 ∧ opVal .and .i64 a 7 ≤ 7 := by
  have h : (BitVec.ofInt 64 a &&& BitVec.ofInt 64 7).toNat ≤ 7 := by
    rw [BitVec.toNat_and]
    exact Nat.and_le_right
  show 0 ≤ IntKind.wrap .i64 ((BitVec.ofInt 64 a &&& BitVec.ofInt 64 7).toNat : Int) ∧ IntKind.wrap .i64 ((BitVec.ofInt 64 a &&& BitVec.ofInt 64 7).toNat : Int) ≤ 7
  rw [IntKind.wrap_i64]
  omega
theorem rng1 (a : Int) : 0 ≤ opVal .and .i64 a 15 ∧ opVal .and .i64 a 15 ≤ 15 := by
  have h : (BitVec.ofInt 64 a &&& BitVec.ofInt 64 15).toNat ≤ 15 := by
    rw [BitVec.toNat_and]
    exact Nat.and_le_right
  show 0 ≤ IntKind.wrap .i64 ((BitVec.ofInt 64 a &&& BitVec.ofInt 64 15).toNat : Int) ∧ IntKind.wrap .i64 ((BitVec.ofInt 64 a &&& BitVec.ofInt 64 15).toNat : Int) ≤ 15
  rw [IntKind.wrap_i64]
  omega
theorem rng2_2 (a : Int) : 0 ≤ opVal .rem .u64 (IntKind.wrap .u64 a) 2 ∧ opVal .rem .u64 (IntKind.wrap .u64 a) 2 ≤ 1 := by
  have hw : 0 ≤ IntKind.wrap .u64 a := by
    rw [IntKind.wrap_u64]
    omega
  have h1 : (IntKind.wrap .u64 a).tmod 2 < 2 := Int.tmod_lt_of_pos _ (by omega)
  have h2 : 0 ≤ (IntKind.wrap .u64 a).tmod 2 := Int.tmod_nonneg _ hw
  show 0 ≤ (IntKind.wrap .u64 a).tmod 2 ∧ (IntKind.wrap .u64 a).tmod 2 ≤ 1
  omega
theorem rng2_3 (a : Int) : 0 ≤ opVal .rem .u64 (IntKind.wrap .u64 a) 3 ∧ opVal .rem .u64 (IntKind.wrap .u64 a) 3 ≤ 2 := by
  have hw : 0 ≤ IntKind.wrap .u64 a := by
    rw [IntKind.wrap_u64]
    omega
  have h1 : (IntKind.wrap .u64 a).tmod 3 < 3 := Int.tmod_lt_of_pos _ (by omega)
  have h2 : 0 ≤ (IntKind.wrap .u64 a).tmod 3 := Int.tmod_nonneg _ hw
  show 0 ≤ (IntKind.wrap .u64 a).tmod 3 ∧ (IntKind.wrap .u64 a).tmod 3 ≤ 2
  omega
theorem rng2_4 (a : Int) : 0 ≤ opVal .rem .u64 (IntKind.wrap .u64 a) 4 ∧ opVal .rem .u64 (IntKind.wrap .u64 a) 4 ≤ 3 := by
  have hw : 0 ≤ IntKind.wrap .u64 a := by
    rw [IntKind.wrap_u64]
    omega
  have h1 : (IntKind.wrap .u64 a).tmod 4 < 4 := Int.tmod_lt_of_pos _ (by omega)
  have h2 : 0 ≤ (IntKind.wrap .u64 a).tmod 4 := Int.tmod_nonneg _ hw
  show 0 ≤ (IntKind.wrap .u64 a).tmod 4 ∧ (IntKind.wrap .u64 a).tmod 4 ≤ 3
  omega
theorem rng2_5 (a : Int) : 0 ≤ opVal .rem .u64 (IntKind.wrap .u64 a) 5 ∧ opVal .rem .u64 (IntKind.wrap .u64 a) 5 ≤ 4 := by
  have hw : 0 ≤ IntKind.wrap .u64 a := by
    rw [IntKind.wrap_u64]
    omega
  have h1 : (IntKind.wrap .u64 a).tmod 5 < 5 := Int.tmod_lt_of_pos _ (by omega)
  have h2 : 0 ≤ (IntKind.wrap .u64 a).tmod 5 := Int.tmod_nonneg _ hw
  show 0 ≤ (IntKind.wrap .u64 a).tmod 5 ∧ (IntKind.wrap .u64 a).tmod 5 ≤ 4
  omega
theorem rng2_6 (a : Int) : 0 ≤ opVal .rem .u64 (IntKind.wrap .u64 a) 6 ∧ opVal .rem .u64 (IntKind.wrap .u64 a) 6 ≤ 5 := by
  have hw : 0 ≤ IntKind.wrap .u64 a := by
    rw [IntKind.wrap_u64]
    omega
  have h1 : (IntKind.wrap .u64 a).tmod 6 < 6 := Int.tmod_lt_of_pos _ (by omega)
  have h2 : 0 ≤ (IntKind.wrap .u64 a).tmod 6 := Int.tmod_nonneg _ hw
  show 0 ≤ (IntKind.wrap .u64 a).tmod 6 ∧ (IntKind.wrap .u64 a).tmod 6 ≤ 5
  omega
theorem rng2_7 (a : Int) : 0 ≤ opVal .rem .u64 (IntKind.wrap .u64 a) 7 ∧ opVal .rem .u64 (IntKind.wrap .u64 a) 7 ≤ 6 := by
  have hw : 0 ≤ IntKind.wrap .u64 a := by
    rw [IntKind.wrap_u64]
    omega
  have h1 : (IntKind.wrap .u64 a).tmod 7 < 7 := Int.tmod_lt_of_pos _ (by omega)
  have h2 : 0 ≤ (IntKind.wrap .u64 a).tmod 7 := Int.tmod_nonneg _ hw
  show 0 ≤ (IntKind.wrap .u64 a).tmod 7 ∧ (IntKind.wrap .u64 a).tmod 7 ≤ 6
  omega
theorem rng2_8 (a : Int) : 0 ≤ opVal .rem .u64 (IntKind.wrap .u64 a) 8 ∧ opVal .rem .u64 (IntKind.wrap .u64 a) 8 ≤ 7 := by
  have hw : 0 ≤ IntKind.wrap .u64 a := by
    rw [IntKind.wrap_u64]
    omega
  have h1 : (IntKind.wrap .u64 a).tmod 8 < 8 := Int.tmod_lt_of_pos _ (by omega)
  have h2 : 0 ≤ (IntKind.wrap .u64 a).tmod 8 := Int.tmod_nonneg _ hw
  show 0 ≤ (IntKind.wrap .u64 a).tmod 8 ∧ (IntKind.wrap .u64 a).tmod 8 ≤ 7
  omega
theorem rng2_9 (a : Int) : 0 ≤ opVal .rem .u64 (IntKind.wrap .u64 a) 9 ∧ opVal .rem .u64 (IntKind.wrap .u64 a) 9 ≤ 8 := by
  have hw : 0 ≤ IntKind.wrap .u64 a := by
    rw [IntKind.wrap_u64]
    omega
  have h1 : (IntKind.wrap .u64 a).tmod 9 < 9 := Int.tmod_lt_of_pos _ (by omega)
  have h2 : 0 ≤ (IntKind.wrap .u64 a).tmod 9 := Int.tmod_nonneg _ hw
  show 0 ≤ (IntKind.wrap .u64 a).tmod 9 ∧ (IntKind.wrap .u64 a).tmod 9 ≤ 8
  omega
theorem at_ {a0 : Int} {a1 : Int} {a2 : Int}  {rw : List (SI × SI)} {iv : List (SI × Int × Int)} (hr : ∀ x y, (x, y) ∈ rw → x.ev (fun i => if i = 0 then a0 else if i = 1 then a1 else if i = 2 then a2 else 0) = y.ev (fun i => if i = 0 then a0 else if i = 1 then a1 else if i = 2 then a2 else 0)) (hi : ∀ x lo hi, (x, lo, hi) ∈ iv → lo ≤ x.ev (fun i => if i = 0 then a0 else if i = 1 then a1 else if i = 2 then a2 else 0) ∧ x.ev (fun i => if i = 0 then a0 else if i = 1 then a1 else if i = 2 then a2 else 0) ≤ hi) (r : yes (run rw iv) = true) (w : World) (hgl : GlOk gl w) : Calls Try.prog 5 #[.int .i64 a0, .int .i64 a1, .int .i64 a2] w fun e w' => e = .returned (.bool true) ∧ Below w.heap.size w w' :=
  haveI : GlOk (⟨rw, [], iv, fun _ _ _ => none, gl⟩ : Cf).gl w := hgl
  soundC comp.mixed comp.TOk (over := (overC 7)) (cf := ⟨rw, [], iv, fun _ _ _ => none, gl⟩) (σ := fun i => if i = 0 then a0 else if i = 1 then a1 else if i = 2 then a2 else 0) (xs := [.int .i64 a0, .int .i64 a1, .int .i64 a2]) (fun _ h => overC_ok awakes h)
    ⟨hr, fun _ _ _ _ hm => (by cases hm), hi, fun _ _ _ _ hm => (by cases hm)⟩
    (.cons (.int .i64 (.var 0)) (.cons (.int .i64 (.var 1)) (.cons (.int .i64 (.var 2)) .nil))) r
theorem iv0 {σ : Nat → Int} : ∀ u lo hi, (u, lo, hi) ∈ ([] : List (SI × Int × Int)) → lo ≤ u.ev σ ∧ u.ev σ ≤ hi := fun _ _ _ hm => by cases hm
theorem rw3 {σ : Nat → Int} {x0 y0 x1 y1 x2 y2 : SI} (h0 : x0.ev σ = y0.ev σ) (h1 : x1.ev σ = y1.ev σ) (h2 : x2.ev σ = y2.ev σ) : ∀ u v, (u, v) ∈ [(x0, y0), (x1, y1), (x2, y2)] → u.ev σ = v.ev σ := by
  intro u v hm
  simp only [List.mem_cons, List.not_mem_nil, or_false, Prod.mk.injEq] at hm
  rcases hm with ⟨rfl, rfl⟩ | ⟨rfl, rfl⟩ | ⟨rfl, rfl⟩
  · exact h0
  · exact h1
  · exact h2
theorem atr {a0 : Int} {a1 : Int} {a2 : Int}  {rw : List (SI × SI)} {iv : List (SI × Int × Int)} (r : yes (run rw iv) = true) (hr : ∀ x y, (x, y) ∈ rw → x.ev (fun i => if i = 0 then a0 else if i = 1 then a1 else if i = 2 then a2 else 0) = y.ev (fun i => if i = 0 then a0 else if i = 1 then a1 else if i = 2 then a2 else 0)) (hi : ∀ x lo hi, (x, lo, hi) ∈ iv → lo ≤ x.ev (fun i => if i = 0 then a0 else if i = 1 then a1 else if i = 2 then a2 else 0) ∧ x.ev (fun i => if i = 0 then a0 else if i = 1 then a1 else if i = 2 then a2 else 0) ≤ hi) (w : World) (hgl : GlOk gl w) : Calls Try.prog 5 #[.int .i64 a0, .int .i64 a1, .int .i64 a2] w fun e w' => e = .returned (.bool true) ∧ Below w.heap.size w w' :=
  at_ hr hi r w hgl
theorem walk (a0 : Int) (a1 : Int) (a2 : Int) (w0 : (Lit.int .i64 a0).wf = true) (w1 : (Lit.int .i64 a1).wf = true) (w2 : (Lit.int .i64 a2).wf = true) (w : World) :
    Calls Try.prog 5 #[.int .i64 a0, .int .i64 a1, .int .i64 a2] w fun e w' => e = .returned (.bool true) ∧ Below w.heap.size w w' := by
  have hgl : GlOk gl w := GlOk.none (fun _ => rfl)
  have g0 := rng0 a0
  by_cases q1 : opVal .and .i64 a0 7 < 4
  ·
    by_cases q2 : opVal .and .i64 a0 7 < 2
    ·
      by_cases q3 : opVal .and .i64 a0 7 < 1
      ·
        have e0 : opVal .and .i64 a0 7 = 0 := by omega
        have g1 := rng1 a1
        by_cases q4 : opVal .and .i64 a1 15 < 8
        ·
          by_cases q5 : opVal .and .i64 a1 15 < 4
          ·
            by_cases q6 : opVal .and .i64 a1 15 < 2
            ·
              by_cases q7 : opVal .and .i64 a1 15 < 1
              ·
                have e1 : opVal .and .i64 a1 15 = 0 := by omega
                have g2 := rng2_2 a2
                by_cases q8 : opVal .rem .u64 (IntKind.wrap .u64 a2) 2 < 1
                ·
                  have e2 : opVal .rem .u64 (IntKind.wrap .u64 a2) 2 = 0 := by omega
                  exact atr r0_0_0 (rw3 e0 e1 e2) iv0 w hgl
                ·
                  have e2 : opVal .rem .u64 (IntKind.wrap .u64 a2) 2 = 1 := by omega
                  exact atr r0_0_1 (rw3 e0 e1 e2) iv0 w hgl
              ·
                have e1 : opVal .and .i64 a1 15 = 1 := by omega
                have g2 := rng2_2 a2
                by_cases q8 : opVal .rem .u64 (IntKind.wrap .u64 a2) 2 < 1
                ·
                  have e2 : opVal .rem .u64 (IntKind.wrap .u64 a2) 2 = 0 := by omega
                  exact atr r0_1_0 (rw3 e0 e1 e2) iv0 w hgl
                ·
                  have e2 : opVal .rem .u64 (IntKind.wrap .u64 a2) 2 = 1 := by omega
                  exact atr r0_1_1 (rw3 e0 e1 e2) iv0 w hgl
            ·
              by_cases q7 : opVal .and .i64 a1 15 < 3
              ·
                have e1 : opVal .and .i64 a1 15 = 2 := by omega
                have g2 := rng2_2 a2
                by_cases q8 : opVal .rem .u64 (IntKind.wrap .u64 a2) 2 < 1
                ·
                  have e2 : opVal .rem .u64 (IntKind.wrap .u64 a2) 2 = 0 := by omega
                  exact atr r0_2_0 (rw3 e0 e1 e2) iv0 w hgl
                ·
                  have e2 : opVal .rem .u64 (IntKind.wrap .u64 a2) 2 = 1 := by omega
                  exact atr r0_2_1 (rw3 e0 e1 e2) iv0 w hgl
              ·
                have e1 : opVal .and .i64 a1 15 = 3 := by omega
                have g2 := rng2_2 a2
                by_cases q8 : opVal .rem .u64 (IntKind.wrap .u64 a2) 2 < 1
                ·
                  have e2 : opVal .rem .u64 (IntKind.wrap .u64 a2) 2 = 0 := by omega
                  exact atr r0_3_0 (rw3 e0 e1 e2) iv0 w hgl
                ·
                  have e2 : opVal .rem .u64 (IntKind.wrap .u64 a2) 2 = 1 := by omega
                  exact atr r0_3_1 (rw3 e0 e1 e2) iv0 w hgl
          ·
            by_cases q6 : opVal .and .i64 a1 15 < 6
            ·
              by_cases q7 : opVal .and .i64 a1 15 < 5
              ·
                have e1 : opVal .and .i64 a1 15 = 4 := by omega
                have g2 := rng2_2 a2
                by_cases q8 : opVal .rem .u64 (IntKind.wrap .u64 a2) 2 < 1
                ·
                  have e2 : opVal .rem .u64 (IntKind.wrap .u64 a2) 2 = 0 := by omega
                  exact atr r0_4_0 (rw3 e0 e1 e2) iv0 w hgl
                ·
                  have e2 : opVal .rem .u64 (IntKind.wrap .u64 a2) 2 = 1 := by omega
                  exact atr r0_4_1 (rw3 e0 e1 e2) iv0 w hgl
              ·
                have e1 : opVal .and .i64 a1 15 = 5 := by omega
                have g2 := rng2_2 a2
                by_cases q8 : opVal .rem .u64 (IntKind.wrap .u64 a2) 2 < 1
                ·
                  have e2 : opVal .rem .u64 (IntKind.wrap .u64 a2) 2 = 0 := by omega
                  exact atr r0_5_0 (rw3 e0 e1 e2) iv0 w hgl
                ·
                  have e2 : opVal .rem .u64 (IntKind.wrap .u64 a2) 2 = 1 := by omega
                  exact atr r0_5_1 (rw3 e0 e1 e2) iv0 w hgl
            ·
              by_cases q7 : opVal .and .i64 a1 15 < 7
              ·
                have e1 : opVal .and .i64 a1 15 = 6 := by omega
                have g2 := rng2_2 a2
                by_cases q8 : opVal .rem .u64 (IntKind.wrap .u64 a2) 2 < 1
                ·
                  have e2 : opVal .rem .u64 (IntKind.wrap .u64 a2) 2 = 0 := by omega
                  exact atr r0_6_0 (rw3 e0 e1 e2) iv0 w hgl
                ·
                  have e2 : opVal .rem .u64 (IntKind.wrap .u64 a2) 2 = 1 := by omega
                  exact atr r0_6_1 (rw3 e0 e1 e2) iv0 w hgl
              ·
                have e1 : opVal .and .i64 a1 15 = 7 := by omega
                have g2 := rng2_2 a2
                by_cases q8 : opVal .rem .u64 (IntKind.wrap .u64 a2) 2 < 1
                ·
                  have e2 : opVal .rem .u64 (IntKind.wrap .u64 a2) 2 = 0 := by omega
                  exact atr r0_7_0 (rw3 e0 e1 e2) iv0 w hgl
                ·
                  have e2 : opVal .rem .u64 (IntKind.wrap .u64 a2) 2 = 1 := by omega
                  exact atr r0_7_1 (rw3 e0 e1 e2) iv0 w hgl
        ·
          by_cases q5 : opVal .and .i64 a1 15 < 12
          ·
            by_cases q6 : opVal .and .i64 a1 15 < 10
            ·
              by_cases q7 : opVal .and .i64 a1 15 < 9
              ·
                have e1 : opVal .and .i64 a1 15 = 8 := by omega
                have g2 := rng2_2 a2
                by_cases q8 : opVal .rem .u64 (IntKind.wrap .u64 a2) 2 < 1
                ·
                  have e2 : opVal .rem .u64 (IntKind.wrap .u64 a2) 2 = 0 := by omega
                  exact atr r0_8_0 (rw3 e0 e1 e2) iv0 w hgl
                ·
                  have e2 : opVal .rem .u64 (IntKind.wrap .u64 a2) 2 = 1 := by omega
                  exact atr r0_8_1 (rw3 e0 e1 e2) iv0 w hgl
              ·
                have e1 : opVal .and .i64 a1 15 = 9 := by omega
                have g2 := rng2_2 a2
                by_cases q8 : opVal .rem .u64 (IntKind.wrap .u64 a2) 2 < 1
                ·
                  have e2 : opVal .rem .u64 (IntKind.wrap .u64 a2) 2 = 0 := by omega
                  exact atr r0_9_0 (rw3 e0 e1 e2) iv0 w hgl
                ·
                  have e2 : opVal .rem .u64 (IntKind.wrap .u64 a2) 2 = 1 := by omega
                  exact atr r0_9_1 (rw3 e0 e1 e2) iv0 w hgl
            ·
              by_cases q7 : opVal .and .i64 a1 15 < 11
              ·
                have e1 : opVal .and .i64 a1 15 = 10 := by omega
                have g2 := rng2_2 a2
                by_cases q8 : opVal .rem .u64 (IntKind.wrap .u64 a2) 2 < 1
                ·
                  have e2 : opVal .rem .u64 (IntKind.wrap .u64 a2) 2 = 0 := by omega
                  exact atr r0_10_0 (rw3 e0 e1 e2) iv0 w hgl
                ·
                  have e2 : opVal .rem .u64 (IntKind.wrap .u64 a2) 2 = 1 := by omega
                  exact atr r0_10_1 (rw3 e0 e1 e2) iv0 w hgl
              ·
                have e1 : opVal .and .i64 a1 15 = 11 := by omega
                have g2 := rng2_2 a2
                by_cases q8 : opVal .rem .u64 (IntKind.wrap .u64 a2) 2 < 1
                ·
                  have e2 : opVal .rem .u64 (IntKind.wrap .u64 a2) 2 = 0 := by omega
                  exact atr r0_11_0 (rw3 e0 e1 e2) iv0 w hgl
                ·
                  have e2 : opVal .rem .u64 (IntKind.wrap .u64 a2) 2 = 1 := by omega
                  exact atr r0_11_1 (rw3 e0 e1 e2) iv0 w hgl
          ·
            by_cases q6 : opVal .and .i64 a1 15 < 14
            ·
              by_cases q7 : opVal .and .i64 a1 15 < 13
              ·
                have e1 : opVal .and .i64 a1 15 = 12 := by omega
                have g2 := rng2_2 a2
                by_cases q8 : opVal .rem .u64 (IntKind.wrap .u64 a2) 2 < 1
                ·
                  have e2 : opVal .rem .u64 (IntKind.wrap .u64 a2) 2 = 0 := by omega
                  exact atr r0_12_0 (rw3 e0 e1 e2) iv0 w hgl
                ·
                  have e2 : opVal .rem .u64 (IntKind.wrap .u64 a2) 2 = 1 := by omega
                  exact atr r0_12_1 (rw3 e0 e1 e2) iv0 w hgl
              ·
                have e1 : opVal .and .i64 a1 15 = 13 := by omega
                have g2 := rng2_2 a2
                by_cases q8 : opVal .rem .u64 (IntKind.wrap .u64 a2) 2 < 1
                ·
                  have e2 : opVal .rem .u64 (IntKind.wrap .u64 a2) 2 = 0 := by omega
                  exact atr r0_13_0 (rw3 e0 e1 e2) iv0 w hgl
                ·
                  have e2 : opVal .rem .u64 (IntKind.wrap .u64 a2) 2 = 1 := by omega
                  exact atr r0_13_1 (rw3 e0 e1 e2) iv0 w hgl
            ·
              by_cases q7 : opVal .and .i64 a1 15 < 15
              ·
                have e1 : opVal .and .i64 a1 15 = 14 := by omega
                have g2 := rng2_2 a2
                by_cases q8 : opVal .rem .u64 (IntKind.wrap .u64 a2) 2 < 1
                ·
                  have e2 : opVal .rem .u64 (IntKind.wrap .u64 a2) 2 = 0 := by omega
                  exact atr r0_14_0 (rw3 e0 e1 e2) iv0 w hgl
                ·
                  have e2 : opVal .rem .u64 (IntKind.wrap .u64 a2) 2 = 1 := by omega
                  exact atr r0_14_1 (rw3 e0 e1 e2) iv0 w hgl
              ·
                have e1 : opVal .and .i64 a1 15 = 15 := by omega
                have g2 := rng2_2 a2
                by_cases q8 : opVal .rem .u64 (IntKind.wrap .u64 a2) 2 < 1
                ·
                  have e2 : opVal .rem .u64 (IntKind.wrap .u64 a2) 2 = 0 := by omega
                  exact atr r0_15_0 (rw3 e0 e1 e2) iv0 w hgl
                ·
                  have e2 : opVal .rem .u64 (IntKind.wrap .u64 a2) 2 = 1 := by omega
                  exact atr r0_15_1 (rw3 e0 e1 e2) iv0 w hgl
      ·
        have e0 : opVal .and .i64 a0 7 = 1 := by omega
        have g1 := rng1 a1
        by_cases q4 : opVal .and .i64 a1 15 < 8
        ·
          by_cases q5 : opVal .and .i64 a1 15 < 4
          ·
            by_cases q6 : opVal .and .i64 a1 15 < 2
            ·
              by_cases q7 : opVal .and .i64 a1 15 < 1
              ·
                have e1 : opVal .and .i64 a1 15 = 0 := by omega
                have g2 := rng2_3 a2
                by_cases q8 : opVal .rem .u64 (IntKind.wrap .u64 a2) 3 < 1
                ·
                  have e2 : opVal .rem .u64 (IntKind.wrap .u64 a2) 3 = 0 := by omega
                  exact atr r1_0_0 (rw3 e0 e1 e2) iv0 w hgl
                ·
                  by_cases q9 : opVal .rem .u64 (IntKind.wrap .u64 a2) 3 < 2
                  ·
                    have e2 : opVal .rem .u64 (IntKind.wrap .u64 a2) 3 = 1 := by omega
                    exact atr r1_0_1 (rw3 e0 e1 e2) iv0 w hgl
                  ·
                    have e2 : opVal .rem .u64 (IntKind.wrap .u64 a2) 3 = 2 := by omega
                    exact atr r1_0_2 (rw3 e0 e1 e2) iv0 w hgl
              ·
                have e1 : opVal .and .i64 a1 15 = 1 := by omega
                have g2 := rng2_3 a2
                by_cases q8 : opVal .rem .u64 (IntKind.wrap .u64 a2) 3 < 1
                ·
                  have e2 : opVal .rem .u64 (IntKind.wrap .u64 a2) 3 = 0 := by omega
                  exact atr r1_1_0 (rw3 e0 e1 e2) iv0 w hgl
                ·
                  by_cases q9 : opVal .rem .u64 (IntKind.wrap .u64 a2) 3 < 2
                  ·
                    have e2 : opVal .rem .u64 (IntKind.wrap .u64 a2) 3 = 1 := by omega
                    exact atr r1_1_1 (rw3 e0 e1 e2) iv0 w hgl
                  ·
                    have e2 : opVal .rem .u64 (IntKind.wrap .u64 a2) 3 = 2 := by omega
                    exact atr r1_1_2 (rw3 e0 e1 e2) iv0 w hgl
            ·
              by_cases q7 : opVal .and .i64 a1 15 < 3
              ·
                have e1 : opVal .and .i64 a1 15 = 2 := by omega
                have g2 := rng2_3 a2
                by_cases q8 : opVal .rem .u64 (IntKind.wrap .u64 a2) 3 < 1
                ·
                  have e2 : opVal .rem .u64 (IntKind.wrap .u64 a2) 3 = 0 := by omega
                  exact atr r1_2_0 (rw3 e0 e1 e2) iv0 w hgl
                ·
                  by_cases q9 : opVal .rem .u64 (IntKind.wrap .u64 a2) 3 < 2
                  ·
                    have e2 : opVal .rem .u64 (IntKind.wrap .u64 a2) 3 = 1 := by omega
                    exact atr r1_2_1 (rw3 e0 e1 e2) iv0 w hgl
                  ·
                    have e2 : opVal .rem .u64 (IntKind.wrap .u64 a2) 3 = 2 := by omega
                    exact atr r1_2_2 (rw3 e0 e1 e2) iv0 w hgl
              ·
                have e1 : opVal .and .i64 a1 15 = 3 := by omega
                have g2 := rng2_3 a2
                by_cases q8 : opVal .rem .u64 (IntKind.wrap .u64 a2) 3 < 1
                ·
                  have e2 : opVal .rem .u64 (IntKind.wrap .u64 a2) 3 = 0 := by omega
                  exact atr r1_3_0 (rw3 e0 e1 e2) iv0 w hgl
                ·
                  by_cases q9 : opVal .rem .u64 (IntKind.wrap .u64 a2) 3 < 2
                  ·
                    have e2 : opVal .rem .u64 (IntKind.wrap .u64 a2) 3 = 1 := by omega
                    exact atr r1_3_1 (rw3 e0 e1 e2) iv0 w hgl
                  ·
                    have e2 : opVal .rem .u64 (IntKind.wrap .u64 a2) 3 = 2 := by omega
                    exact atr r1_3_2 (rw3 e0 e1 e2) iv0 w hgl
          ·
            by_cases q6 : opVal .and .i64 a1 15 < 6
            ·
              by_cases q7 : opVal .and .i64 a1 15 < 5
              ·
                have e1 : opVal .and .i64 a1 15 = 4 := by omega
                have g2 := rng2_3 a2
                by_cases q8 : opVal .rem .u64 (IntKind.wrap .u64 a2) 3 < 1
                ·
                  have e2 : opVal .rem .u64 (IntKind.wrap .u64 a2) 3 = 0 := by omega
                  exact atr r1_4_0 (rw3 e0 e1 e2) iv0 w hgl
                ·
                  by_cases q9 : opVal .rem .u64 (IntKind.wrap .u64 a2) 3 < 2
                  ·
                    have e2 : opVal .rem .u64 (IntKind.wrap .u64 a2) 3 = 1 := by omega
                    exact atr r1_4_1 (rw3 e0 e1 e2) iv0 w hgl
                  ·
                    have e2 : opVal .rem .u64 (IntKind.wrap .u64 a2) 3 = 2 := by omega
                    exact atr r1_4_2 (rw3 e0 e1 e2) iv0 w hgl
              ·
                have e1 : opVal .and .i64 a1 15 = 5 := by omega
                have g2 := rng2_3 a2
                by_cases q8 : opVal .rem .u64 (IntKind.wrap .u64 a2) 3 < 1
                ·
                  have e2 : opVal .rem .u64 (IntKind.wrap .u64 a2) 3 = 0 := by omega
                  exact atr r1_5_0 (rw3 e0 e1 e2) iv0 w hgl
                ·
                  by_cases q9 : opVal .rem .u64 (IntKind.wrap .u64 a2) 3 < 2
                  ·
                    have e2 : opVal .rem .u64 (IntKind.wrap .u64 a2) 3 = 1 := by omega
                    exact atr r1_5_1 (rw3 e0 e1 e2) iv0 w hgl
                  ·
                    have e2 : opVal .rem .u64 (IntKind.wrap .u64 a2) 3 = 2 := by omega
                    exact atr r1_5_2 (rw3 e0 e1 e2) iv0 w hgl
            ·
              by_cases q7 : opVal .and .i64 a1 15 < 7
              ·
                have e1 : opVal .and .i64 a1 15 = 6 := by omega
                have g2 := rng2_3 a2
                by_cases q8 : opVal .rem .u64 (IntKind.wrap .u64 a2) 3 < 1
                ·
                  have e2 : opVal .rem .u64 (IntKind.wrap .u64 a2) 3 = 0 := by omega
                  exact atr r1_6_0 (rw3 e0 e1 e2) iv0 w hgl
                ·
                  by_cases q9 : opVal .rem .u64 (IntKind.wrap .u64 a2) 3 < 2
                  ·
                    have e2 : opVal .rem .u64 (IntKind.wrap .u64 a2) 3 = 1 := by omega
                    exact atr r1_6_1 (rw3 e0 e1 e2) iv0 w hgl
                  ·
                    have e2 : opVal .rem .u64 (IntKind.wrap .u64 a2) 3 = 2 := by omega
                    exact atr r1_6_2 (rw3 e0 e1 e2) iv0 w hgl
              ·
                have e1 : opVal .and .i64 a1 15 = 7 := by omega
                have g2 := rng2_3 a2
                by_cases q8 : opVal .rem .u64 (IntKind.wrap .u64 a2) 3 < 1
                ·
                  have e2 : opVal .rem .u64 (IntKind.wrap .u64 a2) 3 = 0 := by omega
                  exact atr r1_7_0 (rw3 e0 e1 e2) iv0 w hgl
                ·
                  by_cases q9 : opVal .rem .u64 (IntKind.wrap .u64 a2) 3 < 2
                  ·
                    have e2 : opVal .rem .u64 (IntKind.wrap .u64 a2) 3 = 1 := by omega
                    exact atr r1_7_1 (rw3 e0 e1 e2) iv0 w hgl
                  ·
                    have e2 : opVal .rem .u64 (IntKind.wrap .u64 a2) 3 = 2 := by omega
                    exact atr r1_7_2 (rw3 e0 e1 e2) iv0 w hgl
        ·
          by_cases q5 : opVal .and .i64 a1 15 < 12
          ·
            by_cases q6 : opVal .and .i64 a1 15 < 10
            ·
              by_cases q7 : opVal .and .i64 a1 15 < 9
              ·
                have e1 : opVal .and .i64 a1 15 = 8 := by omega
                have g2 := rng2_3 a2
                by_cases q8 : opVal .rem .u64 (IntKind.wrap .u64 a2) 3 < 1
                ·
                  have e2 : opVal .rem .u64 (IntKind.wrap .u64 a2) 3 = 0 := by omega
                  exact atr r1_8_0 (rw3 e0 e1 e2) iv0 w hgl
                ·
                  by_cases q9 : opVal .rem .u64 (IntKind.wrap .u64 a2) 3 < 2
                  ·
                    have e2 : opVal .rem .u64 (IntKind.wrap .u64 a2) 3 = 1 := by omega
                    exact atr r1_8_1 (rw3 e0 e1 e2) iv0 w hgl
                  ·
                    have e2 : opVal .rem .u64 (IntKind.wrap .u64 a2) 3 = 2 := by omega
                    exact atr r1_8_2 (rw3 e0 e1 e2) iv0 w hgl
              ·
                have e1 : opVal .and .i64 a1 15 = 9 := by omega
                have g2 := rng2_3 a2
                by_cases q8 : opVal .rem .u64 (IntKind.wrap .u64 a2) 3 < 1
                ·
                  have e2 : opVal .rem .u64 (IntKind.wrap .u64 a2) 3 = 0 := by omega
                  exact atr r1_9_0 (rw3 e0 e1 e2) iv0 w hgl
                ·
                  by_cases q9 : opVal .rem .u64 (IntKind.wrap .u64 a2) 3 < 2
                  ·
                    have e2 : opVal .rem .u64 (IntKind.wrap .u64 a2) 3 = 1 := by omega
                    exact atr r1_9_1 (rw3 e0 e1 e2) iv0 w hgl
                  ·
                    have e2 : opVal .rem .u64 (IntKind.wrap .u64 a2) 3 = 2 := by omega
                    exact atr r1_9_2 (rw3 e0 e1 e2) iv0 w hgl
            ·
              by_cases q7 : opVal .and .i64 a1 15 < 11
              ·
                have e1 : opVal .and .i64 a1 15 = 10 := by omega
                have g2 := rng2_3 a2
                by_cases q8 : opVal .rem .u64 (IntKind.wrap .u64 a2) 3 < 1
                ·
                  have e2 : opVal .rem .u64 (IntKind.wrap .u64 a2) 3 = 0 := by omega
                  exact atr r1_10_0 (rw3 e0 e1 e2) iv0 w hgl
                ·
                  by_cases q9 : opVal .rem .u64 (IntKind.wrap .u64 a2) 3 < 2
                  ·
                    have e2 : opVal .rem .u64 (IntKind.wrap .u64 a2) 3 = 1 := by omega
                    exact atr r1_10_1 (rw3 e0 e1 e2) iv0 w hgl
                  ·
                    have e2 : opVal .rem .u64 (IntKind.wrap .u64 a2) 3 = 2 := by omega
                    exact atr r1_10_2 (rw3 e0 e1 e2) iv0 w hgl
              ·
                have e1 : opVal .and .i64 a1 15 = 11 := by omega
                have g2 := rng2_3 a2
                by_cases q8 : opVal .rem .u64 (IntKind.wrap .u64 a2) 3 < 1
                ·
                  have e2 : opVal .rem .u64 (IntKind.wrap .u64 a2) 3 = 0 := by omega
                  exact atr r1_11_0 (rw3 e0 e1 e2) iv0 w hgl
                ·
                  by_cases q9 : opVal .rem .u64 (IntKind.wrap .u64 a2) 3 < 2
                  ·
                    have e2 : opVal .rem .u64 (IntKind.wrap .u64 a2) 3 = 1 := by omega
                    exact atr r1_11_1 (rw3 e0 e1 e2) iv0 w hgl
                  ·
                    have e2 : opVal .rem .u64 (IntKind.wrap .u64 a2) 3 = 2 := by omega
                    exact atr r1_11_2 (rw3 e0 e1 e2) iv0 w hgl
          ·
            by_cases q6 : opVal .and .i64 a1 15 < 14
            ·
              by_cases q7 : opVal .and .i64 a1 15 < 13
              ·
                have e1 : opVal .and .i64 a1 15 = 12 := by omega
                have g2 := rng2_3 a2
                by_cases q8 : opVal .rem .u64 (IntKind.wrap .u64 a2) 3 < 1
                ·
                  have e2 : opVal .rem .u64 (IntKind.wrap .u64 a2) 3 = 0 := by omega
                  exact atr r1_12_0 (rw3 e0 e1 e2) iv0 w hgl
                ·
                  by_cases q9 : opVal .rem .u64 (IntKind.wrap .u64 a2) 3 < 2
                  ·
                    have e2 : opVal .rem .u64 (IntKind.wrap .u64 a2) 3 = 1 := by omega
                    exact atr r1_12_1 (rw3 e0 e1 e2) iv0 w hgl
                  ·
                    have e2 : opVal .rem .u64 (IntKind.wrap .u64 a2) 3 = 2 := by omega
                    exact atr r1_12_2 (rw3 e0 e1 e2) iv0 w hgl
              ·
                have e1 : opVal .and .i64 a1 15 = 13 := by omega
                have g2 := rng2_3 a2
                by_cases q8 : opVal .rem .u64 (IntKind.wrap .u64 a2) 3 < 1
                ·
                  have e2 : opVal .rem .u64 (IntKind.wrap .u64 a2) 3 = 0 := by omega
                  exact atr r1_13_0 (rw3 e0 e1 e2) iv0 w hgl
                ·
                  by_cases q9 : opVal .rem .u64 (IntKind.wrap .u64 a2) 3 < 2
                  ·
                    have e2 : opVal .rem .u64 (IntKind.wrap .u64 a2) 3 = 1 := by omega
                    exact atr r1_13_1 (rw3 e0 e1 e2) iv0 w hgl
                  ·
                    have e2 : opVal .rem .u64 (IntKind.wrap .u64 a2) 3 = 2 := by omega
                    exact atr r1_13_2 (rw3 e0 e1 e2) iv0 w hgl
            ·
              by_cases q7 : opVal .and .i64 a1 15 < 15
              ·
                have e1 : opVal .and .i64 a1 15 = 14 := by omega
                have g2 := rng2_3 a2
                by_cases q8 : opVal .rem .u64 (IntKind.wrap .u64 a2) 3 < 1
                ·
                  have e2 : opVal .rem .u64 (IntKind.wrap .u64 a2) 3 = 0 := by omega
                  exact atr r1_14_0 (rw3 e0 e1 e2) iv0 w hgl
                ·
                  by_cases q9 : opVal .rem .u64 (IntKind.wrap .u64 a2) 3 < 2
                  ·
                    have e2 : opVal .rem .u64 (IntKind.wrap .u64 a2) 3 = 1 := by omega
                    exact atr r1_14_1 (rw3 e0 e1 e2) iv0 w hgl
                  ·
                    have e2 : opVal .rem .u64 (IntKind.wrap .u64 a2) 3 = 2 := by omega
                    exact atr r1_14_2 (rw3 e0 e1 e2) iv0 w hgl
              ·
                have e1 : opVal .and .i64 a1 15 = 15 := by omega
                have g2 := rng2_3 a2
                by_cases q8 : opVal .rem .u64 (IntKind.wrap .u64 a2) 3 < 1
                ·
                  have e2 : opVal .rem .u64 (IntKind.wrap .u64 a2) 3 = 0 := by omega
                  exact atr r1_15_0 (rw3 e0 e1 e2) iv0 w hgl
                ·
                  by_cases q9 : opVal .rem .u64 (IntKind.wrap .u64 a2) 3 < 2
                  ·
                    have e2 : opVal .rem .u64 (IntKind.wrap .u64 a2) 3 = 1 := by omega
                    exact atr r1_15_1 (rw3 e0 e1 e2) iv0 w hgl
                  ·
                    have e2 : opVal .rem .u64 (IntKind.wrap .u64 a2) 3 = 2 := by omega
                    exact atr r1_15_2 (rw3 e0 e1 e2) iv0 w hgl
    ·
      by_cases q3 : opVal .and .i64 a0 7 < 3
      ·
        have e0 : opVal .and .i64 a0 7 = 2 := by omega
        have g1 := rng1 a1
        by_cases q4 : opVal .and .i64 a1 15 < 8
        ·
          by_cases q5 : opVal .and .i64 a1 15 < 4
          ·
            by_cases q6 : opVal .and .i64 a1 15 < 2
            ·
              by_cases q7 : opVal .and .i64 a1 15 < 1
              ·
                have e1 : opVal .and .i64 a1 15 = 0 := by omega
                have g2 := rng2_4 a2
                by_cases q8 : opVal .rem .u64 (IntKind.wrap .u64 a2) 4 < 2
                ·
                  by_cases q9 : opVal .rem .u64 (IntKind.wrap .u64 a2) 4 < 1
                  ·
                    have e2 : opVal .rem .u64 (IntKind.wrap .u64 a2) 4 = 0 := by omega
                    exact atr r2_0_0 (rw3 e0 e1 e2) iv0 w hgl
                  ·
                    have e2 : opVal .rem .u64 (IntKind.wrap .u64 a2) 4 = 1 := by omega
                    exact atr r2_0_1 (rw3 e0 e1 e2) iv0 w hgl
                ·
                  by_cases q9 : opVal .rem .u64 (IntKind.wrap .u64 a2) 4 < 3
                  ·
                    have e2 : opVal .rem .u64 (IntKind.wrap .u64 a2) 4 = 2 := by omega
                    exact atr r2_0_2 (rw3 e0 e1 e2) iv0 w hgl
                  ·
                    have e2 : opVal .rem .u64 (IntKind.wrap .u64 a2) 4 = 3 := by omega
                    exact atr r2_0_3 (rw3 e0 e1 e2) iv0 w hgl
              ·
                have e1 : opVal .and .i64 a1 15 = 1 := by omega
                have g2 := rng2_4 a2
                by_cases q8 : opVal .rem .u64 (IntKind.wrap .u64 a2) 4 < 2
                ·
                  by_cases q9 : opVal .rem .u64 (IntKind.wrap .u64 a2) 4 < 1
                  ·
                    have e2 : opVal .rem .u64 (IntKind.wrap .u64 a2) 4 = 0 := by omega
                    exact atr r2_1_0 (rw3 e0 e1 e2) iv0 w hgl
                  ·
                    have e2 : opVal .rem .u64 (IntKind.wrap .u64 a2) 4 = 1 := by omega
                    exact atr r2_1_1 (rw3 e0 e1 e2) iv0 w hgl
                ·
                  by_cases q9 : opVal .rem .u64 (IntKind.wrap .u64 a2) 4 < 3
                  ·
                    have e2 : opVal .rem .u64 (IntKind.wrap .u64 a2) 4 = 2 := by omega
                    exact atr r2_1_2 (rw3 e0 e1 e2) iv0 w hgl
                  ·
                    have e2 : opVal .rem .u64 (IntKind.wrap .u64 a2) 4 = 3 := by omega
                    exact atr r2_1_3 (rw3 e0 e1 e2) iv0 w hgl
            ·
              by_cases q7 : opVal .and .i64 a1 15 < 3
              ·
                have e1 : opVal .and .i64 a1 15 = 2 := by omega
                have g2 := rng2_4 a2
                by_cases q8 : opVal .rem .u64 (IntKind.wrap .u64 a2) 4 < 2
                ·
                  by_cases q9 : opVal .rem .u64 (IntKind.wrap .u64 a2) 4 < 1
                  ·
                    have e2 : opVal .rem .u64 (IntKind.wrap .u64 a2) 4 = 0 := by omega
                    exact atr r2_2_0 (rw3 e0 e1 e2) iv0 w hgl
                  ·
                    have e2 : opVal .rem .u64 (IntKind.wrap .u64 a2) 4 = 1 := by omega
                    exact atr r2_2_1 (rw3 e0 e1 e2) iv0 w hgl
                ·
                  by_cases q9 : opVal .rem .u64 (IntKind.wrap .u64 a2) 4 < 3
                  ·
                    have e2 : opVal .rem .u64 (IntKind.wrap .u64 a2) 4 = 2 := by omega
                    exact atr r2_2_2 (rw3 e0 e1 e2) iv0 w hgl
                  ·
                    have e2 : opVal .rem .u64 (IntKind.wrap .u64 a2) 4 = 3 := by omega
                    exact atr r2_2_3 (rw3 e0 e1 e2) iv0 w hgl
              ·
                have e1 : opVal .and .i64 a1 15 = 3 := by omega
                have g2 := rng2_4 a2
                by_cases q8 : opVal .rem .u64 (IntKind.wrap .u64 a2) 4 < 2
                ·
                  by_cases q9 : opVal .rem .u64 (IntKind.wrap .u64 a2) 4 < 1
                  ·
                    have e2 : opVal .rem .u64 (IntKind.wrap .u64 a2) 4 = 0 := by omega
                    exact atr r2_3_0 (rw3 e0 e1 e2) iv0 w hgl
                  ·
                    have e2 : opVal .rem .u64 (IntKind.wrap .u64 a2) 4 = 1 := by omega
                    exact atr r2_3_1 (rw3 e0 e1 e2) iv0 w hgl
                ·
                  by_cases q9 : opVal .rem .u64 (IntKind.wrap .u64 a2) 4 < 3
                  ·
                    have e2 : opVal .rem .u64 (IntKind.wrap .u64 a2) 4 = 2 := by omega
                    exact atr r2_3_2 (rw3 e0 e1 e2) iv0 w hgl
                  ·
                    have e2 : opVal .rem .u64 (IntKind.wrap .u64 a2) 4 = 3 := by omega
                    exact atr r2_3_3 (rw3 e0 e1 e2) iv0 w hgl
          ·
            by_cases q6 : opVal .and .i64 a1 15 < 6
            ·
              by_cases q7 : opVal .and .i64 a1 15 < 5
              ·
                have e1 : opVal .and .i64 a1 15 = 4 := by omega
                have g2 := rng2_4 a2
                by_cases q8 : opVal .rem .u64 (IntKind.wrap .u64 a2) 4 < 2
                ·
                  by_cases q9 : opVal .rem .u64 (IntKind.wrap .u64 a2) 4 < 1
                  ·
                    have e2 : opVal .rem .u64 (IntKind.wrap .u64 a2) 4 = 0 := by omega
                    exact atr r2_4_0 (rw3 e0 e1 e2) iv0 w hgl
                  ·
                    have e2 : opVal .rem .u64 (IntKind.wrap .u64 a2) 4 = 1 := by omega
                    exact atr r2_4_1 (rw3 e0 e1 e2) iv0 w hgl
                ·
                  by_cases q9 : opVal .rem .u64 (IntKind.wrap .u64 a2) 4 < 3
                  ·
                    have e2 : opVal .rem .u64 (IntKind.wrap .u64 a2) 4 = 2 := by omega
                    exact atr r2_4_2 (rw3 e0 e1 e2) iv0 w hgl
                  ·
                    have e2 : opVal .rem .u64 (IntKind.wrap .u64 a2) 4 = 3 := by omega
                    exact atr r2_4_3 (rw3 e0 e1 e2) iv0 w hgl
              ·
                have e1 : opVal .and .i64 a1 15 = 5 := by omega
                have g2 := rng2_4 a2
                by_cases q8 : opVal .rem .u64 (IntKind.wrap .u64 a2) 4 < 2
                ·
                  by_cases q9 : opVal .rem .u64 (IntKind.wrap .u64 a2) 4 < 1
                  ·
                    have e2 : opVal .rem .u64 (IntKind.wrap .u64 a2) 4 = 0 := by omega
                    exact atr r2_5_0 (rw3 e0 e1 e2) iv0 w hgl
                  ·
                    have e2 : opVal .rem .u64 (IntKind.wrap .u64 a2) 4 = 1 := by omega
                    exact atr r2_5_1 (rw3 e0 e1 e2) iv0 w hgl
                ·
                  by_cases q9 : opVal .rem .u64 (IntKind.wrap .u64 a2) 4 < 3
                  ·
                    have e2 : opVal .rem .u64 (IntKind.wrap .u64 a2) 4 = 2 := by omega
                    exact atr r2_5_2 (rw3 e0 e1 e2) iv0 w hgl
                  ·
                    have e2 : opVal .rem .u64 (IntKind.wrap .u64 a2) 4 = 3 := by omega
                    exact atr r2_5_3 (rw3 e0 e1 e2) iv0 w hgl
            ·
              by_cases q7 : opVal .and .i64 a1 15 < 7
              ·
                have e1 : opVal .and .i64 a1 15 = 6 := by omega
                have g2 := rng2_4 a2
                by_cases q8 : opVal .rem .u64 (IntKind.wrap .u64 a2) 4 < 2
                ·
                  by_cases q9 : opVal .rem .u64 (IntKind.wrap .u64 a2) 4 < 1
                  ·
                    have e2 : opVal .rem .u64 (IntKind.wrap .u64 a2) 4 = 0 := by omega
                    exact atr r2_6_0 (rw3 e0 e1 e2) iv0 w hgl
                  ·
                    have e2 : opVal .rem .u64 (IntKind.wrap .u64 a2) 4 = 1 := by omega
                    exact atr r2_6_1 (rw3 e0 e1 e2) iv0 w hgl
                ·
                  by_cases q9 : opVal .rem .u64 (IntKind.wrap .u64 a2) 4 < 3
                  ·
                    have e2 : opVal .rem .u64 (IntKind.wrap .u64 a2) 4 = 2 := by omega
                    exact atr r2_6_2 (rw3 e0 e1 e2) iv0 w hgl
                  ·
                    have e2 : opVal .rem .u64 (IntKind.wrap .u64 a2) 4 = 3 := by omega
                    exact atr r2_6_3 (rw3 e0 e1 e2) iv0 w hgl
              ·
                have e1 : opVal .and .i64 a1 15 = 7 := by omega
                have g2 := rng2_4 a2
                by_cases q8 : opVal .rem .u64 (IntKind.wrap .u64 a2) 4 < 2
                ·
                  by_cases q9 : opVal .rem .u64 (IntKind.wrap .u64 a2) 4 < 1
                  ·
                    have e2 : opVal .rem .u64 (IntKind.wrap .u64 a2) 4 = 0 := by omega
                    exact atr r2_7_0 (rw3 e0 e1 e2) iv0 w hgl
                  ·
                    have e2 : opVal .rem .u64 (IntKind.wrap .u64 a2) 4 = 1 := by omega
                    exact atr r2_7_1 (rw3 e0 e1 e2) iv0 w hgl
                ·
                  by_cases q9 : opVal .rem .u64 (IntKind.wrap .u64 a2) 4 < 3
                  ·
                    have e2 : opVal .rem .u64 (IntKind.wrap .u64 a2) 4 = 2 := by omega
                    exact atr r2_7_2 (rw3 e0 e1 e2) iv0 w hgl
                  ·
                    have e2 : opVal .rem .u64 (IntKind.wrap .u64 a2) 4 = 3 := by omega
                    exact atr r2_7_3 (rw3 e0 e1 e2) iv0 w hgl
        ·
          by_cases q5 : opVal .and .i64 a1 15 < 12
          ·
            by_cases q6 : opVal .and .i64 a1 15 < 10
            ·
              by_cases q7 : opVal .and .i64 a1 15 < 9
              ·
                have e1 : opVal .and .i64 a1 15 = 8 := by omega
                have g2 := rng2_4 a2
                by_cases q8 : opVal .rem .u64 (IntKind.wrap .u64 a2) 4 < 2
                ·
                  by_cases q9 : opVal .rem .u64 (IntKind.wrap .u64 a2) 4 < 1
                  ·
                    have e2 : opVal .rem .u64 (IntKind.wrap .u64 a2) 4 = 0 := by omega
                    exact atr r2_8_0 (rw3 e0 e1 e2) iv0 w hgl
                  ·
                    have e2 : opVal .rem .u64 (IntKind.wrap .u64 a2) 4 = 1 := by omega
                    exact atr r2_8_1 (rw3 e0 e1 e2) iv0 w hgl
                ·
                  by_cases q9 : opVal .rem .u64 (IntKind.wrap .u64 a2) 4 < 3
                  ·
                    have e2 : opVal .rem .u64 (IntKind.wrap .u64 a2) 4 = 2 := by omega
                    exact atr r2_8_2 (rw3 e0 e1 e2) iv0 w hgl
                  ·
                    have e2 : opVal .rem .u64 (IntKind.wrap .u64 a2) 4 = 3 := by omega
                    exact atr r2_8_3 (rw3 e0 e1 e2) iv0 w hgl
              ·
                have e1 : opVal .and .i64 a1 15 = 9 := by omega
                have g2 := rng2_4 a2
                by_cases q8 : opVal .rem .u64 (IntKind.wrap .u64 a2) 4 < 2
                ·
                  by_cases q9 : opVal .rem .u64 (IntKind.wrap .u64 a2) 4 < 1
                  ·
                    have e2 : opVal .rem .u64 (IntKind.wrap .u64 a2) 4 = 0 := by omega
                    exact atr r2_9_0 (rw3 e0 e1 e2) iv0 w hgl
                  ·
                    have e2 : opVal .rem .u64 (IntKind.wrap .u64 a2) 4 = 1 := by omega
                    exact atr r2_9_1 (rw3 e0 e1 e2) iv0 w hgl
                ·
                  by_cases q9 : opVal .rem .u64 (IntKind.wrap .u64 a2) 4 < 3
                  ·
                    have e2 : opVal .rem .u64 (IntKind.wrap .u64 a2) 4 = 2 := by omega
                    exact atr r2_9_2 (rw3 e0 e1 e2) iv0 w hgl
                  ·
                    have e2 : opVal .rem .u64 (IntKind.wrap .u64 a2) 4 = 3 := by omega
                    exact atr r2_9_3 (rw3 e0 e1 e2) iv0 w hgl
            ·
              by_cases q7 : opVal .and .i64 a1 15 < 11
              ·
                have e1 : opVal .and .i64 a1 15 = 10 := by omega
                have g2 := rng2_4 a2
                by_cases q8 : opVal .rem .u64 (IntKind.wrap .u64 a2) 4 < 2
                ·
                  by_cases q9 : opVal .rem .u64 (IntKind.wrap .u64 a2) 4 < 1
                  ·
                    have e2 : opVal .rem .u64 (IntKind.wrap .u64 a2) 4 = 0 := by omega
                    exact atr r2_10_0 (rw3 e0 e1 e2) iv0 w hgl
                  ·
                    have e2 : opVal .rem .u64 (IntKind.wrap .u64 a2) 4 = 1 := by omega
                    exact atr r2_10_1 (rw3 e0 e1 e2) iv0 w hgl
                ·
                  by_cases q9 : opVal .rem .u64 (IntKind.wrap .u64 a2) 4 < 3
                  ·
                    have e2 : opVal .rem .u64 (IntKind.wrap .u64 a2) 4 = 2 := by omega
                    exact atr r2_10_2 (rw3 e0 e1 e2) iv0 w hgl
                  ·
                    have e2 : opVal .rem .u64 (IntKind.wrap .u64 a2) 4 = 3 := by omega
                    exact atr r2_10_3 (rw3 e0 e1 e2) iv0 w hgl
              ·
                have e1 : opVal .and .i64 a1 15 = 11 := by omega
                have g2 := rng2_4 a2
                by_cases q8 : opVal .rem .u64 (IntKind.wrap .u64 a2) 4 < 2
                ·
                  by_cases q9 : opVal .rem .u64 (IntKind.wrap .u64 a2) 4 < 1
                  ·
                    have e2 : opVal .rem .u64 (IntKind.wrap .u64 a2) 4 = 0 := by omega
                    exact atr r2_11_0 (rw3 e0 e1 e2) iv0 w hgl
                  ·
                    have e2 : opVal .rem .u64 (IntKind.wrap .u64 a2) 4 = 1 := by omega
                    exact atr r2_11_1 (rw3 e0 e1 e2) iv0 w hgl
                ·
                  by_cases q9 : opVal .rem .u64 (IntKind.wrap .u64 a2) 4 < 3
                  ·
                    have e2 : opVal .rem .u64 (IntKind.wrap .u64 a2) 4 = 2 := by omega
                    exact atr r2_11_2 (rw3 e0 e1 e2) iv0 w hgl
                  ·
                    have e2 : opVal .rem .u64 (IntKind.wrap .u64 a2) 4 = 3 := by omega
                    exact atr r2_11_3 (rw3 e0 e1 e2) iv0 w hgl
          ·
            by_cases q6 : opVal .and .i64 a1 15 < 14
            ·
              by_cases q7 : opVal .and .i64 a1 15 < 13
              ·
                have e1 : opVal .and .i64 a1 15 = 12 := by omega
                have g2 := rng2_4 a2
                by_cases q8 : opVal .rem .u64 (IntKind.wrap .u64 a2) 4 < 2
                ·
                  by_cases q9 : opVal .rem .u64 (IntKind.wrap .u64 a2) 4 < 1
                  ·
                    have e2 : opVal .rem .u64 (IntKind.wrap .u64 a2) 4 = 0 := by omega
                    exact atr r2_12_0 (rw3 e0 e1 e2) iv0 w hgl
                  ·
                    have e2 : opVal .rem .u64 (IntKind.wrap .u64 a2) 4 = 1 := by omega
                    exact atr r2_12_1 (rw3 e0 e1 e2) iv0 w hgl
                ·
                  by_cases q9 : opVal .rem .u64 (IntKind.wrap .u64 a2) 4 < 3
                  ·
                    have e2 : opVal .rem .u64 (IntKind.wrap .u64 a2) 4 = 2 := by omega
                    exact atr r2_12_2 (rw3 e0 e1 e2) iv0 w hgl
                  ·
                    have e2 : opVal .rem .u64 (IntKind.wrap .u64 a2) 4 = 3 := by omega
                    exact atr r2_12_3 (rw3 e0 e1 e2) iv0 w hgl
              ·
                have e1 : opVal .and .i64 a1 15 = 13 := by omega
                have g2 := rng2_4 a2
                by_cases q8 : opVal .rem .u64 (IntKind.wrap .u64 a2) 4 < 2
                ·
                  by_cases q9 : opVal .rem .u64 (IntKind.wrap .u64 a2) 4 < 1
                  ·
                    have e2 : opVal .rem .u64 (IntKind.wrap .u64 a2) 4 = 0 := by omega
                    exact atr r2_13_0 (rw3 e0 e1 e2) iv0 w hgl
                  ·
                    have e2 : opVal .rem .u64 (IntKind.wrap .u64 a2) 4 = 1 := by omega
                    exact atr r2_13_1 (rw3 e0 e1 e2) iv0 w hgl
                ·
                  by_cases q9 : opVal .rem .u64 (IntKind.wrap .u64 a2) 4 < 3
                  ·
                    have e2 : opVal .rem .u64 (IntKind.wrap .u64 a2) 4 = 2 := by omega
                    exact atr r2_13_2 (rw3 e0 e1 e2) iv0 w hgl
                  ·
                    have e2 : opVal .rem .u64 (IntKind.wrap .u64 a2) 4 = 3 := by omega
                    exact atr r2_13_3 (rw3 e0 e1 e2) iv0 w hgl
            ·
              by_cases q7 : opVal .and .i64 a1 15 < 15
              ·
                have e1 : opVal .and .i64 a1 15 = 14 := by omega
                have g2 := rng2_4 a2
                by_cases q8 : opVal .rem .u64 (IntKind.wrap .u64 a2) 4 < 2
                ·
                  by_cases q9 : opVal .rem .u64 (IntKind.wrap .u64 a2) 4 < 1
                  ·
                    have e2 : opVal .rem .u64 (IntKind.wrap .u64 a2) 4 = 0 := by omega
                    exact atr r2_14_0 (rw3 e0 e1 e2) iv0 w hgl
                  ·
                    have e2 : opVal .rem .u64 (IntKind.wrap .u64 a2) 4 = 1 := by omega
                    exact atr r2_14_1 (rw3 e0 e1 e2) iv0 w hgl
                ·
                  by_cases q9 : opVal .rem .u64 (IntKind.wrap .u64 a2) 4 < 3
                  ·
                    have e2 : opVal .rem .u64 (IntKind.wrap .u64 a2) 4 = 2 := by omega
                    exact atr r2_14_2 (rw3 e0 e1 e2) iv0 w hgl
                  ·
                    have e2 : opVal .rem .u64 (IntKind.wrap .u64 a2) 4 = 3 := by omega
                    exact atr r2_14_3 (rw3 e0 e1 e2) iv0 w hgl
              ·
                have e1 : opVal .and .i64 a1 15 = 15 := by omega
                have g2 := rng2_4 a2
                by_cases q8 : opVal .rem .u64 (IntKind.wrap .u64 a2) 4 < 2
                ·
                  by_cases q9 : opVal .rem .u64 (IntKind.wrap .u64 a2) 4 < 1
                  ·
                    have e2 : opVal .rem .u64 (IntKind.wrap .u64 a2) 4 = 0 := by omega
                    exact atr r2_15_0 (rw3 e0 e1 e2) iv0 w hgl
                  ·
                    have e2 : opVal .rem .u64 (IntKind.wrap .u64 a2) 4 = 1 := by omega
                    exact atr r2_15_1 (rw3 e0 e1 e2) iv0 w hgl
                ·
                  by_cases q9 : opVal .rem .u64 (IntKind.wrap .u64 a2) 4 < 3
                  ·
                    have e2 : opVal .rem .u64 (IntKind.wrap .u64 a2) 4 = 2 := by omega
                    exact atr r2_15_2 (rw3 e0 e1 e2) iv0 w hgl
                  ·
                    have e2 : opVal .rem .u64 (IntKind.wrap .u64 a2) 4 = 3 := by omega
                    exact atr r2_15_3 (rw3 e0 e1 e2) iv0 w hgl
      ·
        have e0 : opVal .and .i64 a0 7 = 3 := by omega
        have g1 := rng1 a1
        by_cases q4 : opVal .and .i64 a1 15 < 8
        ·
          by_cases q5 : opVal .and .i64 a1 15 < 4
          ·
            by_cases q6 : opVal .and .i64 a1 15 < 2
            ·
              by_cases q7 : opVal .and .i64 a1 15 < 1
              ·
                have e1 : opVal .and .i64 a1 15 = 0 := by omega
                have g2 := rng2_5 a2
                by_cases q8 : opVal .rem .u64 (IntKind.wrap .u64 a2) 5 < 2
                ·
                  by_cases q9 : opVal .rem .u64 (IntKind.wrap .u64 a2) 5 < 1
                  ·
                    have e2 : opVal .rem .u64 (IntKind.wrap .u64 a2) 5 = 0 := by omega
                    exact atr r3_0_0 (rw3 e0 e1 e2) iv0 w hgl
                  ·
                    have e2 : opVal .rem .u64 (IntKind.wrap .u64 a2) 5 = 1 := by omega
                    exact atr r3_0_1 (rw3 e0 e1 e2) iv0 w hgl
                ·
                  by_cases q9 : opVal .rem .u64 (IntKind.wrap .u64 a2) 5 < 3
                  ·
                    have e2 : opVal .rem .u64 (IntKind.wrap .u64 a2) 5 = 2 := by omega
                    exact atr r3_0_2 (rw3 e0 e1 e2) iv0 w hgl
                  ·
                    by_cases q10 : opVal .rem .u64 (IntKind.wrap .u64 a2) 5 < 4
                    ·
                      have e2 : opVal .rem .u64 (IntKind.wrap .u64 a2) 5 = 3 := by omega
                      exact atr r3_0_3 (rw3 e0 e1 e2) iv0 w hgl
                    ·
                      have e2 : opVal .rem .u64 (IntKind.wrap .u64 a2) 5 = 4 := by omega
                      exact atr r3_0_4 (rw3 e0 e1 e2) iv0 w hgl
              ·
                have e1 : opVal .and .i64 a1 15 = 1 := by omega
                have g2 := rng2_5 a2
                by_cases q8 : opVal .rem .u64 (IntKind.wrap .u64 a2) 5 < 2
                ·
                  by_cases q9 : opVal .rem .u64 (IntKind.wrap .u64 a2) 5 < 1
                  ·
                    have e2 : opVal .rem .u64 (IntKind.wrap .u64 a2) 5 = 0 := by omega
                    exact atr r3_1_0 (rw3 e0 e1 e2) iv0 w hgl
                  ·
                    have e2 : opVal .rem .u64 (IntKind.wrap .u64 a2) 5 = 1 := by omega
                    exact atr r3_1_1 (rw3 e0 e1 e2) iv0 w hgl
                ·
                  by_cases q9 : opVal .rem .u64 (IntKind.wrap .u64 a2) 5 < 3
                  ·
                    have e2 : opVal .rem .u64 (IntKind.wrap .u64 a2) 5 = 2 := by omega
                    exact atr r3_1_2 (rw3 e0 e1 e2) iv0 w hgl
                  ·
                    by_cases q10 : opVal .rem .u64 (IntKind.wrap .u64 a2) 5 < 4
                    ·
                      have e2 : opVal .rem .u64 (IntKind.wrap .u64 a2) 5 = 3 := by omega
                      exact atr r3_1_3 (rw3 e0 e1 e2) iv0 w hgl
                    ·
                      have e2 : opVal .rem .u64 (IntKind.wrap .u64 a2) 5 = 4 := by omega
                      exact atr r3_1_4 (rw3 e0 e1 e2) iv0 w hgl
            ·
              by_cases q7 : opVal .and .i64 a1 15 < 3
              ·
                have e1 : opVal .and .i64 a1 15 = 2 := by omega
                have g2 := rng2_5 a2
                by_cases q8 : opVal .rem .u64 (IntKind.wrap .u64 a2) 5 < 2
                ·
                  by_cases q9 : opVal .rem .u64 (IntKind.wrap .u64 a2) 5 < 1
                  ·
                    have e2 : opVal .rem .u64 (IntKind.wrap .u64 a2) 5 = 0 := by omega
                    exact atr r3_2_0 (rw3 e0 e1 e2) iv0 w hgl
                  ·
                    have e2 : opVal .rem .u64 (IntKind.wrap .u64 a2) 5 = 1 := by omega
                    exact atr r3_2_1 (rw3 e0 e1 e2) iv0 w hgl
                ·
                  by_cases q9 : opVal .rem .u64 (IntKind.wrap .u64 a2) 5 < 3
                  ·
                    have e2 : opVal .rem .u64 (IntKind.wrap .u64 a2) 5 = 2 := by omega
                    exact atr r3_2_2 (rw3 e0 e1 e2) iv0 w hgl
                  ·
                    by_cases q10 : opVal .rem .u64 (IntKind.wrap .u64 a2) 5 < 4
                    ·
                      have e2 : opVal .rem .u64 (IntKind.wrap .u64 a2) 5 = 3 := by omega
                      exact atr r3_2_3 (rw3 e0 e1 e2) iv0 w hgl
                    ·
                      have e2 : opVal .rem .u64 (IntKind.wrap .u64 a2) 5 = 4 := by omega
                      exact atr r3_2_4 (rw3 e0 e1 e2) iv0 w hgl
              ·
                have e1 : opVal .and .i64 a1 15 = 3 := by omega
                have g2 := rng2_5 a2
                by_cases q8 : opVal .rem .u64 (IntKind.wrap .u64 a2) 5 < 2
                ·
                  by_cases q9 : opVal .rem .u64 (IntKind.wrap .u64 a2) 5 < 1
                  ·
                    have e2 : opVal .rem .u64 (IntKind.wrap .u64 a2) 5 = 0 := by omega
                    exact atr r3_3_0 (rw3 e0 e1 e2) iv0 w hgl
                  ·
                    have e2 : opVal .rem .u64 (IntKind.wrap .u64 a2) 5 = 1 := by omega
                    exact atr r3_3_1 (rw3 e0 e1 e2) iv0 w hgl
                ·
                  by_cases q9 : opVal .rem .u64 (IntKind.wrap .u64 a2) 5 < 3
                  ·
                    have e2 : opVal .rem .u64 (IntKind.wrap .u64 a2) 5 = 2 := by omega
                    exact atr r3_3_2 (rw3 e0 e1 e2) iv0 w hgl
                  ·
                    by_cases q10 : opVal .rem .u64 (IntKind.wrap .u64 a2) 5 < 4
                    ·
                      have e2 : opVal .rem .u64 (IntKind.wrap .u64 a2) 5 = 3 := by omega
                      exact atr r3_3_3 (rw3 e0 e1 e2) iv0 w hgl
                    ·
                      have e2 : opVal .rem .u64 (IntKind.wrap .u64 a2) 5 = 4 := by omega
                      exact atr r3_3_4 (rw3 e0 e1 e2) iv0 w hgl
          ·
            by_cases q6 : opVal .and .i64 a1 15 < 6
            ·
              by_cases q7 : opVal .and .i64 a1 15 < 5
              ·
                have e1 : opVal .and .i64 a1 15 = 4 := by omega
                have g2 := rng2_5 a2
                by_cases q8 : opVal .rem .u64 (IntKind.wrap .u64 a2) 5 < 2
                ·
                  by_cases q9 : opVal .rem .u64 (IntKind.wrap .u64 a2) 5 < 1
                  ·
                    have e2 : opVal .rem .u64 (IntKind.wrap .u64 a2) 5 = 0 := by omega
                    exact atr r3_4_0 (rw3 e0 e1 e2) iv0 w hgl
                  ·
                    have e2 : opVal .rem .u64 (IntKind.wrap .u64 a2) 5 = 1 := by omega
                    exact atr r3_4_1 (rw3 e0 e1 e2) iv0 w hgl
                ·
                  by_cases q9 : opVal .rem .u64 (IntKind.wrap .u64 a2) 5 < 3
                  ·
                    have e2 : opVal .rem .u64 (IntKind.wrap .u64 a2) 5 = 2 := by omega
                    exact atr r3_4_2 (rw3 e0 e1 e2) iv0 w hgl
                  ·
                    by_cases q10 : opVal .rem .u64 (IntKind.wrap .u64 a2) 5 < 4
                    ·
                      have e2 : opVal .rem .u64 (IntKind.wrap .u64 a2) 5 = 3 := by omega
                      exact atr r3_4_3 (rw3 e0 e1 e2) iv0 w hgl
                    ·
                      have e2 : opVal .rem .u64 (IntKind.wrap .u64 a2) 5 = 4 := by omega
                      exact atr r3_4_4 (rw3 e0 e1 e2) iv0 w hgl
              ·
                have e1 : opVal .and .i64 a1 15 = 5 := by omega
                have g2 := rng2_5 a2
                by_cases q8 : opVal .rem .u64 (IntKind.wrap .u64 a2) 5 < 2
                ·
                  by_cases q9 : opVal .rem .u64 (IntKind.wrap .u64 a2) 5 < 1
                  ·
                    have e2 : opVal .rem .u64 (IntKind.wrap .u64 a2) 5 = 0 := by omega
                    exact atr r3_5_0 (rw3 e0 e1 e2) iv0 w hgl
                  ·
                    have e2 : opVal .rem .u64 (IntKind.wrap .u64 a2) 5 = 1 := by omega
                    exact atr r3_5_1 (rw3 e0 e1 e2) iv0 w hgl
                ·
                  by_cases q9 : opVal .rem .u64 (IntKind.wrap .u64 a2) 5 < 3
                  ·
                    have e2 : opVal .rem .u64 (IntKind.wrap .u64 a2) 5 = 2 := by omega
                    exact atr r3_5_2 (rw3 e0 e1 e2) iv0 w hgl
                  ·
                    by_cases q10 : opVal .rem .u64 (IntKind.wrap .u64 a2) 5 < 4
                    ·
                      have e2 : opVal .rem .u64 (IntKind.wrap .u64 a2) 5 = 3 := by omega
                      exact atr r3_5_3 (rw3 e0 e1 e2) iv0 w hgl
                    ·
                      have e2 : opVal .rem .u64 (IntKind.wrap .u64 a2) 5 = 4 := by omega
                      exact atr r3_5_4 (rw3 e0 e1 e2) iv0 w hgl
            ·
              by_cases q7 : opVal .and .i64 a1 15 < 7
              ·
                have e1 : opVal .and .i64 a1 15 = 6 := by omega
                have g2 := rng2_5 a2
                by_cases q8 : opVal .rem .u64 (IntKind.wrap .u64 a2) 5 < 2
                ·
                  by_cases q9 : opVal .rem .u64 (IntKind.wrap .u64 a2) 5 < 1
                  ·
                    have e2 : opVal .rem .u64 (IntKind.wrap .u64 a2) 5 = 0 := by omega
                    exact atr r3_6_0 (rw3 e0 e1 e2) iv0 w hgl
                  ·
                    have e2 : opVal .rem .u64 (IntKind.wrap .u64 a2) 5 = 1 := by omega
                    exact atr r3_6_1 (rw3 e0 e1 e2) iv0 w hgl
                ·
                  by_cases q9 : opVal .rem .u64 (IntKind.wrap .u64 a2) 5 < 3
                  ·
                    have e2 : opVal .rem .u64 (IntKind.wrap .u64 a2) 5 = 2 := by omega
                    exact atr r3_6_2 (rw3 e0 e1 e2) iv0 w hgl
                  ·
                    by_cases q10 : opVal .rem .u64 (IntKind.wrap .u64 a2) 5 < 4
                    ·
                      have e2 : opVal .rem .u64 (IntKind.wrap .u64 a2) 5 = 3 := by omega
                      exact atr r3_6_3 (rw3 e0 e1 e2) iv0 w hgl
                    ·
                      have e2 : opVal .rem .u64 (IntKind.wrap .u64 a2) 5 = 4 := by omega
                      exact atr r3_6_4 (rw3 e0 e1 e2) iv0 w hgl
              ·
                have e1 : opVal .and .i64 a1 15 = 7 := by omega
                have g2 := rng2_5 a2
                by_cases q8 : opVal .rem .u64 (IntKind.wrap .u64 a2) 5 < 2
                ·
                  by_cases q9 : opVal .rem .u64 (IntKind.wrap .u64 a2) 5 < 1
                  ·
                    have e2 : opVal .rem .u64 (IntKind.wrap .u64 a2) 5 = 0 := by omega
                    exact atr r3_7_0 (rw3 e0 e1 e2) iv0 w hgl
                  ·
                    have e2 : opVal .rem .u64 (IntKind.wrap .u64 a2) 5 = 1 := by omega
                    exact atr r3_7_1 (rw3 e0 e1 e2) iv0 w hgl
                ·
                  by_cases q9 : opVal .rem .u64 (IntKind.wrap .u64 a2) 5 < 3
                  ·
                    have e2 : opVal .rem .u64 (IntKind.wrap .u64 a2) 5 = 2 := by omega
                    exact atr r3_7_2 (rw3 e0 e1 e2) iv0 w hgl
                  ·
                    by_cases q10 : opVal .rem .u64 (IntKind.wrap .u64 a2) 5 < 4
                    ·
                      have e2 : opVal .rem .u64 (IntKind.wrap .u64 a2) 5 = 3 := by omega
                      exact atr r3_7_3 (rw3 e0 e1 e2) iv0 w hgl
                    ·
                      have e2 : opVal .rem .u64 (IntKind.wrap .u64 a2) 5 = 4 := by omega
                      exact atr r3_7_4 (rw3 e0 e1 e2) iv0 w hgl
        ·
          by_cases q5 : opVal .and .i64 a1 15 < 12
          ·
            by_cases q6 : opVal .and .i64 a1 15 < 10
            ·
              by_cases q7 : opVal .and .i64 a1 15 < 9
              ·
                have e1 : opVal .and .i64 a1 15 = 8 := by omega
                have g2 := rng2_5 a2
                by_cases q8 : opVal .rem .u64 (IntKind.wrap .u64 a2) 5 < 2
                ·
                  by_cases q9 : opVal .rem .u64 (IntKind.wrap .u64 a2) 5 < 1
                  ·
                    have e2 : opVal .rem .u64 (IntKind.wrap .u64 a2) 5 = 0 := by omega
                    exact atr r3_8_0 (rw3 e0 e1 e2) iv0 w hgl
                  ·
                    have e2 : opVal .rem .u64 (IntKind.wrap .u64 a2) 5 = 1 := by omega
                    exact atr r3_8_1 (rw3 e0 e1 e2) iv0 w hgl
                ·
                  by_cases q9 : opVal .rem .u64 (IntKind.wrap .u64 a2) 5 < 3
                  ·
                    have e2 : opVal .rem .u64 (IntKind.wrap .u64 a2) 5 = 2 := by omega
                    exact atr r3_8_2 (rw3 e0 e1 e2) iv0 w hgl
                  ·
                    by_cases q10 : opVal .rem .u64 (IntKind.wrap .u64 a2) 5 < 4
                    ·
                      have e2 : opVal .rem .u64 (IntKind.wrap .u64 a2) 5 = 3 := by omega
                      exact atr r3_8_3 (rw3 e0 e1 e2) iv0 w hgl
                    ·
                      have e2 : opVal .rem .u64 (IntKind.wrap .u64 a2) 5 = 4 := by omega
                      exact atr r3_8_4 (rw3 e0 e1 e2) iv0 w hgl
              ·
                have e1 : opVal .and .i64 a1 15 = 9 := by omega
                have g2 := rng2_5 a2
                by_cases q8 : opVal .rem .u64 (IntKind.wrap .u64 a2) 5 < 2
                ·
                  by_cases q9 : opVal .rem .u64 (IntKind.wrap .u64 a2) 5 < 1
                  ·
                    have e2 : opVal .rem .u64 (IntKind.wrap .u64 a2) 5 = 0 := by omega
                    exact atr r3_9_0 (rw3 e0 e1 e2) iv0 w hgl
                  ·
                    have e2 : opVal .rem .u64 (IntKind.wrap .u64 a2) 5 = 1 := by omega
                    exact atr r3_9_1 (rw3 e0 e1 e2) iv0 w hgl
                ·
                  by_cases q9 : opVal .rem .u64 (IntKind.wrap .u64 a2) 5 < 3
                  ·
                    have e2 : opVal .rem .u64 (IntKind.wrap .u64 a2) 5 = 2 := by omega
                    exact atr r3_9_2 (rw3 e0 e1 e2) iv0 w hgl
                  ·
                    by_cases q10 : opVal .rem .u64 (IntKind.wrap .u64 a2) 5 < 4
                    ·
                      have e2 : opVal .rem .u64 (IntKind.wrap .u64 a2) 5 = 3 := by omega
                      exact atr r3_9_3 (rw3 e0 e1 e2) iv0 w hgl
                    ·
                      have e2 : opVal .rem .u64 (IntKind.wrap .u64 a2) 5 = 4 := by omega
                      exact atr r3_9_4 (rw3 e0 e1 e2) iv0 w hgl
            ·
              by_cases q7 : opVal .and .i64 a1 15 < 11
              ·
                have e1 : opVal .and .i64 a1 15 = 10 := by omega
                have g2 := rng2_5 a2
                by_cases q8 : opVal .rem .u64 (IntKind.wrap .u64 a2) 5 < 2
                ·
                  by_cases q9 : opVal .rem .u64 (IntKind.wrap .u64 a2) 5 < 1
                  ·
                    have e2 : opVal .rem .u64 (IntKind.wrap .u64 a2) 5 = 0 := by omega
                    exact atr r3_10_0 (rw3 e0 e1 e2) iv0 w hgl
                  ·
                    have e2 : opVal .rem .u64 (IntKind.wrap .u64 a2) 5 = 1 := by omega
                    exact atr r3_10_1 (rw3 e0 e1 e2) iv0 w hgl
                ·
                  by_cases q9 : opVal .rem .u64 (IntKind.wrap .u64 a2) 5 < 3
                  ·
                    have e2 : opVal .rem .u64 (IntKind.wrap .u64 a2) 5 = 2 := by omega
                    exact atr r3_10_2 (rw3 e0 e1 e2) iv0 w hgl
                  ·
                    by_cases q10 : opVal .rem .u64 (IntKind.wrap .u64 a2) 5 < 4
                    ·
                      have e2 : opVal .rem .u64 (IntKind.wrap .u64 a2) 5 = 3 := by omega
                      exact atr r3_10_3 (rw3 e0 e1 e2) iv0 w hgl
                    ·
                      have e2 : opVal .rem .u64 (IntKind.wrap .u64 a2) 5 = 4 := by omega
                      exact atr r3_10_4 (rw3 e0 e1 e2) iv0 w hgl
              ·
                have e1 : opVal .and .i64 a1 15 = 11 := by omega
                have g2 := rng2_5 a2
                by_cases q8 : opVal .rem .u64 (IntKind.wrap .u64 a2) 5 < 2
                ·
                  by_cases q9 : opVal .rem .u64 (IntKind.wrap .u64 a2) 5 < 1
                  ·
                    have e2 : opVal .rem .u64 (IntKind.wrap .u64 a2) 5 = 0 := by omega
                    exact atr r3_11_0 (rw3 e0 e1 e2) iv0 w hgl
                  ·
                    have e2 : opVal .rem .u64 (IntKind.wrap .u64 a2) 5 = 1 := by omega
                    exact atr r3_11_1 (rw3 e0 e1 e2) iv0 w hgl
                ·
                  by_cases q9 : opVal .rem .u64 (IntKind.wrap .u64 a2) 5 < 3
                  ·
                    have e2 : opVal .rem .u64 (IntKind.wrap .u64 a2) 5 = 2 := by omega
                    exact atr r3_11_2 (rw3 e0 e1 e2) iv0 w hgl
                  ·
                    by_cases q10 : opVal .rem .u64 (IntKind.wrap .u64 a2) 5 < 4
                    ·
                      have e2 : opVal .rem .u64 (IntKind.wrap .u64 a2) 5 = 3 := by omega
                      exact atr r3_11_3 (rw3 e0 e1 e2) iv0 w hgl
                    ·
                      have e2 : opVal .rem .u64 (IntKind.wrap .u64 a2) 5 = 4 := by omega
                      exact atr r3_11_4 (rw3 e0 e1 e2) iv0 w hgl
          ·
            by_cases q6 : opVal .and .i64 a1 15 < 14
            ·
              by_cases q7 : opVal .and .i64 a1 15 < 13
              ·
                have e1 : opVal .and .i64 a1 15 = 12 := by omega
                have g2 := rng2_5 a2
                by_cases q8 : opVal .rem .u64 (IntKind.wrap .u64 a2) 5 < 2
                ·
                  by_cases q9 : opVal .rem .u64 (IntKind.wrap .u64 a2) 5 < 1
                  ·
                    have e2 : opVal .rem .u64 (IntKind.wrap .u64 a2) 5 = 0 := by omega
                    exact atr r3_12_0 (rw3 e0 e1 e2) iv0 w hgl
                  ·
                    have e2 : opVal .rem .u64 (IntKind.wrap .u64 a2) 5 = 1 := by omega
                    exact atr r3_12_1 (rw3 e0 e1 e2) iv0 w hgl
                ·
                  by_cases q9 : opVal .rem .u64 (IntKind.wrap .u64 a2) 5 < 3
                  ·
                    have e2 : opVal .rem .u64 (IntKind.wrap .u64 a2) 5 = 2 := by omega
                    exact atr r3_12_2 (rw3 e0 e1 e2) iv0 w hgl
                  ·
                    by_cases q10 : opVal .rem .u64 (IntKind.wrap .u64 a2) 5 < 4
                    ·
                      have e2 : opVal .rem .u64 (IntKind.wrap .u64 a2) 5 = 3 := by omega
                      exact atr r3_12_3 (rw3 e0 e1 e2) iv0 w hgl
                    ·
                      have e2 : opVal .rem .u64 (IntKind.wrap .u64 a2) 5 = 4 := by omega
                      exact atr r3_12_4 (rw3 e0 e1 e2) iv0 w hgl
              ·
                have e1 : opVal .and .i64 a1 15 = 13 := by omega
                have g2 := rng2_5 a2
                by_cases q8 : opVal .rem .u64 (IntKind.wrap .u64 a2) 5 < 2
                ·
                  by_cases q9 : opVal .rem .u64 (IntKind.wrap .u64 a2) 5 < 1
                  ·
                    have e2 : opVal .rem .u64 (IntKind.wrap .u64 a2) 5 = 0 := by omega
                    exact atr r3_13_0 (rw3 e0 e1 e2) iv0 w hgl
                  ·
                    have e2 : opVal .rem .u64 (IntKind.wrap .u64 a2) 5 = 1 := by omega
                    exact atr r3_13_1 (rw3 e0 e1 e2) iv0 w hgl
                ·
                  by_cases q9 : opVal .rem .u64 (IntKind.wrap .u64 a2) 5 < 3
                  ·
                    have e2 : opVal .rem .u64 (IntKind.wrap .u64 a2) 5 = 2 := by omega
                    exact atr r3_13_2 (rw3 e0 e1 e2) iv0 w hgl
                  ·
                    by_cases q10 : opVal .rem .u64 (IntKind.wrap .u64 a2) 5 < 4
                    ·
                      have e2 : opVal .rem .u64 (IntKind.wrap .u64 a2) 5 = 3 := by omega
                      exact atr r3_13_3 (rw3 e0 e1 e2) iv0 w hgl
                    ·
                      have e2 : opVal .rem .u64 (IntKind.wrap .u64 a2) 5 = 4 := by omega
                      exact atr r3_13_4 (rw3 e0 e1 e2) iv0 w hgl
            ·
              by_cases q7 : opVal .and .i64 a1 15 < 15
              ·
                have e1 : opVal .and .i64 a1 15 = 14 := by omega
                have g2 := rng2_5 a2
                by_cases q8 : opVal .rem .u64 (IntKind.wrap .u64 a2) 5 < 2
                ·
                  by_cases q9 : opVal .rem .u64 (IntKind.wrap .u64 a2) 5 < 1
                  ·
                    have e2 : opVal .rem .u64 (IntKind.wrap .u64 a2) 5 = 0 := by omega
                    exact atr r3_14_0 (rw3 e0 e1 e2) iv0 w hgl
                  ·
                    have e2 : opVal .rem .u64 (IntKind.wrap .u64 a2) 5 = 1 := by omega
                    exact atr r3_14_1 (rw3 e0 e1 e2) iv0 w hgl
                ·
                  by_cases q9 : opVal .rem .u64 (IntKind.wrap .u64 a2) 5 < 3
                  ·
                    have e2 : opVal .rem .u64 (IntKind.wrap .u64 a2) 5 = 2 := by omega
                    exact atr r3_14_2 (rw3 e0 e1 e2) iv0 w hgl
                  ·
                    by_cases q10 : opVal .rem .u64 (IntKind.wrap .u64 a2) 5 < 4
                    ·
                      have e2 : opVal .rem .u64 (IntKind.wrap .u64 a2) 5 = 3 := by omega
                      exact atr r3_14_3 (rw3 e0 e1 e2) iv0 w hgl
                    ·
                      have e2 : opVal .rem .u64 (IntKind.wrap .u64 a2) 5 = 4 := by omega
                      exact atr r3_14_4 (rw3 e0 e1 e2) iv0 w hgl
              ·
                have e1 : opVal .and .i64 a1 15 = 15 := by omega
                have g2 := rng2_5 a2
                by_cases q8 : opVal .rem .u64 (IntKind.wrap .u64 a2) 5 < 2
                ·
                  by_cases q9 : opVal .rem .u64 (IntKind.wrap .u64 a2) 5 < 1
                  ·
                    have e2 : opVal .rem .u64 (IntKind.wrap .u64 a2) 5 = 0 := by omega
                    exact atr r3_15_0 (rw3 e0 e1 e2) iv0 w hgl
                  ·
                    have e2 : opVal .rem .u64 (IntKind.wrap .u64 a2) 5 = 1 := by omega
                    exact atr r3_15_1 (rw3 e0 e1 e2) iv0 w hgl
                ·
                  by_cases q9 : opVal .rem .u64 (IntKind.wrap .u64 a2) 5 < 3
                  ·
                    have e2 : opVal .rem .u64 (IntKind.wrap .u64 a2) 5 = 2 := by omega
                    exact atr r3_15_2 (rw3 e0 e1 e2) iv0 w hgl
                  ·
                    by_cases q10 : opVal .rem .u64 (IntKind.wrap .u64 a2) 5 < 4
                    ·
                      have e2 : opVal .rem .u64 (IntKind.wrap .u64 a2) 5 = 3 := by omega
                      exact atr r3_15_3 (rw3 e0 e1 e2) iv0 w hgl
                    ·
                      have e2 : opVal .rem .u64 (IntKind.wrap .u64 a2) 5 = 4 := by omega
                      exact atr r3_15_4 (rw3 e0 e1 e2) iv0 w hgl
  ·
    by_cases q2 : opVal .and .i64 a0 7 < 6
    ·
      by_cases q3 : opVal .and .i64 a0 7 < 5
      ·
        have e0 : opVal .and .i64 a0 7 = 4 := by omega
        have g1 := rng1 a1
        by_cases q4 : opVal .and .i64 a1 15 < 8
        ·
          by_cases q5 : opVal .and .i64 a1 15 < 4
          ·
            by_cases q6 : opVal .and .i64 a1 15 < 2
            ·
              by_cases q7 : opVal .and .i64 a1 15 < 1
              ·
                have e1 : opVal .and .i64 a1 15 = 0 := by omega
                have g2 := rng2_6 a2
                by_cases q8 : opVal .rem .u64 (IntKind.wrap .u64 a2) 6 < 3
                ·
                  by_cases q9 : opVal .rem .u64 (IntKind.wrap .u64 a2) 6 < 1
                  ·
                    have e2 : opVal .rem .u64 (IntKind.wrap .u64 a2) 6 = 0 := by omega
                    exact atr r4_0_0 (rw3 e0 e1 e2) iv0 w hgl
                  ·
                    by_cases q10 : opVal .rem .u64 (IntKind.wrap .u64 a2) 6 < 2
                    ·
                      have e2 : opVal .rem .u64 (IntKind.wrap .u64 a2) 6 = 1 := by omega
                      exact atr r4_0_1 (rw3 e0 e1 e2) iv0 w hgl
                    ·
                      have e2 : opVal .rem .u64 (IntKind.wrap .u64 a2) 6 = 2 := by omega
                      exact atr r4_0_2 (rw3 e0 e1 e2) iv0 w hgl
                ·
                  by_cases q9 : opVal .rem .u64 (IntKind.wrap .u64 a2) 6 < 4
                  ·
                    have e2 : opVal .rem .u64 (IntKind.wrap .u64 a2) 6 = 3 := by omega
                    exact atr r4_0_3 (rw3 e0 e1 e2) iv0 w hgl
                  ·
                    by_cases q10 : opVal .rem .u64 (IntKind.wrap .u64 a2) 6 < 5
                    ·
                      have e2 : opVal .rem .u64 (IntKind.wrap .u64 a2) 6 = 4 := by omega
                      exact atr r4_0_4 (rw3 e0 e1 e2) iv0 w hgl
                    ·
                      have e2 : opVal .rem .u64 (IntKind.wrap .u64 a2) 6 = 5 := by omega
                      exact atr r4_0_5 (rw3 e0 e1 e2) iv0 w hgl
              ·
                have e1 : opVal .and .i64 a1 15 = 1 := by omega
                have g2 := rng2_6 a2
                by_cases q8 : opVal .rem .u64 (IntKind.wrap .u64 a2) 6 < 3
                ·
                  by_cases q9 : opVal .rem .u64 (IntKind.wrap .u64 a2) 6 < 1
                  ·
                    have e2 : opVal .rem .u64 (IntKind.wrap .u64 a2) 6 = 0 := by omega
                    exact atr r4_1_0 (rw3 e0 e1 e2) iv0 w hgl
                  ·
                    by_cases q10 : opVal .rem .u64 (IntKind.wrap .u64 a2) 6 < 2
                    ·
                      have e2 : opVal .rem .u64 (IntKind.wrap .u64 a2) 6 = 1 := by omega
                      exact atr r4_1_1 (rw3 e0 e1 e2) iv0 w hgl
                    ·
                      have e2 : opVal .rem .u64 (IntKind.wrap .u64 a2) 6 = 2 := by omega
                      exact atr r4_1_2 (rw3 e0 e1 e2) iv0 w hgl
                ·
                  by_cases q9 : opVal .rem .u64 (IntKind.wrap .u64 a2) 6 < 4
                  ·
                    have e2 : opVal .rem .u64 (IntKind.wrap .u64 a2) 6 = 3 := by omega
                    exact atr r4_1_3 (rw3 e0 e1 e2) iv0 w hgl
                  ·
                    by_cases q10 : opVal .rem .u64 (IntKind.wrap .u64 a2) 6 < 5
                    ·
                      have e2 : opVal .rem .u64 (IntKind.wrap .u64 a2) 6 = 4 := by omega
                      exact atr r4_1_4 (rw3 e0 e1 e2) iv0 w hgl
                    ·
                      have e2 : opVal .rem .u64 (IntKind.wrap .u64 a2) 6 = 5 := by omega
                      exact atr r4_1_5 (rw3 e0 e1 e2) iv0 w hgl
            ·
              by_cases q7 : opVal .and .i64 a1 15 < 3
              ·
                have e1 : opVal .and .i64 a1 15 = 2 := by omega
                have g2 := rng2_6 a2
                by_cases q8 : opVal .rem .u64 (IntKind.wrap .u64 a2) 6 < 3
                ·
                  by_cases q9 : opVal .rem .u64 (IntKind.wrap .u64 a2) 6 < 1
                  ·
                    have e2 : opVal .rem .u64 (IntKind.wrap .u64 a2) 6 = 0 := by omega
                    exact atr r4_2_0 (rw3 e0 e1 e2) iv0 w hgl
                  ·
                    by_cases q10 : opVal .rem .u64 (IntKind.wrap .u64 a2) 6 < 2
                    ·
                      have e2 : opVal .rem .u64 (IntKind.wrap .u64 a2) 6 = 1 := by omega
                      exact atr r4_2_1 (rw3 e0 e1 e2) iv0 w hgl
                    ·
                      have e2 : opVal .rem .u64 (IntKind.wrap .u64 a2) 6 = 2 := by omega
                      exact atr r4_2_2 (rw3 e0 e1 e2) iv0 w hgl
                ·
                  by_cases q9 : opVal .rem .u64 (IntKind.wrap .u64 a2) 6 < 4
                  ·
                    have e2 : opVal .rem .u64 (IntKind.wrap .u64 a2) 6 = 3 := by omega
                    exact atr r4_2_3 (rw3 e0 e1 e2) iv0 w hgl
                  ·
                    by_cases q10 : opVal .rem .u64 (IntKind.wrap .u64 a2) 6 < 5
                    ·
                      have e2 : opVal .rem .u64 (IntKind.wrap .u64 a2) 6 = 4 := by omega
                      exact atr r4_2_4 (rw3 e0 e1 e2) iv0 w hgl
                    ·
                      have e2 : opVal .rem .u64 (IntKind.wrap .u64 a2) 6 = 5 := by omega
                      exact atr r4_2_5 (rw3 e0 e1 e2) iv0 w hgl
              ·
                have e1 : opVal .and .i64 a1 15 = 3 := by omega
                have g2 := rng2_6 a2
                by_cases q8 : opVal .rem .u64 (IntKind.wrap .u64 a2) 6 < 3
                ·
                  by_cases q9 : opVal .rem .u64 (IntKind.wrap .u64 a2) 6 < 1
                  ·
                    have e2 : opVal .rem .u64 (IntKind.wrap .u64 a2) 6 = 0 := by omega
                    exact atr r4_3_0 (rw3 e0 e1 e2) iv0 w hgl
                  ·
                    by_cases q10 : opVal .rem .u64 (IntKind.wrap .u64 a2) 6 < 2
                    ·
                      have e2 : opVal .rem .u64 (IntKind.wrap .u64 a2) 6 = 1 := by omega
                      exact atr r4_3_1 (rw3 e0 e1 e2) iv0 w hgl
                    ·
                      have e2 : opVal .rem .u64 (IntKind.wrap .u64 a2) 6 = 2 := by omega
                      exact atr r4_3_2 (rw3 e0 e1 e2) iv0 w hgl
                ·
                  by_cases q9 : opVal .rem .u64 (IntKind.wrap .u64 a2) 6 < 4
                  ·
                    have e2 : opVal .rem .u64 (IntKind.wrap .u64 a2) 6 = 3 := by omega
                    exact atr r4_3_3 (rw3 e0 e1 e2) iv0 w hgl
                  ·
                    by_cases q10 : opVal .rem .u64 (IntKind.wrap .u64 a2) 6 < 5
                    ·
                      have e2 : opVal .rem .u64 (IntKind.wrap .u64 a2) 6 = 4 := by omega
                      exact atr r4_3_4 (rw3 e0 e1 e2) iv0 w hgl
                    ·
                      have e2 : opVal .rem .u64 (IntKind.wrap .u64 a2) 6 = 5 := by omega
                      exact atr r4_3_5 (rw3 e0 e1 e2) iv0 w hgl
          ·
            by_cases q6 : opVal .and .i64 a1 15 < 6
            ·
              by_cases q7 : opVal .and .i64 a1 15 < 5
              ·
                have e1 : opVal .and .i64 a1 15 = 4 := by omega
                have g2 := rng2_6 a2
                by_cases q8 : opVal .rem .u64 (IntKind.wrap .u64 a2) 6 < 3
                ·
                  by_cases q9 : opVal .rem .u64 (IntKind.wrap .u64 a2) 6 < 1
                  ·
                    have e2 : opVal .rem .u64 (IntKind.wrap .u64 a2) 6 = 0 := by omega
                    exact atr r4_4_0 (rw3 e0 e1 e2) iv0 w hgl
                  ·
                    by_cases q10 : opVal .rem .u64 (IntKind.wrap .u64 a2) 6 < 2
                    ·
                      have e2 : opVal .rem .u64 (IntKind.wrap .u64 a2) 6 = 1 := by omega
                      exact atr r4_4_1 (rw3 e0 e1 e2) iv0 w hgl
                    ·
                      have e2 : opVal .rem .u64 (IntKind.wrap .u64 a2) 6 = 2 := by omega
                      exact atr r4_4_2 (rw3 e0 e1 e2) iv0 w hgl
                ·
                  by_cases q9 : opVal .rem .u64 (IntKind.wrap .u64 a2) 6 < 4
                  ·
                    have e2 : opVal .rem .u64 (IntKind.wrap .u64 a2) 6 = 3 := by omega
                    exact atr r4_4_3 (rw3 e0 e1 e2) iv0 w hgl
                  ·
                    by_cases q10 : opVal .rem .u64 (IntKind.wrap .u64 a2) 6 < 5
                    ·
                      have e2 : opVal .rem .u64 (IntKind.wrap .u64 a2) 6 = 4 := by omega
                      exact atr r4_4_4 (rw3 e0 e1 e2) iv0 w hgl
                    ·
                      have e2 : opVal .rem .u64 (IntKind.wrap .u64 a2) 6 = 5 := by omega
                      exact atr r4_4_5 (rw3 e0 e1 e2) iv0 w hgl
              ·
                have e1 : opVal .and .i64 a1 15 = 5 := by omega
                have g2 := rng2_6 a2
                by_cases q8 : opVal .rem .u64 (IntKind.wrap .u64 a2) 6 < 3
                ·
                  by_cases q9 : opVal .rem .u64 (IntKind.wrap .u64 a2) 6 < 1
                  ·
                    have e2 : opVal .rem .u64 (IntKind.wrap .u64 a2) 6 = 0 := by omega
                    exact atr r4_5_0 (rw3 e0 e1 e2) iv0 w hgl
                  ·
                    by_cases q10 : opVal .rem .u64 (IntKind.wrap .u64 a2) 6 < 2
                    ·
                      have e2 : opVal .rem .u64 (IntKind.wrap .u64 a2) 6 = 1 := by omega
                      exact atr r4_5_1 (rw3 e0 e1 e2) iv0 w hgl
                    ·
                      have e2 : opVal .rem .u64 (IntKind.wrap .u64 a2) 6 = 2 := by omega
                      exact atr r4_5_2 (rw3 e0 e1 e2) iv0 w hgl
                ·
                  by_cases q9 : opVal .rem .u64 (IntKind.wrap .u64 a2) 6 < 4
                  ·
                    have e2 : opVal .rem .u64 (IntKind.wrap .u64 a2) 6 = 3 := by omega
                    exact atr r4_5_3 (rw3 e0 e1 e2) iv0 w hgl
                  ·
                    by_cases q10 : opVal .rem .u64 (IntKind.wrap .u64 a2) 6 < 5
                    ·
                      have e2 : opVal .rem .u64 (IntKind.wrap .u64 a2) 6 = 4 := by omega
                      exact atr r4_5_4 (rw3 e0 e1 e2) iv0 w hgl
                    ·
                      have e2 : opVal .rem .u64 (IntKind.wrap .u64 a2) 6 = 5 := by omega
                      exact atr r4_5_5 (rw3 e0 e1 e2) iv0 w hgl
            ·
              by_cases q7 : opVal .and .i64 a1 15 < 7
              ·
                have e1 : opVal .and .i64 a1 15 = 6 := by omega
                have g2 := rng2_6 a2
                by_cases q8 : opVal .rem .u64 (IntKind.wrap .u64 a2) 6 < 3
                ·
                  by_cases q9 : opVal .rem .u64 (IntKind.wrap .u64 a2) 6 < 1
                  ·
                    have e2 : opVal .rem .u64 (IntKind.wrap .u64 a2) 6 = 0 := by omega
                    exact atr r4_6_0 (rw3 e0 e1 e2) iv0 w hgl
                  ·
                    by_cases q10 : opVal .rem .u64 (IntKind.wrap .u64 a2) 6 < 2
                    ·
                      have e2 : opVal .rem .u64 (IntKind.wrap .u64 a2) 6 = 1 := by omega
                      exact atr r4_6_1 (rw3 e0 e1 e2) iv0 w hgl
                    ·
                      have e2 : opVal .rem .u64 (IntKind.wrap .u64 a2) 6 = 2 := by omega
                      exact atr r4_6_2 (rw3 e0 e1 e2) iv0 w hgl
                ·
                  by_cases q9 : opVal .rem .u64 (IntKind.wrap .u64 a2) 6 < 4
                  ·
                    have e2 : opVal .rem .u64 (IntKind.wrap .u64 a2) 6 = 3 := by omega
                    exact atr r4_6_3 (rw3 e0 e1 e2) iv0 w hgl
                  ·
                    by_cases q10 : opVal .rem .u64 (IntKind.wrap .u64 a2) 6 < 5
                    ·
                      have e2 : opVal .rem .u64 (IntKind.wrap .u64 a2) 6 = 4 := by omega
                      exact atr r4_6_4 (rw3 e0 e1 e2) iv0 w hgl
                    ·
                      have e2 : opVal .rem .u64 (IntKind.wrap .u64 a2) 6 = 5 := by omega
                      exact atr r4_6_5 (rw3 e0 e1 e2) iv0 w hgl
              ·
                have e1 : opVal .and .i64 a1 15 = 7 := by omega
                have g2 := rng2_6 a2
                by_cases q8 : opVal .rem .u64 (IntKind.wrap .u64 a2) 6 < 3
                ·
                  by_cases q9 : opVal .rem .u64 (IntKind.wrap .u64 a2) 6 < 1
                  ·
                    have e2 : opVal .rem .u64 (IntKind.wrap .u64 a2) 6 = 0 := by omega
                    exact atr r4_7_0 (rw3 e0 e1 e2) iv0 w hgl
                  ·
                    by_cases q10 : opVal .rem .u64 (IntKind.wrap .u64 a2) 6 < 2
                    ·
                      have e2 : opVal .rem .u64 (IntKind.wrap .u64 a2) 6 = 1 := by omega
                      exact atr r4_7_1 (rw3 e0 e1 e2) iv0 w hgl
                    ·
                      have e2 : opVal .rem .u64 (IntKind.wrap .u64 a2) 6 = 2 := by omega
                      exact atr r4_7_2 (rw3 e0 e1 e2) iv0 w hgl
                ·
                  by_cases q9 : opVal .rem .u64 (IntKind.wrap .u64 a2) 6 < 4
                  ·
                    have e2 : opVal .rem .u64 (IntKind.wrap .u64 a2) 6 = 3 := by omega
                    exact atr r4_7_3 (rw3 e0 e1 e2) iv0 w hgl
                  ·
                    by_cases q10 : opVal .rem .u64 (IntKind.wrap .u64 a2) 6 < 5
                    ·
                      have e2 : opVal .rem .u64 (IntKind.wrap .u64 a2) 6 = 4 := by omega
                      exact atr r4_7_4 (rw3 e0 e1 e2) iv0 w hgl
                    ·
                      have e2 : opVal .rem .u64 (IntKind.wrap .u64 a2) 6 = 5 := by omega
                      exact atr r4_7_5 (rw3 e0 e1 e2) iv0 w hgl
        ·
          by_cases q5 : opVal .and .i64 a1 15 < 12
          ·
            by_cases q6 : opVal .and .i64 a1 15 < 10
            ·
              by_cases q7 : opVal .and .i64 a1 15 < 9
              ·
                have e1 : opVal .and .i64 a1 15 = 8 := by omega
                have g2 := rng2_6 a2
                by_cases q8 : opVal .rem .u64 (IntKind.wrap .u64 a2) 6 < 3
                ·
                  by_cases q9 : opVal .rem .u64 (IntKind.wrap .u64 a2) 6 < 1
                  ·
                    have e2 : opVal .rem .u64 (IntKind.wrap .u64 a2) 6 = 0 := by omega
                    exact atr r4_8_0 (rw3 e0 e1 e2) iv0 w hgl
                  ·
                    by_cases q10 : opVal .rem .u64 (IntKind.wrap .u64 a2) 6 < 2
                    ·
                      have e2 : opVal .rem .u64 (IntKind.wrap .u64 a2) 6 = 1 := by omega
                      exact atr r4_8_1 (rw3 e0 e1 e2) iv0 w hgl
                    ·
                      have e2 : opVal .rem .u64 (IntKind.wrap .u64 a2) 6 = 2 := by omega
                      exact atr r4_8_2 (rw3 e0 e1 e2) iv0 w hgl
                ·
                  by_cases q9 : opVal .rem .u64 (IntKind.wrap .u64 a2) 6 < 4
                  ·
                    have e2 : opVal .rem .u64 (IntKind.wrap .u64 a2) 6 = 3 := by omega
                    exact atr r4_8_3 (rw3 e0 e1 e2) iv0 w hgl
                  ·
                    by_cases q10 : opVal .rem .u64 (IntKind.wrap .u64 a2) 6 < 5
                    ·
                      have e2 : opVal .rem .u64 (IntKind.wrap .u64 a2) 6 = 4 := by omega
                      exact atr r4_8_4 (rw3 e0 e1 e2) iv0 w hgl
                    ·
                      have e2 : opVal .rem .u64 (IntKind.wrap .u64 a2) 6 = 5 := by omega
                      exact atr r4_8_5 (rw3 e0 e1 e2) iv0 w hgl
              ·
                have e1 : opVal .and .i64 a1 15 = 9 := by omega
                have g2 := rng2_6 a2
                by_cases q8 : opVal .rem .u64 (IntKind.wrap .u64 a2) 6 < 3
                ·
                  by_cases q9 : opVal .rem .u64 (IntKind.wrap .u64 a2) 6 < 1
                  ·
                    have e2 : opVal .rem .u64 (IntKind.wrap .u64 a2) 6 = 0 := by omega
                    exact atr r4_9_0 (rw3 e0 e1 e2) iv0 w hgl
                  ·
                    by_cases q10 : opVal .rem .u64 (IntKind.wrap .u64 a2) 6 < 2
                    ·
                      have e2 : opVal .rem .u64 (IntKind.wrap .u64 a2) 6 = 1 := by omega
                      exact atr r4_9_1 (rw3 e0 e1 e2) iv0 w hgl
                    ·
                      have e2 : opVal .rem .u64 (IntKind.wrap .u64 a2) 6 = 2 := by omega
                      exact atr r4_9_2 (rw3 e0 e1 e2) iv0 w hgl
                ·
                  by_cases q9 : opVal .rem .u64 (IntKind.wrap .u64 a2) 6 < 4
                  ·
                    have e2 : opVal .rem .u64 (IntKind.wrap .u64 a2) 6 = 3 := by omega
                    exact atr r4_9_3 (rw3 e0 e1 e2) iv0 w hgl
                  ·
                    by_cases q10 : opVal .rem .u64 (IntKind.wrap .u64 a2) 6 < 5
                    ·
                      have e2 : opVal .rem .u64 (IntKind.wrap .u64 a2) 6 = 4 := by omega
                      exact atr r4_9_4 (rw3 e0 e1 e2) iv0 w hgl
                    ·
                      have e2 : opVal .rem .u64 (IntKind.wrap .u64 a2) 6 = 5 := by omega
                      exact atr r4_9_5 (rw3 e0 e1 e2) iv0 w hgl
            ·
              by_cases q7 : opVal .and .i64 a1 15 < 11
              ·
                have e1 : opVal .and .i64 a1 15 = 10 := by omega
                have g2 := rng2_6 a2
                by_cases q8 : opVal .rem .u64 (IntKind.wrap .u64 a2) 6 < 3
                ·
                  by_cases q9 : opVal .rem .u64 (IntKind.wrap .u64 a2) 6 < 1
                  ·
                    have e2 : opVal .rem .u64 (IntKind.wrap .u64 a2) 6 = 0 := by omega
                    exact atr r4_10_0 (rw3 e0 e1 e2) iv0 w hgl
                  ·
                    by_cases q10 : opVal .rem .u64 (IntKind.wrap .u64 a2) 6 < 2
                    ·
                      have e2 : opVal .rem .u64 (IntKind.wrap .u64 a2) 6 = 1 := by omega
                      exact atr r4_10_1 (rw3 e0 e1 e2) iv0 w hgl
                    ·
                      have e2 : opVal .rem .u64 (IntKind.wrap .u64 a2) 6 = 2 := by omega
                      exact atr r4_10_2 (rw3 e0 e1 e2) iv0 w hgl
                ·
                  by_cases q9 : opVal .rem .u64 (IntKind.wrap .u64 a2) 6 < 4
                  ·
                    have e2 : opVal .rem .u64 (IntKind.wrap .u64 a2) 6 = 3 := by omega
                    exact atr r4_10_3 (rw3 e0 e1 e2) iv0 w hgl
                  ·
                    by_cases q10 : opVal .rem .u64 (IntKind.wrap .u64 a2) 6 < 5
                    ·
                      have e2 : opVal .rem .u64 (IntKind.wrap .u64 a2) 6 = 4 := by omega
                      exact atr r4_10_4 (rw3 e0 e1 e2) iv0 w hgl
                    ·
                      have e2 : opVal .rem .u64 (IntKind.wrap .u64 a2) 6 = 5 := by omega
                      exact atr r4_10_5 (rw3 e0 e1 e2) iv0 w hgl
              ·
                have e1 : opVal .and .i64 a1 15 = 11 := by omega
                have g2 := rng2_6 a2
                by_cases q8 : opVal .rem .u64 (IntKind.wrap .u64 a2) 6 < 3
                ·
                  by_cases q9 : opVal .rem .u64 (IntKind.wrap .u64 a2) 6 < 1
                  ·
                    have e2 : opVal .rem .u64 (IntKind.wrap .u64 a2) 6 = 0 := by omega
                    exact atr r4_11_0 (rw3 e0 e1 e2) iv0 w hgl
                  ·
                    by_cases q10 : opVal .rem .u64 (IntKind.wrap .u64 a2) 6 < 2
                    ·
                      have e2 : opVal .rem .u64 (IntKind.wrap .u64 a2) 6 = 1 := by omega
                      exact atr r4_11_1 (rw3 e0 e1 e2) iv0 w hgl
                    ·
                      have e2 : opVal .rem .u64 (IntKind.wrap .u64 a2) 6 = 2 := by omega
                      exact atr r4_11_2 (rw3 e0 e1 e2) iv0 w hgl
                ·
                  by_cases q9 : opVal .rem .u64 (IntKind.wrap .u64 a2) 6 < 4
                  ·
                    have e2 : opVal .rem .u64 (IntKind.wrap .u64 a2) 6 = 3 := by omega
                    exact atr r4_11_3 (rw3 e0 e1 e2) iv0 w hgl
                  ·
                    by_cases q10 : opVal .rem .u64 (IntKind.wrap .u64 a2) 6 < 5
                    ·
                      have e2 : opVal .rem .u64 (IntKind.wrap .u64 a2) 6 = 4 := by omega
                      exact atr r4_11_4 (rw3 e0 e1 e2) iv0 w hgl
                    ·
                      have e2 : opVal .rem .u64 (IntKind.wrap .u64 a2) 6 = 5 := by omega
                      exact atr r4_11_5 (rw3 e0 e1 e2) iv0 w hgl
          ·
            by_cases q6 : opVal .and .i64 a1 15 < 14
            ·
              by_cases q7 : opVal .and .i64 a1 15 < 13
              ·
                have e1 : opVal .and .i64 a1 15 = 12 := by omega
                have g2 := rng2_6 a2
                by_cases q8 : opVal .rem .u64 (IntKind.wrap .u64 a2) 6 < 3
                ·
                  by_cases q9 : opVal .rem .u64 (IntKind.wrap .u64 a2) 6 < 1
                  ·
                    have e2 : opVal .rem .u64 (IntKind.wrap .u64 a2) 6 = 0 := by omega
                    exact atr r4_12_0 (rw3 e0 e1 e2) iv0 w hgl
                  ·
                    by_cases q10 : opVal .rem .u64 (IntKind.wrap .u64 a2) 6 < 2
                    ·
                      have e2 : opVal .rem .u64 (IntKind.wrap .u64 a2) 6 = 1 := by omega
                      exact atr r4_12_1 (rw3 e0 e1 e2) iv0 w hgl
                    ·
                      have e2 : opVal .rem .u64 (IntKind.wrap .u64 a2) 6 = 2 := by omega
                      exact atr r4_12_2 (rw3 e0 e1 e2) iv0 w hgl
                ·
                  by_cases q9 : opVal .rem .u64 (IntKind.wrap .u64 a2) 6 < 4
                  ·
                    have e2 : opVal .rem .u64 (IntKind.wrap .u64 a2) 6 = 3 := by omega
                    exact atr r4_12_3 (rw3 e0 e1 e2) iv0 w hgl
                  ·
                    by_cases q10 : opVal .rem .u64 (IntKind.wrap .u64 a2) 6 < 5
                    ·
                      have e2 : opVal .rem .u64 (IntKind.wrap .u64 a2) 6 = 4 := by omega
                      exact atr r4_12_4 (rw3 e0 e1 e2) iv0 w hgl
                    ·
                      have e2 : opVal .rem .u64 (IntKind.wrap .u64 a2) 6 = 5 := by omega
                      exact atr r4_12_5 (rw3 e0 e1 e2) iv0 w hgl
              ·
                have e1 : opVal .and .i64 a1 15 = 13 := by omega
                have g2 := rng2_6 a2
                by_cases q8 : opVal .rem .u64 (IntKind.wrap .u64 a2) 6 < 3
                ·
                  by_cases q9 : opVal .rem .u64 (IntKind.wrap .u64 a2) 6 < 1
                  ·
                    have e2 : opVal .rem .u64 (IntKind.wrap .u64 a2) 6 = 0 := by omega
                    exact atr r4_13_0 (rw3 e0 e1 e2) iv0 w hgl
                  ·
                    by_cases q10 : opVal .rem .u64 (IntKind.wrap .u64 a2) 6 < 2
                    ·
                      have e2 : opVal .rem .u64 (IntKind.wrap .u64 a2) 6 = 1 := by omega
                      exact atr r4_13_1 (rw3 e0 e1 e2) iv0 w hgl
                    ·
                      have e2 : opVal .rem .u64 (IntKind.wrap .u64 a2) 6 = 2 := by omega
                      exact atr r4_13_2 (rw3 e0 e1 e2) iv0 w hgl
                ·
                  by_cases q9 : opVal .rem .u64 (IntKind.wrap .u64 a2) 6 < 4
                  ·
                    have e2 : opVal .rem .u64 (IntKind.wrap .u64 a2) 6 = 3 := by omega
                    exact atr r4_13_3 (rw3 e0 e1 e2) iv0 w hgl
                  ·
                    by_cases q10 : opVal .rem .u64 (IntKind.wrap .u64 a2) 6 < 5
                    ·
                      have e2 : opVal .rem .u64 (IntKind.wrap .u64 a2) 6 = 4 := by omega
                      exact atr r4_13_4 (rw3 e0 e1 e2) iv0 w hgl
                    ·
                      have e2 : opVal .rem .u64 (IntKind.wrap .u64 a2) 6 = 5 := by omega
                      exact atr r4_13_5 (rw3 e0 e1 e2) iv0 w hgl
            ·
              by_cases q7 : opVal .and .i64 a1 15 < 15
              ·
                have e1 : opVal .and .i64 a1 15 = 14 := by omega
                have g2 := rng2_6 a2
                by_cases q8 : opVal .rem .u64 (IntKind.wrap .u64 a2) 6 < 3
                ·
                  by_cases q9 : opVal .rem .u64 (IntKind.wrap .u64 a2) 6 < 1
                  ·
                    have e2 : opVal .rem .u64 (IntKind.wrap .u64 a2) 6 = 0 := by omega
                    exact atr r4_14_0 (rw3 e0 e1 e2) iv0 w hgl
                  ·
                    by_cases q10 : opVal .rem .u64 (IntKind.wrap .u64 a2) 6 < 2
                    ·
                      have e2 : opVal .rem .u64 (IntKind.wrap .u64 a2) 6 = 1 := by omega
                      exact atr r4_14_1 (rw3 e0 e1 e2) iv0 w hgl
                    ·
                      have e2 : opVal .rem .u64 (IntKind.wrap .u64 a2) 6 = 2 := by omega
                      exact atr r4_14_2 (rw3 e0 e1 e2) iv0 w hgl
                ·
                  by_cases q9 : opVal .rem .u64 (IntKind.wrap .u64 a2) 6 < 4
                  ·
                    have e2 : opVal .rem .u64 (IntKind.wrap .u64 a2) 6 = 3 := by omega
                    exact atr r4_14_3 (rw3 e0 e1 e2) iv0 w hgl
                  ·
                    by_cases q10 : opVal .rem .u64 (IntKind.wrap .u64 a2) 6 < 5
                    ·
                      have e2 : opVal .rem .u64 (IntKind.wrap .u64 a2) 6 = 4 := by omega
                      exact atr r4_14_4 (rw3 e0 e1 e2) iv0 w hgl
                    ·
                      have e2 : opVal .rem .u64 (IntKind.wrap .u64 a2) 6 = 5 := by omega
                      exact atr r4_14_5 (rw3 e0 e1 e2) iv0 w hgl
              ·
                have e1 : opVal .and .i64 a1 15 = 15 := by omega
                have g2 := rng2_6 a2
                by_cases q8 : opVal .rem .u64 (IntKind.wrap .u64 a2) 6 < 3
                ·
                  by_cases q9 : opVal .rem .u64 (IntKind.wrap .u64 a2) 6 < 1
                  ·
                    have e2 : opVal .rem .u64 (IntKind.wrap .u64 a2) 6 = 0 := by omega
                    exact atr r4_15_0 (rw3 e0 e1 e2) iv0 w hgl
                  ·
                    by_cases q10 : opVal .rem .u64 (IntKind.wrap .u64 a2) 6 < 2
                    ·
                      have e2 : opVal .rem .u64 (IntKind.wrap .u64 a2) 6 = 1 := by omega
                      exact atr r4_15_1 (rw3 e0 e1 e2) iv0 w hgl
                    ·
                      have e2 : opVal .rem .u64 (IntKind.wrap .u64 a2) 6 = 2 := by omega
                      exact atr r4_15_2 (rw3 e0 e1 e2) iv0 w hgl
                ·
                  by_cases q9 : opVal .rem .u64 (IntKind.wrap .u64 a2) 6 < 4
                  ·
                    have e2 : opVal .rem .u64 (IntKind.wrap .u64 a2) 6 = 3 := by omega
                    exact atr r4_15_3 (rw3 e0 e1 e2) iv0 w hgl
                  ·
                    by_cases q10 : opVal .rem .u64 (IntKind.wrap .u64 a2) 6 < 5
                    ·
                      have e2 : opVal .rem .u64 (IntKind.wrap .u64 a2) 6 = 4 := by omega
                      exact atr r4_15_4 (rw3 e0 e1 e2) iv0 w hgl
                    ·
                      have e2 : opVal .rem .u64 (IntKind.wrap .u64 a2) 6 = 5 := by omega
                      exact atr r4_15_5 (rw3 e0 e1 e2) iv0 w hgl
      ·
        have e0 : opVal .and .i64 a0 7 = 5 := by omega
        have g1 := rng1 a1
        by_cases q4 : opVal .and .i64 a1 15 < 8
        ·
          by_cases q5 : opVal .and .i64 a1 15 < 4
          ·
            by_cases q6 : opVal .and .i64 a1 15 < 2
            ·
              by_cases q7 : opVal .and .i64 a1 15 < 1
              ·
                have e1 : opVal .and .i64 a1 15 = 0 := by omega
                have g2 := rng2_7 a2
                by_cases q8 : opVal .rem .u64 (IntKind.wrap .u64 a2) 7 < 3
                ·
                  by_cases q9 : opVal .rem .u64 (IntKind.wrap .u64 a2) 7 < 1
                  ·
                    have e2 : opVal .rem .u64 (IntKind.wrap .u64 a2) 7 = 0 := by omega
                    exact atr r5_0_0 (rw3 e0 e1 e2) iv0 w hgl
                  ·
                    by_cases q10 : opVal .rem .u64 (IntKind.wrap .u64 a2) 7 < 2
                    ·
                      have e2 : opVal .rem .u64 (IntKind.wrap .u64 a2) 7 = 1 := by omega
                      exact atr r5_0_1 (rw3 e0 e1 e2) iv0 w hgl
                    ·
                      have e2 : opVal .rem .u64 (IntKind.wrap .u64 a2) 7 = 2 := by omega
                      exact atr r5_0_2 (rw3 e0 e1 e2) iv0 w hgl
                ·
                  by_cases q9 : opVal .rem .u64 (IntKind.wrap .u64 a2) 7 < 5
                  ·
                    by_cases q10 : opVal .rem .u64 (IntKind.wrap .u64 a2) 7 < 4
                    ·
                      have e2 : opVal .rem .u64 (IntKind.wrap .u64 a2) 7 = 3 := by omega
                      exact atr r5_0_3 (rw3 e0 e1 e2) iv0 w hgl
                    ·
                      have e2 : opVal .rem .u64 (IntKind.wrap .u64 a2) 7 = 4 := by omega
                      exact atr r5_0_4 (rw3 e0 e1 e2) iv0 w hgl
                  ·
                    by_cases q10 : opVal .rem .u64 (IntKind.wrap .u64 a2) 7 < 6
                    ·
                      have e2 : opVal .rem .u64 (IntKind.wrap .u64 a2) 7 = 5 := by omega
                      exact atr r5_0_5 (rw3 e0 e1 e2) iv0 w hgl
                    ·
                      have e2 : opVal .rem .u64 (IntKind.wrap .u64 a2) 7 = 6 := by omega
                      exact atr r5_0_6 (rw3 e0 e1 e2) iv0 w hgl
              ·
                have e1 : opVal .and .i64 a1 15 = 1 := by omega
                have g2 := rng2_7 a2
                by_cases q8 : opVal .rem .u64 (IntKind.wrap .u64 a2) 7 < 3
                ·
                  by_cases q9 : opVal .rem .u64 (IntKind.wrap .u64 a2) 7 < 1
                  ·
                    have e2 : opVal .rem .u64 (IntKind.wrap .u64 a2) 7 = 0 := by omega
                    exact atr r5_1_0 (rw3 e0 e1 e2) iv0 w hgl
                  ·
                    by_cases q10 : opVal .rem .u64 (IntKind.wrap .u64 a2) 7 < 2
                    ·
                      have e2 : opVal .rem .u64 (IntKind.wrap .u64 a2) 7 = 1 := by omega
                      exact atr r5_1_1 (rw3 e0 e1 e2) iv0 w hgl
                    ·
                      have e2 : opVal .rem .u64 (IntKind.wrap .u64 a2) 7 = 2 := by omega
                      exact atr r5_1_2 (rw3 e0 e1 e2) iv0 w hgl
                ·
                  by_cases q9 : opVal .rem .u64 (IntKind.wrap .u64 a2) 7 < 5
                  ·
                    by_cases q10 : opVal .rem .u64 (IntKind.wrap .u64 a2) 7 < 4
                    ·
                      have e2 : opVal .rem .u64 (IntKind.wrap .u64 a2) 7 = 3 := by omega
                      exact atr r5_1_3 (rw3 e0 e1 e2) iv0 w hgl
                    ·
                      have e2 : opVal .rem .u64 (IntKind.wrap .u64 a2) 7 = 4 := by omega
                      exact atr r5_1_4 (rw3 e0 e1 e2) iv0 w hgl
                  ·
                    by_cases q10 : opVal .rem .u64 (IntKind.wrap .u64 a2) 7 < 6
                    ·
                      have e2 : opVal .rem .u64 (IntKind.wrap .u64 a2) 7 = 5 := by omega
                      exact atr r5_1_5 (rw3 e0 e1 e2) iv0 w hgl
                    ·
                      have e2 : opVal .rem .u64 (IntKind.wrap .u64 a2) 7 = 6 := by omega
                      exact atr r5_1_6 (rw3 e0 e1 e2) iv0 w hgl
            ·
              by_cases q7 : opVal .and .i64 a1 15 < 3
              ·
                have e1 : opVal .and .i64 a1 15 = 2 := by omega
                have g2 := rng2_7 a2
                by_cases q8 : opVal .rem .u64 (IntKind.wrap .u64 a2) 7 < 3
                ·
                  by_cases q9 : opVal .rem .u64 (IntKind.wrap .u64 a2) 7 < 1
                  ·
                    have e2 : opVal .rem .u64 (IntKind.wrap .u64 a2) 7 = 0 := by omega
                    exact atr r5_2_0 (rw3 e0 e1 e2) iv0 w hgl
                  ·
                    by_cases q10 : opVal .rem .u64 (IntKind.wrap .u64 a2) 7 < 2
                    ·
                      have e2 : opVal .rem .u64 (IntKind.wrap .u64 a2) 7 = 1 := by omega
                      exact atr r5_2_1 (rw3 e0 e1 e2) iv0 w hgl
                    ·
                      have e2 : opVal .rem .u64 (IntKind.wrap .u64 a2) 7 = 2 := by omega
                      exact atr r5_2_2 (rw3 e0 e1 e2) iv0 w hgl
                ·
                  by_cases q9 : opVal .rem .u64 (IntKind.wrap .u64 a2) 7 < 5
                  ·
                    by_cases q10 : opVal .rem .u64 (IntKind.wrap .u64 a2) 7 < 4
                    ·
                      have e2 : opVal .rem .u64 (IntKind.wrap .u64 a2) 7 = 3 := by omega
                      exact atr r5_2_3 (rw3 e0 e1 e2) iv0 w hgl
                    ·
                      have e2 : opVal .rem .u64 (IntKind.wrap .u64 a2) 7 = 4 := by omega
                      exact atr r5_2_4 (rw3 e0 e1 e2) iv0 w hgl
                  ·
                    by_cases q10 : opVal .rem .u64 (IntKind.wrap .u64 a2) 7 < 6
                    ·
                      have e2 : opVal .rem .u64 (IntKind.wrap .u64 a2) 7 = 5 := by omega
                      exact atr r5_2_5 (rw3 e0 e1 e2) iv0 w hgl
                    ·
                      have e2 : opVal .rem .u64 (IntKind.wrap .u64 a2) 7 = 6 := by omega
                      exact atr r5_2_6 (rw3 e0 e1 e2) iv0 w hgl
              ·
                have e1 : opVal .and .i64 a1 15 = 3 := by omega
                have g2 := rng2_7 a2
                by_cases q8 : opVal .rem .u64 (IntKind.wrap .u64 a2) 7 < 3
                ·
                  by_cases q9 : opVal .rem .u64 (IntKind.wrap .u64 a2) 7 < 1
                  ·
                    have e2 : opVal .rem .u64 (IntKind.wrap .u64 a2) 7 = 0 := by omega
                    exact atr r5_3_0 (rw3 e0 e1 e2) iv0 w hgl
                  ·
                    by_cases q10 : opVal .rem .u64 (IntKind.wrap .u64 a2) 7 < 2
                    ·
                      have e2 : opVal .rem .u64 (IntKind.wrap .u64 a2) 7 = 1 := by omega
                      exact atr r5_3_1 (rw3 e0 e1 e2) iv0 w hgl
                    ·
                      have e2 : opVal .rem .u64 (IntKind.wrap .u64 a2) 7 = 2 := by omega
                      exact atr r5_3_2 (rw3 e0 e1 e2) iv0 w hgl
                ·
                  by_cases q9 : opVal .rem .u64 (IntKind.wrap .u64 a2) 7 < 5
                  ·
                    by_cases q10 : opVal .rem .u64 (IntKind.wrap .u64 a2) 7 < 4
                    ·
                      have e2 : opVal .rem .u64 (IntKind.wrap .u64 a2) 7 = 3 := by omega
                      exact atr r5_3_3 (rw3 e0 e1 e2) iv0 w hgl
                    ·
                      have e2 : opVal .rem .u64 (IntKind.wrap .u64 a2) 7 = 4 := by omega
                      exact atr r5_3_4 (rw3 e0 e1 e2) iv0 w hgl
                  ·
                    by_cases q10 : opVal .rem .u64 (IntKind.wrap .u64 a2) 7 < 6
                    ·
                      have e2 : opVal .rem .u64 (IntKind.wrap .u64 a2) 7 = 5 := by omega
                      exact atr r5_3_5 (rw3 e0 e1 e2) iv0 w hgl
                    ·
                      have e2 : opVal .rem .u64 (IntKind.wrap .u64 a2) 7 = 6 := by omega
                      exact atr r5_3_6 (rw3 e0 e1 e2) iv0 w hgl
          ·
            by_cases q6 : opVal .and .i64 a1 15 < 6
            ·
              by_cases q7 : opVal .and .i64 a1 15 < 5
              ·
                have e1 : opVal .and .i64 a1 15 = 4 := by omega
                have g2 := rng2_7 a2
                by_cases q8 : opVal .rem .u64 (IntKind.wrap .u64 a2) 7 < 3
                ·
                  by_cases q9 : opVal .rem .u64 (IntKind.wrap .u64 a2) 7 < 1
                  ·
                    have e2 : opVal .rem .u64 (IntKind.wrap .u64 a2) 7 = 0 := by omega
                    exact atr r5_4_0 (rw3 e0 e1 e2) iv0 w hgl
                  ·
                    by_cases q10 : opVal .rem .u64 (IntKind.wrap .u64 a2) 7 < 2
                    ·
                      have e2 : opVal .rem .u64 (IntKind.wrap .u64 a2) 7 = 1 := by omega
                      exact atr r5_4_1 (rw3 e0 e1 e2) iv0 w hgl
                    ·
                      have e2 : opVal .rem .u64 (IntKind.wrap .u64 a2) 7 = 2 := by omega
                      exact atr r5_4_2 (rw3 e0 e1 e2) iv0 w hgl
                ·
                  by_cases q9 : opVal .rem .u64 (IntKind.wrap .u64 a2) 7 < 5
                  ·
                    by_cases q10 : opVal .rem .u64 (IntKind.wrap .u64 a2) 7 < 4
                    ·
                      have e2 : opVal .rem .u64 (IntKind.wrap .u64 a2) 7 = 3 := by omega
                      exact atr r5_4_3 (rw3 e0 e1 e2) iv0 w hgl
                    ·
                      have e2 : opVal .rem .u64 (IntKind.wrap .u64 a2) 7 = 4 := by omega
                      exact atr r5_4_4 (rw3 e0 e1 e2) iv0 w hgl
                  ·
                    by_cases q10 : opVal .rem .u64 (IntKind.wrap .u64 a2) 7 < 6
                    ·
                      have e2 : opVal .rem .u64 (IntKind.wrap .u64 a2) 7 = 5 := by omega
                      exact atr r5_4_5 (rw3 e0 e1 e2) iv0 w hgl
                    ·
                      have e2 : opVal .rem .u64 (IntKind.wrap .u64 a2) 7 = 6 := by omega
                      exact atr r5_4_6 (rw3 e0 e1 e2) iv0 w hgl
              ·
                have e1 : opVal .and .i64 a1 15 = 5 := by omega
                have g2 := rng2_7 a2
                by_cases q8 : opVal .rem .u64 (IntKind.wrap .u64 a2) 7 < 3
                ·
                  by_cases q9 : opVal .rem .u64 (IntKind.wrap .u64 a2) 7 < 1
                  ·
                    have e2 : opVal .rem .u64 (IntKind.wrap .u64 a2) 7 = 0 := by omega
                    exact atr r5_5_0 (rw3 e0 e1 e2) iv0 w hgl
                  ·
                    by_cases q10 : opVal .rem .u64 (IntKind.wrap .u64 a2) 7 < 2
                    ·
                      have e2 : opVal .rem .u64 (IntKind.wrap .u64 a2) 7 = 1 := by omega
                      exact atr r5_5_1 (rw3 e0 e1 e2) iv0 w hgl
                    ·
                      have e2 : opVal .rem .u64 (IntKind.wrap .u64 a2) 7 = 2 := by omega
                      exact atr r5_5_2 (rw3 e0 e1 e2) iv0 w hgl
                ·
                  by_cases q9 : opVal .rem .u64 (IntKind.wrap .u64 a2) 7 < 5
                  ·
                    by_cases q10 : opVal .rem .u64 (IntKind.wrap .u64 a2) 7 < 4
                    ·
                      have e2 : opVal .rem .u64 (IntKind.wrap .u64 a2) 7 = 3 := by omega
                      exact atr r5_5_3 (rw3 e0 e1 e2) iv0 w hgl
                    ·
                      have e2 : opVal .rem .u64 (IntKind.wrap .u64 a2) 7 = 4 := by omega
                      exact atr r5_5_4 (rw3 e0 e1 e2) iv0 w hgl
                  ·
                    by_cases q10 : opVal .rem .u64 (IntKind.wrap .u64 a2) 7 < 6
                    ·
                      have e2 : opVal .rem .u64 (IntKind.wrap .u64 a2) 7 = 5 := by omega
                      exact atr r5_5_5 (rw3 e0 e1 e2) iv0 w hgl
                    ·
                      have e2 : opVal .rem .u64 (IntKind.wrap .u64 a2) 7 = 6 := by omega
                      exact atr r5_5_6 (rw3 e0 e1 e2) iv0 w hgl
            ·
              by_cases q7 : opVal .and .i64 a1 15 < 7
              ·
                have e1 : opVal .and .i64 a1 15 = 6 := by omega
                have g2 := rng2_7 a2
                by_cases q8 : opVal .rem .u64 (IntKind.wrap .u64 a2) 7 < 3
                ·
                  by_cases q9 : opVal .rem .u64 (IntKind.wrap .u64 a2) 7 < 1
                  ·
                    have e2 : opVal .rem .u64 (IntKind.wrap .u64 a2) 7 = 0 := by omega
                    exact atr r5_6_0 (rw3 e0 e1 e2) iv0 w hgl
                  ·
                    by_cases q10 : opVal .rem .u64 (IntKind.wrap .u64 a2) 7 < 2
                    ·
                      have e2 : opVal .rem .u64 (IntKind.wrap .u64 a2) 7 = 1 := by omega
                      exact atr r5_6_1 (rw3 e0 e1 e2) iv0 w hgl
                    ·
                      have e2 : opVal .rem .u64 (IntKind.wrap .u64 a2) 7 = 2 := by omega
                      exact atr r5_6_2 (rw3 e0 e1 e2) iv0 w hgl
                ·
                  by_cases q9 : opVal .rem .u64 (IntKind.wrap .u64 a2) 7 < 5
                  ·
                    by_cases q10 : opVal .rem .u64 (IntKind.wrap .u64 a2) 7 < 4
                    ·
                      have e2 : opVal .rem .u64 (IntKind.wrap .u64 a2) 7 = 3 := by omega
                      exact atr r5_6_3 (rw3 e0 e1 e2) iv0 w hgl
                    ·
                      have e2 : opVal .rem .u64 (IntKind.wrap .u64 a2) 7 = 4 := by omega
                      exact atr r5_6_4 (rw3 e0 e1 e2) iv0 w hgl
                  ·
                    by_cases q10 : opVal .rem .u64 (IntKind.wrap .u64 a2) 7 < 6
                    ·
                      have e2 : opVal .rem .u64 (IntKind.wrap .u64 a2) 7 = 5 := by omega
                      exact atr r5_6_5 (rw3 e0 e1 e2) iv0 w hgl
                    ·
                      have e2 : opVal .rem .u64 (IntKind.wrap .u64 a2) 7 = 6 := by omega
                      exact atr r5_6_6 (rw3 e0 e1 e2) iv0 w hgl
              ·
                have e1 : opVal .and .i64 a1 15 = 7 := by omega
                have g2 := rng2_7 a2
                by_cases q8 : opVal .rem .u64 (IntKind.wrap .u64 a2) 7 < 3
                ·
                  by_cases q9 : opVal .rem .u64 (IntKind.wrap .u64 a2) 7 < 1
                  ·
                    have e2 : opVal .rem .u64 (IntKind.wrap .u64 a2) 7 = 0 := by omega
                    exact atr r5_7_0 (rw3 e0 e1 e2) iv0 w hgl
                  ·
                    by_cases q10 : opVal .rem .u64 (IntKind.wrap .u64 a2) 7 < 2
                    ·
                      have e2 : opVal .rem .u64 (IntKind.wrap .u64 a2) 7 = 1 := by omega
                      exact atr r5_7_1 (rw3 e0 e1 e2) iv0 w hgl
                    ·
                      have e2 : opVal .rem .u64 (IntKind.wrap .u64 a2) 7 = 2 := by omega
                      exact atr r5_7_2 (rw3 e0 e1 e2) iv0 w hgl
                ·
                  by_cases q9 : opVal .rem .u64 (IntKind.wrap .u64 a2) 7 < 5
                  ·
                    by_cases q10 : opVal .rem .u64 (IntKind.wrap .u64 a2) 7 < 4
                    ·
                      have e2 : opVal .rem .u64 (IntKind.wrap .u64 a2) 7 = 3 := by omega
                      exact atr r5_7_3 (rw3 e0 e1 e2) iv0 w hgl
                    ·
                      have e2 : opVal .rem .u64 (IntKind.wrap .u64 a2) 7 = 4 := by omega
                      exact atr r5_7_4 (rw3 e0 e1 e2) iv0 w hgl
                  ·
                    by_cases q10 : opVal .rem .u64 (IntKind.wrap .u64 a2) 7 < 6
                    ·
                      have e2 : opVal .rem .u64 (IntKind.wrap .u64 a2) 7 = 5 := by omega
                      exact atr r5_7_5 (rw3 e0 e1 e2) iv0 w hgl
                    ·
                      have e2 : opVal .rem .u64 (IntKind.wrap .u64 a2) 7 = 6 := by omega
                      exact atr r5_7_6 (rw3 e0 e1 e2) iv0 w hgl
        ·
          by_cases q5 : opVal .and .i64 a1 15 < 12
          ·
            by_cases q6 : opVal .and .i64 a1 15 < 10
            ·
              by_cases q7 : opVal .and .i64 a1 15 < 9
              ·
                have e1 : opVal .and .i64 a1 15 = 8 := by omega
                have g2 := rng2_7 a2
                by_cases q8 : opVal .rem .u64 (IntKind.wrap .u64 a2) 7 < 3
                ·
                  by_cases q9 : opVal .rem .u64 (IntKind.wrap .u64 a2) 7 < 1
                  ·
                    have e2 : opVal .rem .u64 (IntKind.wrap .u64 a2) 7 = 0 := by omega
                    exact atr r5_8_0 (rw3 e0 e1 e2) iv0 w hgl
                  ·
                    by_cases q10 : opVal .rem .u64 (IntKind.wrap .u64 a2) 7 < 2
                    ·
                      have e2 : opVal .rem .u64 (IntKind.wrap .u64 a2) 7 = 1 := by omega
                      exact atr r5_8_1 (rw3 e0 e1 e2) iv0 w hgl
                    ·
                      have e2 : opVal .rem .u64 (IntKind.wrap .u64 a2) 7 = 2 := by omega
                      exact atr r5_8_2 (rw3 e0 e1 e2) iv0 w hgl
                ·
                  by_cases q9 : opVal .rem .u64 (IntKind.wrap .u64 a2) 7 < 5
                  ·
                    by_cases q10 : opVal .rem .u64 (IntKind.wrap .u64 a2) 7 < 4
                    ·
                      have e2 : opVal .rem .u64 (IntKind.wrap .u64 a2) 7 = 3 := by omega
                      exact atr r5_8_3 (rw3 e0 e1 e2) iv0 w hgl
                    ·
                      have e2 : opVal .rem .u64 (IntKind.wrap .u64 a2) 7 = 4 := by omega
                      exact atr r5_8_4 (rw3 e0 e1 e2) iv0 w hgl
                  ·
                    by_cases q10 : opVal .rem .u64 (IntKind.wrap .u64 a2) 7 < 6
                    ·
                      have e2 : opVal .rem .u64 (IntKind.wrap .u64 a2) 7 = 5 := by omega
                      exact atr r5_8_5 (rw3 e0 e1 e2) iv0 w hgl
                    ·
                      have e2 : opVal .rem .u64 (IntKind.wrap .u64 a2) 7 = 6 := by omega
                      exact atr r5_8_6 (rw3 e0 e1 e2) iv0 w hgl
              ·
                have e1 : opVal .and .i64 a1 15 = 9 := by omega
                have g2 := rng2_7 a2
                by_cases q8 : opVal .rem .u64 (IntKind.wrap .u64 a2) 7 < 3
                ·
                  by_cases q9 : opVal .rem .u64 (IntKind.wrap .u64 a2) 7 < 1
                  ·
                    have e2 : opVal .rem .u64 (IntKind.wrap .u64 a2) 7 = 0 := by omega
                    exact atr r5_9_0 (rw3 e0 e1 e2) iv0 w hgl
                  ·
                    by_cases q10 : opVal .rem .u64 (IntKind.wrap .u64 a2) 7 < 2
                    ·
                      have e2 : opVal .rem .u64 (IntKind.wrap .u64 a2) 7 = 1 := by omega
                      exact atr r5_9_1 (rw3 e0 e1 e2) iv0 w hgl
                    ·
                      have e2 : opVal .rem .u64 (IntKind.wrap .u64 a2) 7 = 2 := by omega
                      exact atr r5_9_2 (rw3 e0 e1 e2) iv0 w hgl
                ·
                  by_cases q9 : opVal .rem .u64 (IntKind.wrap .u64 a2) 7 < 5
                  ·
                    by_cases q10 : opVal .rem .u64 (IntKind.wrap .u64 a2) 7 < 4
                    ·
                      have e2 : opVal .rem .u64 (IntKind.wrap .u64 a2) 7 = 3 := by omega
                      exact atr r5_9_3 (rw3 e0 e1 e2) iv0 w hgl
                    ·
                      have e2 : opVal .rem .u64 (IntKind.wrap .u64 a2) 7 = 4 := by omega
                      exact atr r5_9_4 (rw3 e0 e1 e2) iv0 w hgl
                  ·
                    by_cases q10 : opVal .rem .u64 (IntKind.wrap .u64 a2) 7 < 6
                    ·
                      have e2 : opVal .rem .u64 (IntKind.wrap .u64 a2) 7 = 5 := by omega
                      exact atr r5_9_5 (rw3 e0 e1 e2) iv0 w hgl
                    ·
                      have e2 : opVal .rem .u64 (IntKind.wrap .u64 a2) 7 = 6 := by omega
                      exact atr r5_9_6 (rw3 e0 e1 e2) iv0 w hgl
            ·
              by_cases q7 : opVal .and .i64 a1 15 < 11
              ·
                have e1 : opVal .and .i64 a1 15 = 10 := by omega
                have g2 := rng2_7 a2
                by_cases q8 : opVal .rem .u64 (IntKind.wrap .u64 a2) 7 < 3
                ·
                  by_cases q9 : opVal .rem .u64 (IntKind.wrap .u64 a2) 7 < 1
                  ·
                    have e2 : opVal .rem .u64 (IntKind.wrap .u64 a2) 7 = 0 := by omega
                    exact atr r5_10_0 (rw3 e0 e1 e2) iv0 w hgl
                  ·
                    by_cases q10 : opVal .rem .u64 (IntKind.wrap .u64 a2) 7 < 2
                    ·
                      have e2 : opVal .rem .u64 (IntKind.wrap .u64 a2) 7 = 1 := by omega
                      exact atr r5_10_1 (rw3 e0 e1 e2) iv0 w hgl
                    ·
                      have e2 : opVal .rem .u64 (IntKind.wrap .u64 a2) 7 = 2 := by omega
                      exact atr r5_10_2 (rw3 e0 e1 e2) iv0 w hgl
                ·
                  by_cases q9 : opVal .rem .u64 (IntKind.wrap .u64 a2) 7 < 5
                  ·
                    by_cases q10 : opVal .rem .u64 (IntKind.wrap .u64 a2) 7 < 4
                    ·
                      have e2 : opVal .rem .u64 (IntKind.wrap .u64 a2) 7 = 3 := by omega
                      exact atr r5_10_3 (rw3 e0 e1 e2) iv0 w hgl
                    ·
                      have e2 : opVal .rem .u64 (IntKind.wrap .u64 a2) 7 = 4 := by omega
                      exact atr r5_10_4 (rw3 e0 e1 e2) iv0 w hgl
                  ·
                    by_cases q10 : opVal .rem .u64 (IntKind.wrap .u64 a2) 7 < 6
                    ·
                      have e2 : opVal .rem .u64 (IntKind.wrap .u64 a2) 7 = 5 := by omega
                      exact atr r5_10_5 (rw3 e0 e1 e2) iv0 w hgl
                    ·
                      have e2 : opVal .rem .u64 (IntKind.wrap .u64 a2) 7 = 6 := by omega
                      exact atr r5_10_6 (rw3 e0 e1 e2) iv0 w hgl
              ·
                have e1 : opVal .and .i64 a1 15 = 11 := by omega
                have g2 := rng2_7 a2
                by_cases q8 : opVal .rem .u64 (IntKind.wrap .u64 a2) 7 < 3
                ·
                  by_cases q9 : opVal .rem .u64 (IntKind.wrap .u64 a2) 7 < 1
                  ·
                    have e2 : opVal .rem .u64 (IntKind.wrap .u64 a2) 7 = 0 := by omega
                    exact atr r5_11_0 (rw3 e0 e1 e2) iv0 w hgl
                  ·
                    by_cases q10 : opVal .rem .u64 (IntKind.wrap .u64 a2) 7 < 2
                    ·
                      have e2 : opVal .rem .u64 (IntKind.wrap .u64 a2) 7 = 1 := by omega
                      exact atr r5_11_1 (rw3 e0 e1 e2) iv0 w hgl
                    ·
                      have e2 : opVal .rem .u64 (IntKind.wrap .u64 a2) 7 = 2 := by omega
                      exact atr r5_11_2 (rw3 e0 e1 e2) iv0 w hgl
                ·
                  by_cases q9 : opVal .rem .u64 (IntKind.wrap .u64 a2) 7 < 5
                  ·
                    by_cases q10 : opVal .rem .u64 (IntKind.wrap .u64 a2) 7 < 4
                    ·
                      have e2 : opVal .rem .u64 (IntKind.wrap .u64 a2) 7 = 3 := by omega
                      exact atr r5_11_3 (rw3 e0 e1 e2) iv0 w hgl
                    ·
                      have e2 : opVal .rem .u64 (IntKind.wrap .u64 a2) 7 = 4 := by omega
                      exact atr r5_11_4 (rw3 e0 e1 e2) iv0 w hgl
                  ·
                    by_cases q10 : opVal .rem .u64 (IntKind.wrap .u64 a2) 7 < 6
                    ·
                      have e2 : opVal .rem .u64 (IntKind.wrap .u64 a2) 7 = 5 := by omega
                      exact atr r5_11_5 (rw3 e0 e1 e2) iv0 w hgl
                    ·
                      have e2 : opVal .rem .u64 (IntKind.wrap .u64 a2) 7 = 6 := by omega
                      exact atr r5_11_6 (rw3 e0 e1 e2) iv0 w hgl
          ·
            by_cases q6 : opVal .and .i64 a1 15 < 14
            ·
              by_cases q7 : opVal .and .i64 a1 15 < 13
              ·
                have e1 : opVal .and .i64 a1 15 = 12 := by omega
                have g2 := rng2_7 a2
                by_cases q8 : opVal .rem .u64 (IntKind.wrap .u64 a2) 7 < 3
                ·
                  by_cases q9 : opVal .rem .u64 (IntKind.wrap .u64 a2) 7 < 1
                  ·
                    have e2 : opVal .rem .u64 (IntKind.wrap .u64 a2) 7 = 0 := by omega
                    exact atr r5_12_0 (rw3 e0 e1 e2) iv0 w hgl
                  ·
                    by_cases q10 : opVal .rem .u64 (IntKind.wrap .u64 a2) 7 < 2
                    ·
                      have e2 : opVal .rem .u64 (IntKind.wrap .u64 a2) 7 = 1 := by omega
                      exact atr r5_12_1 (rw3 e0 e1 e2) iv0 w hgl
                    ·
                      have e2 : opVal .rem .u64 (IntKind.wrap .u64 a2) 7 = 2 := by omega
                      exact atr r5_12_2 (rw3 e0 e1 e2) iv0 w hgl
                ·
                  by_cases q9 : opVal .rem .u64 (IntKind.wrap .u64 a2) 7 < 5
                  ·
                    by_cases q10 : opVal .rem .u64 (IntKind.wrap .u64 a2) 7 < 4
                    ·
                      have e2 : opVal .rem .u64 (IntKind.wrap .u64 a2) 7 = 3 := by omega
                      exact atr r5_12_3 (rw3 e0 e1 e2) iv0 w hgl
                    ·
                      have e2 : opVal .rem .u64 (IntKind.wrap .u64 a2) 7 = 4 := by omega
                      exact atr r5_12_4 (rw3 e0 e1 e2) iv0 w hgl
                  ·
                    by_cases q10 : opVal .rem .u64 (IntKind.wrap .u64 a2) 7 < 6
                    ·
                      have e2 : opVal .rem .u64 (IntKind.wrap .u64 a2) 7 = 5 := by omega
                      exact atr r5_12_5 (rw3 e0 e1 e2) iv0 w hgl
                    ·
                      have e2 : opVal .rem .u64 (IntKind.wrap .u64 a2) 7 = 6 := by omega
                      exact atr r5_12_6 (rw3 e0 e1 e2) iv0 w hgl
              ·
                have e1 : opVal .and .i64 a1 15 = 13 := by omega
                have g2 := rng2_7 a2
                by_cases q8 : opVal .rem .u64 (IntKind.wrap .u64 a2) 7 < 3
                ·
                  by_cases q9 : opVal .rem .u64 (IntKind.wrap .u64 a2) 7 < 1
                  ·
                    have e2 : opVal .rem .u64 (IntKind.wrap .u64 a2) 7 = 0 := by omega
                    exact atr r5_13_0 (rw3 e0 e1 e2) iv0 w hgl
                  ·
                    by_cases q10 : opVal .rem .u64 (IntKind.wrap .u64 a2) 7 < 2
                    ·
                      have e2 : opVal .rem .u64 (IntKind.wrap .u64 a2) 7 = 1 := by omega
                      exact atr r5_13_1 (rw3 e0 e1 e2) iv0 w hgl
                    ·
                      have e2 : opVal .rem .u64 (IntKind.wrap .u64 a2) 7 = 2 := by omega
                      exact atr r5_13_2 (rw3 e0 e1 e2) iv0 w hgl
                ·
                  by_cases q9 : opVal .rem .u64 (IntKind.wrap .u64 a2) 7 < 5
                  ·
                    by_cases q10 : opVal .rem .u64 (IntKind.wrap .u64 a2) 7 < 4
                    ·
                      have e2 : opVal .rem .u64 (IntKind.wrap .u64 a2) 7 = 3 := by omega
                      exact atr r5_13_3 (rw3 e0 e1 e2) iv0 w hgl
                    ·
                      have e2 : opVal .rem .u64 (IntKind.wrap .u64 a2) 7 = 4 := by omega
                      exact atr r5_13_4 (rw3 e0 e1 e2) iv0 w hgl
                  ·
                    by_cases q10 : opVal .rem .u64 (IntKind.wrap .u64 a2) 7 < 6
                    ·
                      have e2 : opVal .rem .u64 (IntKind.wrap .u64 a2) 7 = 5 := by omega
                      exact atr r5_13_5 (rw3 e0 e1 e2) iv0 w hgl
                    ·
                      have e2 : opVal .rem .u64 (IntKind.wrap .u64 a2) 7 = 6 := by omega
                      exact atr r5_13_6 (rw3 e0 e1 e2) iv0 w hgl
            ·
              by_cases q7 : opVal .and .i64 a1 15 < 15
              ·
                have e1 : opVal .and .i64 a1 15 = 14 := by omega
                have g2 := rng2_7 a2
                by_cases q8 : opVal .rem .u64 (IntKind.wrap .u64 a2) 7 < 3
                ·
                  by_cases q9 : opVal .rem .u64 (IntKind.wrap .u64 a2) 7 < 1
                  ·
                    have e2 : opVal .rem .u64 (IntKind.wrap .u64 a2) 7 = 0 := by omega
                    exact atr r5_14_0 (rw3 e0 e1 e2) iv0 w hgl
                  ·
                    by_cases q10 : opVal .rem .u64 (IntKind.wrap .u64 a2) 7 < 2
                    ·
                      have e2 : opVal .rem .u64 (IntKind.wrap .u64 a2) 7 = 1 := by omega
                      exact atr r5_14_1 (rw3 e0 e1 e2) iv0 w hgl
                    ·
                      have e2 : opVal .rem .u64 (IntKind.wrap .u64 a2) 7 = 2 := by omega
                      exact atr r5_14_2 (rw3 e0 e1 e2) iv0 w hgl
                ·
                  by_cases q9 : opVal .rem .u64 (IntKind.wrap .u64 a2) 7 < 5
                  ·
                    by_cases q10 : opVal .rem .u64 (IntKind.wrap .u64 a2) 7 < 4
                    ·
                      have e2 : opVal .rem .u64 (IntKind.wrap .u64 a2) 7 = 3 := by omega
                      exact atr r5_14_3 (rw3 e0 e1 e2) iv0 w hgl
                    ·
                      have e2 : opVal .rem .u64 (IntKind.wrap .u64 a2) 7 = 4 := by omega
                      exact atr r5_14_4 (rw3 e0 e1 e2) iv0 w hgl
                  ·
                    by_cases q10 : opVal .rem .u64 (IntKind.wrap .u64 a2) 7 < 6
                    ·
                      have e2 : opVal .rem .u64 (IntKind.wrap .u64 a2) 7 = 5 := by omega
                      exact atr r5_14_5 (rw3 e0 e1 e2) iv0 w hgl
                    ·
                      have e2 : opVal .rem .u64 (IntKind.wrap .u64 a2) 7 = 6 := by omega
                      exact atr r5_14_6 (rw3 e0 e1 e2) iv0 w hgl
              ·
                have e1 : opVal .and .i64 a1 15 = 15 := by omega
                have g2 := rng2_7 a2
                by_cases q8 : opVal .rem .u64 (IntKind.wrap .u64 a2) 7 < 3
                ·
                  by_cases q9 : opVal .rem .u64 (IntKind.wrap .u64 a2) 7 < 1
                  ·
                    have e2 : opVal .rem .u64 (IntKind.wrap .u64 a2) 7 = 0 := by omega
                    exact atr r5_15_0 (rw3 e0 e1 e2) iv0 w hgl
                  ·
                    by_cases q10 : opVal .rem .u64 (IntKind.wrap .u64 a2) 7 < 2
                    ·
                      have e2 : opVal .rem .u64 (IntKind.wrap .u64 a2) 7 = 1 := by omega
                      exact atr r5_15_1 (rw3 e0 e1 e2) iv0 w hgl
                    ·
                      have e2 : opVal .rem .u64 (IntKind.wrap .u64 a2) 7 = 2 := by omega
                      exact atr r5_15_2 (rw3 e0 e1 e2) iv0 w hgl
                ·
                  by_cases q9 : opVal .rem .u64 (IntKind.wrap .u64 a2) 7 < 5
                  ·
                    by_cases q10 : opVal .rem .u64 (IntKind.wrap .u64 a2) 7 < 4
                    ·
                      have e2 : opVal .rem .u64 (IntKind.wrap .u64 a2) 7 = 3 := by omega
                      exact atr r5_15_3 (rw3 e0 e1 e2) iv0 w hgl
                    ·
                      have e2 : opVal .rem .u64 (IntKind.wrap .u64 a2) 7 = 4 := by omega
                      exact atr r5_15_4 (rw3 e0 e1 e2) iv0 w hgl
                  ·
                    by_cases q10 : opVal .rem .u64 (IntKind.wrap .u64 a2) 7 < 6
                    ·
                      have e2 : opVal .rem .u64 (IntKind.wrap .u64 a2) 7 = 5 := by omega
                      exact atr r5_15_5 (rw3 e0 e1 e2) iv0 w hgl
                    ·
                      have e2 : opVal .rem .u64 (IntKind.wrap .u64 a2) 7 = 6 := by omega
                      exact atr r5_15_6 (rw3 e0 e1 e2) iv0 w hgl
    ·
      by_cases q3 : opVal .and .i64 a0 7 < 7
      ·
        have e0 : opVal .and .i64 a0 7 = 6 := by omega
        have g1 := rng1 a1
        by_cases q4 : opVal .and .i64 a1 15 < 8
        ·
          by_cases q5 : opVal .and .i64 a1 15 < 4
          ·
            by_cases q6 : opVal .and .i64 a1 15 < 2
            ·
              by_cases q7 : opVal .and .i64 a1 15 < 1
              ·
                have e1 : opVal .and .i64 a1 15 = 0 := by omega
                have g2 := rng2_8 a2
                by_cases q8 : opVal .rem .u64 (IntKind.wrap .u64 a2) 8 < 4
                ·
                  by_cases q9 : opVal .rem .u64 (IntKind.wrap .u64 a2) 8 < 2
                  ·
                    by_cases q10 : opVal .rem .u64 (IntKind.wrap .u64 a2) 8 < 1
                    ·
                      have e2 : opVal .rem .u64 (IntKind.wrap .u64 a2) 8 = 0 := by omega
                      exact atr r6_0_0 (rw3 e0 e1 e2) iv0 w hgl
                    ·
                      have e2 : opVal .rem .u64 (IntKind.wrap .u64 a2) 8 = 1 := by omega
                      exact atr r6_0_1 (rw3 e0 e1 e2) iv0 w hgl
                  ·
                    by_cases q10 : opVal .rem .u64 (IntKind.wrap .u64 a2) 8 < 3
                    ·
                      have e2 : opVal .rem .u64 (IntKind.wrap .u64 a2) 8 = 2 := by omega
                      exact atr r6_0_2 (rw3 e0 e1 e2) iv0 w hgl
                    ·
                      have e2 : opVal .rem .u64 (IntKind.wrap .u64 a2) 8 = 3 := by omega
                      exact atr r6_0_3 (rw3 e0 e1 e2) iv0 w hgl
                ·
                  by_cases q9 : opVal .rem .u64 (IntKind.wrap .u64 a2) 8 < 6
                  ·
                    by_cases q10 : opVal .rem .u64 (IntKind.wrap .u64 a2) 8 < 5
                    ·
                      have e2 : opVal .rem .u64 (IntKind.wrap .u64 a2) 8 = 4 := by omega
                      exact atr r6_0_4 (rw3 e0 e1 e2) iv0 w hgl
                    ·
                      have e2 : opVal .rem .u64 (IntKind.wrap .u64 a2) 8 = 5 := by omega
                      exact atr r6_0_5 (rw3 e0 e1 e2) iv0 w hgl
                  ·
                    by_cases q10 : opVal .rem .u64 (IntKind.wrap .u64 a2) 8 < 7
                    ·
                      have e2 : opVal .rem .u64 (IntKind.wrap .u64 a2) 8 = 6 := by omega
                      exact atr r6_0_6 (rw3 e0 e1 e2) iv0 w hgl
                    ·
                      have e2 : opVal .rem .u64 (IntKind.wrap .u64 a2) 8 = 7 := by omega
                      exact atr r6_0_7 (rw3 e0 e1 e2) iv0 w hgl
              ·
                have e1 : opVal .and .i64 a1 15 = 1 := by omega
                have g2 := rng2_8 a2
                by_cases q8 : opVal .rem .u64 (IntKind.wrap .u64 a2) 8 < 4
                ·
                  by_cases q9 : opVal .rem .u64 (IntKind.wrap .u64 a2) 8 < 2
                  ·
                    by_cases q10 : opVal .rem .u64 (IntKind.wrap .u64 a2) 8 < 1
                    ·
                      have e2 : opVal .rem .u64 (IntKind.wrap .u64 a2) 8 = 0 := by omega
                      exact atr r6_1_0 (rw3 e0 e1 e2) iv0 w hgl
                    ·
                      have e2 : opVal .rem .u64 (IntKind.wrap .u64 a2) 8 = 1 := by omega
                      exact atr r6_1_1 (rw3 e0 e1 e2) iv0 w hgl
                  ·
                    by_cases q10 : opVal .rem .u64 (IntKind.wrap .u64 a2) 8 < 3
                    ·
                      have e2 : opVal .rem .u64 (IntKind.wrap .u64 a2) 8 = 2 := by omega
                      exact atr r6_1_2 (rw3 e0 e1 e2) iv0 w hgl
                    ·
                      have e2 : opVal .rem .u64 (IntKind.wrap .u64 a2) 8 = 3 := by omega
                      exact atr r6_1_3 (rw3 e0 e1 e2) iv0 w hgl
                ·
                  by_cases q9 : opVal .rem .u64 (IntKind.wrap .u64 a2) 8 < 6
                  ·
                    by_cases q10 : opVal .rem .u64 (IntKind.wrap .u64 a2) 8 < 5
                    ·
                      have e2 : opVal .rem .u64 (IntKind.wrap .u64 a2) 8 = 4 := by omega
                      exact atr r6_1_4 (rw3 e0 e1 e2) iv0 w hgl
                    ·
                      have e2 : opVal .rem .u64 (IntKind.wrap .u64 a2) 8 = 5 := by omega
                      exact atr r6_1_5 (rw3 e0 e1 e2) iv0 w hgl
                  ·
                    by_cases q10 : opVal .rem .u64 (IntKind.wrap .u64 a2) 8 < 7
                    ·
                      have e2 : opVal .rem .u64 (IntKind.wrap .u64 a2) 8 = 6 := by omega
                      exact atr r6_1_6 (rw3 e0 e1 e2) iv0 w hgl
                    ·
                      have e2 : opVal .rem .u64 (IntKind.wrap .u64 a2) 8 = 7 := by omega
                      exact atr r6_1_7 (rw3 e0 e1 e2) iv0 w hgl
            ·
              by_cases q7 : opVal .and .i64 a1 15 < 3
              ·
                have e1 : opVal .and .i64 a1 15 = 2 := by omega
                have g2 := rng2_8 a2
                by_cases q8 : opVal .rem .u64 (IntKind.wrap .u64 a2) 8 < 4
                ·
                  by_cases q9 : opVal .rem .u64 (IntKind.wrap .u64 a2) 8 < 2
                  ·
                    by_cases q10 : opVal .rem .u64 (IntKind.wrap .u64 a2) 8 < 1
                    ·
                      have e2 : opVal .rem .u64 (IntKind.wrap .u64 a2) 8 = 0 := by omega
                      exact atr r6_2_0 (rw3 e0 e1 e2) iv0 w hgl
                    ·
                      have e2 : opVal .rem .u64 (IntKind.wrap .u64 a2) 8 = 1 := by omega
                      exact atr r6_2_1 (rw3 e0 e1 e2) iv0 w hgl
                  ·
                    by_cases q10 : opVal .rem .u64 (IntKind.wrap .u64 a2) 8 < 3
                    ·
                      have e2 : opVal .rem .u64 (IntKind.wrap .u64 a2) 8 = 2 := by omega
                      exact atr r6_2_2 (rw3 e0 e1 e2) iv0 w hgl
                    ·
                      have e2 : opVal .rem .u64 (IntKind.wrap .u64 a2) 8 = 3 := by omega
                      exact atr r6_2_3 (rw3 e0 e1 e2) iv0 w hgl
                ·
                  by_cases q9 : opVal .rem .u64 (IntKind.wrap .u64 a2) 8 < 6
                  ·
                    by_cases q10 : opVal .rem .u64 (IntKind.wrap .u64 a2) 8 < 5
                    ·
                      have e2 : opVal .rem .u64 (IntKind.wrap .u64 a2) 8 = 4 := by omega
                      exact atr r6_2_4 (rw3 e0 e1 e2) iv0 w hgl
                    ·
                      have e2 : opVal .rem .u64 (IntKind.wrap .u64 a2) 8 = 5 := by omega
                      exact atr r6_2_5 (rw3 e0 e1 e2) iv0 w hgl
                  ·
                    by_cases q10 : opVal .rem .u64 (IntKind.wrap .u64 a2) 8 < 7
                    ·
                      have e2 : opVal .rem .u64 (IntKind.wrap .u64 a2) 8 = 6 := by omega
                      exact atr r6_2_6 (rw3 e0 e1 e2) iv0 w hgl
                    ·
                      have e2 : opVal .rem .u64 (IntKind.wrap .u64 a2) 8 = 7 := by omega
                      exact atr r6_2_7 (rw3 e0 e1 e2) iv0 w hgl
              ·
                have e1 : opVal .and .i64 a1 15 = 3 := by omega
                have g2 := rng2_8 a2
                by_cases q8 : opVal .rem .u64 (IntKind.wrap .u64 a2) 8 < 4
                ·
                  by_cases q9 : opVal .rem .u64 (IntKind.wrap .u64 a2) 8 < 2
                  ·
                    by_cases q10 : opVal .rem .u64 (IntKind.wrap .u64 a2) 8 < 1
                    ·
                      have e2 : opVal .rem .u64 (IntKind.wrap .u64 a2) 8 = 0 := by omega
                      exact atr r6_3_0 (rw3 e0 e1 e2) iv0 w hgl
                    ·
                      have e2 : opVal .rem .u64 (IntKind.wrap .u64 a2) 8 = 1 := by omega
                      exact atr r6_3_1 (rw3 e0 e1 e2) iv0 w hgl
                  ·
                    by_cases q10 : opVal .rem .u64 (IntKind.wrap .u64 a2) 8 < 3
                    ·
                      have e2 : opVal .rem .u64 (IntKind.wrap .u64 a2) 8 = 2 := by omega
                      exact atr r6_3_2 (rw3 e0 e1 e2) iv0 w hgl
                    ·
                      have e2 : opVal .rem .u64 (IntKind.wrap .u64 a2) 8 = 3 := by omega
                      exact atr r6_3_3 (rw3 e0 e1 e2) iv0 w hgl
                ·
                  by_cases q9 : opVal .rem .u64 (IntKind.wrap .u64 a2) 8 < 6
                  ·
                    by_cases q10 : opVal .rem .u64 (IntKind.wrap .u64 a2) 8 < 5
                    ·
                      have e2 : opVal .rem .u64 (IntKind.wrap .u64 a2) 8 = 4 := by omega
                      exact atr r6_3_4 (rw3 e0 e1 e2) iv0 w hgl
                    ·
                      have e2 : opVal .rem .u64 (IntKind.wrap .u64 a2) 8 = 5 := by omega
                      exact atr r6_3_5 (rw3 e0 e1 e2) iv0 w hgl
                  ·
                    by_cases q10 : opVal .rem .u64 (IntKind.wrap .u64 a2) 8 < 7
                    ·
                      have e2 : opVal .rem .u64 (IntKind.wrap .u64 a2) 8 = 6 := by omega
                      exact atr r6_3_6 (rw3 e0 e1 e2) iv0 w hgl
                    ·
                      have e2 : opVal .rem .u64 (IntKind.wrap .u64 a2) 8 = 7 := by omega
                      exact atr r6_3_7 (rw3 e0 e1 e2) iv0 w hgl
          ·
            by_cases q6 : opVal .and .i64 a1 15 < 6
            ·
              by_cases q7 : opVal .and .i64 a1 15 < 5
              ·
                have e1 : opVal .and .i64 a1 15 = 4 := by omega
                have g2 := rng2_8 a2
                by_cases q8 : opVal .rem .u64 (IntKind.wrap .u64 a2) 8 < 4
                ·
                  by_cases q9 : opVal .rem .u64 (IntKind.wrap .u64 a2) 8 < 2
                  ·
                    by_cases q10 : opVal .rem .u64 (IntKind.wrap .u64 a2) 8 < 1
                    ·
                      have e2 : opVal .rem .u64 (IntKind.wrap .u64 a2) 8 = 0 := by omega
                      exact atr r6_4_0 (rw3 e0 e1 e2) iv0 w hgl
                    ·
                      have e2 : opVal .rem .u64 (IntKind.wrap .u64 a2) 8 = 1 := by omega
                      exact atr r6_4_1 (rw3 e0 e1 e2) iv0 w hgl
                  ·
                    by_cases q10 : opVal .rem .u64 (IntKind.wrap .u64 a2) 8 < 3
                    ·
                      have e2 : opVal .rem .u64 (IntKind.wrap .u64 a2) 8 = 2 := by omega
                      exact atr r6_4_2 (rw3 e0 e1 e2) iv0 w hgl
                    ·
                      have e2 : opVal .rem .u64 (IntKind.wrap .u64 a2) 8 = 3 := by omega
                      exact atr r6_4_3 (rw3 e0 e1 e2) iv0 w hgl
                ·
                  by_cases q9 : opVal .rem .u64 (IntKind.wrap .u64 a2) 8 < 6
                  ·
                    by_cases q10 : opVal .rem .u64 (IntKind.wrap .u64 a2) 8 < 5
                    ·
                      have e2 : opVal .rem .u64 (IntKind.wrap .u64 a2) 8 = 4 := by omega
                      exact atr r6_4_4 (rw3 e0 e1 e2) iv0 w hgl
                    ·
                      have e2 : opVal .rem .u64 (IntKind.wrap .u64 a2) 8 = 5 := by omega
                      exact atr r6_4_5 (rw3 e0 e1 e2) iv0 w hgl
                  ·
                    by_cases q10 : opVal .rem .u64 (IntKind.wrap .u64 a2) 8 < 7
                    ·
                      have e2 : opVal .rem .u64 (IntKind.wrap .u64 a2) 8 = 6 := by omega
                      exact atr r6_4_6 (rw3 e0 e1 e2) iv0 w hgl
                    ·
                      have e2 : opVal .rem .u64 (IntKind.wrap .u64 a2) 8 = 7 := by omega
                      exact atr r6_4_7 (rw3 e0 e1 e2) iv0 w hgl
              ·
                have e1 : opVal .and .i64 a1 15 = 5 := by omega
                have g2 := rng2_8 a2
                by_cases q8 : opVal .rem .u64 (IntKind.wrap .u64 a2) 8 < 4
                ·
                  by_cases q9 : opVal .rem .u64 (IntKind.wrap .u64 a2) 8 < 2
                  ·
                    by_cases q10 : opVal .rem .u64 (IntKind.wrap .u64 a2) 8 < 1
                    ·
                      have e2 : opVal .rem .u64 (IntKind.wrap .u64 a2) 8 = 0 := by omega
                      exact atr r6_5_0 (rw3 e0 e1 e2) iv0 w hgl
                    ·
                      have e2 : opVal .rem .u64 (IntKind.wrap .u64 a2) 8 = 1 := by omega
                      exact atr r6_5_1 (rw3 e0 e1 e2) iv0 w hgl
                  ·
                    by_cases q10 : opVal .rem .u64 (IntKind.wrap .u64 a2) 8 < 3
                    ·
                      have e2 : opVal .rem .u64 (IntKind.wrap .u64 a2) 8 = 2 := by omega
                      exact atr r6_5_2 (rw3 e0 e1 e2) iv0 w hgl
                    ·
                      have e2 : opVal .rem .u64 (IntKind.wrap .u64 a2) 8 = 3 := by omega
                      exact atr r6_5_3 (rw3 e0 e1 e2) iv0 w hgl
                ·
                  by_cases q9 : opVal .rem .u64 (IntKind.wrap .u64 a2) 8 < 6
                  ·
                    by_cases q10 : opVal .rem .u64 (IntKind.wrap .u64 a2) 8 < 5
                    ·
                      have e2 : opVal .rem .u64 (IntKind.wrap .u64 a2) 8 = 4 := by omega
                      exact atr r6_5_4 (rw3 e0 e1 e2) iv0 w hgl
                    ·
                      have e2 : opVal .rem .u64 (IntKind.wrap .u64 a2) 8 = 5 := by omega
                      exact atr r6_5_5 (rw3 e0 e1 e2) iv0 w hgl
                  ·
                    by_cases q10 : opVal .rem .u64 (IntKind.wrap .u64 a2) 8 < 7
                    ·
                      have e2 : opVal .rem .u64 (IntKind.wrap .u64 a2) 8 = 6 := by omega
                      exact atr r6_5_6 (rw3 e0 e1 e2) iv0 w hgl
                    ·
                      have e2 : opVal .rem .u64 (IntKind.wrap .u64 a2) 8 = 7 := by omega
                      exact atr r6_5_7 (rw3 e0 e1 e2) iv0 w hgl
            ·
              by_cases q7 : opVal .and .i64 a1 15 < 7
              ·
                have e1 : opVal .and .i64 a1 15 = 6 := by omega
                have g2 := rng2_8 a2
                by_cases q8 : opVal .rem .u64 (IntKind.wrap .u64 a2) 8 < 4
                ·
                  by_cases q9 : opVal .rem .u64 (IntKind.wrap .u64 a2) 8 < 2
                  ·
                    by_cases q10 : opVal .rem .u64 (IntKind.wrap .u64 a2) 8 < 1
                    ·
                      have e2 : opVal .rem .u64 (IntKind.wrap .u64 a2) 8 = 0 := by omega
                      exact atr r6_6_0 (rw3 e0 e1 e2) iv0 w hgl
                    ·
                      have e2 : opVal .rem .u64 (IntKind.wrap .u64 a2) 8 = 1 := by omega
                      exact atr r6_6_1 (rw3 e0 e1 e2) iv0 w hgl
                  ·
                    by_cases q10 : opVal .rem .u64 (IntKind.wrap .u64 a2) 8 < 3
                    ·
                      have e2 : opVal .rem .u64 (IntKind.wrap .u64 a2) 8 = 2 := by omega
                      exact atr r6_6_2 (rw3 e0 e1 e2) iv0 w hgl
                    ·
                      have e2 : opVal .rem .u64 (IntKind.wrap .u64 a2) 8 = 3 := by omega
                      exact atr r6_6_3 (rw3 e0 e1 e2) iv0 w hgl
                ·
                  by_cases q9 : opVal .rem .u64 (IntKind.wrap .u64 a2) 8 < 6
                  ·
                    by_cases q10 : opVal .rem .u64 (IntKind.wrap .u64 a2) 8 < 5
                    ·
                      have e2 : opVal .rem .u64 (IntKind.wrap .u64 a2) 8 = 4 := by omega
                      exact atr r6_6_4 (rw3 e0 e1 e2) iv0 w hgl
                    ·
                      have e2 : opVal .rem .u64 (IntKind.wrap .u64 a2) 8 = 5 := by omega
                      exact atr r6_6_5 (rw3 e0 e1 e2) iv0 w hgl
                  ·
                    by_cases q10 : opVal .rem .u64 (IntKind.wrap .u64 a2) 8 < 7
                    ·
                      have e2 : opVal .rem .u64 (IntKind.wrap .u64 a2) 8 = 6 := by omega
                      exact atr r6_6_6 (rw3 e0 e1 e2) iv0 w hgl
                    ·
                      have e2 : opVal .rem .u64 (IntKind.wrap .u64 a2) 8 = 7 := by omega
                      exact atr r6_6_7 (rw3 e0 e1 e2) iv0 w hgl
              ·
                have e1 : opVal .and .i64 a1 15 = 7 := by omega
                have g2 := rng2_8 a2
                by_cases q8 : opVal .rem .u64 (IntKind.wrap .u64 a2) 8 < 4
                ·
                  by_cases q9 : opVal .rem .u64 (IntKind.wrap .u64 a2) 8 < 2
                  ·
                    by_cases q10 : opVal .rem .u64 (IntKind.wrap .u64 a2) 8 < 1
                    ·
                      have e2 : opVal .rem .u64 (IntKind.wrap .u64 a2) 8 = 0 := by omega
                      exact atr r6_7_0 (rw3 e0 e1 e2) iv0 w hgl
                    ·
                      have e2 : opVal .rem .u64 (IntKind.wrap .u64 a2) 8 = 1 := by omega
                      exact atr r6_7_1 (rw3 e0 e1 e2) iv0 w hgl
                  ·
                    by_cases q10 : opVal .rem .u64 (IntKind.wrap .u64 a2) 8 < 3
                    ·
                      have e2 : opVal .rem .u64 (IntKind.wrap .u64 a2) 8 = 2 := by omega
                      exact atr r6_7_2 (rw3 e0 e1 e2) iv0 w hgl
                    ·
                      have e2 : opVal .rem .u64 (IntKind.wrap .u64 a2) 8 = 3 := by omega
                      exact atr r6_7_3 (rw3 e0 e1 e2) iv0 w hgl
                ·
                  by_cases q9 : opVal .rem .u64 (IntKind.wrap .u64 a2) 8 < 6
                  ·
                    by_cases q10 : opVal .rem .u64 (IntKind.wrap .u64 a2) 8 < 5
                    ·
                      have e2 : opVal .rem .u64 (IntKind.wrap .u64 a2) 8 = 4 := by omega
                      exact atr r6_7_4 (rw3 e0 e1 e2) iv0 w hgl
                    ·
                      have e2 : opVal .rem .u64 (IntKind.wrap .u64 a2) 8 = 5 := by omega
                      exact atr r6_7_5 (rw3 e0 e1 e2) iv0 w hgl
                  ·
                    by_cases q10 : opVal .rem .u64 (IntKind.wrap .u64 a2) 8 < 7
                    ·
                      have e2 : opVal .rem .u64 (IntKind.wrap .u64 a2) 8 = 6 := by omega
                      exact atr r6_7_6 (rw3 e0 e1 e2) iv0 w hgl
                    ·
                      have e2 : opVal .rem .u64 (IntKind.wrap .u64 a2) 8 = 7 := by omega
                      exact atr r6_7_7 (rw3 e0 e1 e2) iv0 w hgl
        ·
          by_cases q5 : opVal .and .i64 a1 15 < 12
          ·
            by_cases q6 : opVal .and .i64 a1 15 < 10
            ·
              by_cases q7 : opVal .and .i64 a1 15 < 9
              ·
                have e1 : opVal .and .i64 a1 15 = 8 := by omega
                have g2 := rng2_8 a2
                by_cases q8 : opVal .rem .u64 (IntKind.wrap .u64 a2) 8 < 4
                ·
                  by_cases q9 : opVal .rem .u64 (IntKind.wrap .u64 a2) 8 < 2
                  ·
                    by_cases q10 : opVal .rem .u64 (IntKind.wrap .u64 a2) 8 < 1
                    ·
                      have e2 : opVal .rem .u64 (IntKind.wrap .u64 a2) 8 = 0 := by omega
                      exact atr r6_8_0 (rw3 e0 e1 e2) iv0 w hgl
                    ·
                      have e2 : opVal .rem .u64 (IntKind.wrap .u64 a2) 8 = 1 := by omega
                      exact atr r6_8_1 (rw3 e0 e1 e2) iv0 w hgl
                  ·
                    by_cases q10 : opVal .rem .u64 (IntKind.wrap .u64 a2) 8 < 3
                    ·
                      have e2 : opVal .rem .u64 (IntKind.wrap .u64 a2) 8 = 2 := by omega
                      exact atr r6_8_2 (rw3 e0 e1 e2) iv0 w hgl
                    ·
                      have e2 : opVal .rem .u64 (IntKind.wrap .u64 a2) 8 = 3 := by omega
                      exact atr r6_8_3 (rw3 e0 e1 e2) iv0 w hgl
                ·
                  by_cases q9 : opVal .rem .u64 (IntKind.wrap .u64 a2) 8 < 6
                  ·
                    by_cases q10 : opVal .rem .u64 (IntKind.wrap .u64 a2) 8 < 5
                    ·
                      have e2 : opVal .rem .u64 (IntKind.wrap .u64 a2) 8 = 4 := by omega
                      exact atr r6_8_4 (rw3 e0 e1 e2) iv0 w hgl
                    ·
                      have e2 : opVal .rem .u64 (IntKind.wrap .u64 a2) 8 = 5 := by omega
                      exact atr r6_8_5 (rw3 e0 e1 e2) iv0 w hgl
                  ·
                    by_cases q10 : opVal .rem .u64 (IntKind.wrap .u64 a2) 8 < 7
                    ·
                      have e2 : opVal .rem .u64 (IntKind.wrap .u64 a2) 8 = 6 := by omega
                      exact atr r6_8_6 (rw3 e0 e1 e2) iv0 w hgl
                    ·
                      have e2 : opVal .rem .u64 (IntKind.wrap .u64 a2) 8 = 7 := by omega
                      exact atr r6_8_7 (rw3 e0 e1 e2) iv0 w hgl
              ·
                have e1 : opVal .and .i64 a1 15 = 9 := by omega
                have g2 := rng2_8 a2
                by_cases q8 : opVal .rem .u64 (IntKind.wrap .u64 a2) 8 < 4
                ·
                  by_cases q9 : opVal .rem .u64 (IntKind.wrap .u64 a2) 8 < 2
                  ·
                    by_cases q10 : opVal .rem .u64 (IntKind.wrap .u64 a2) 8 < 1
                    ·
                      have e2 : opVal .rem .u64 (IntKind.wrap .u64 a2) 8 = 0 := by omega
                      exact atr r6_9_0 (rw3 e0 e1 e2) iv0 w hgl
                    ·
                      have e2 : opVal .rem .u64 (IntKind.wrap .u64 a2) 8 = 1 := by omega
                      exact atr r6_9_1 (rw3 e0 e1 e2) iv0 w hgl
                  ·
                    by_cases q10 : opVal .rem .u64 (IntKind.wrap .u64 a2) 8 < 3
                    ·
                      have e2 : opVal .rem .u64 (IntKind.wrap .u64 a2) 8 = 2 := by omega
                      exact atr r6_9_2 (rw3 e0 e1 e2) iv0 w hgl
                    ·
                      have e2 : opVal .rem .u64 (IntKind.wrap .u64 a2) 8 = 3 := by omega
                      exact atr r6_9_3 (rw3 e0 e1 e2) iv0 w hgl
                ·
                  by_cases q9 : opVal .rem .u64 (IntKind.wrap .u64 a2) 8 < 6
                  ·
                    by_cases q10 : opVal .rem .u64 (IntKind.wrap .u64 a2) 8 < 5
                    ·
                      have e2 : opVal .rem .u64 (IntKind.wrap .u64 a2) 8 = 4 := by omega
                      exact atr r6_9_4 (rw3 e0 e1 e2) iv0 w hgl
                    ·
                      have e2 : opVal .rem .u64 (IntKind.wrap .u64 a2) 8 = 5 := by omega
                      exact atr r6_9_5 (rw3 e0 e1 e2) iv0 w hgl
                  ·
                    by_cases q10 : opVal .rem .u64 (IntKind.wrap .u64 a2) 8 < 7
                    ·
                      have e2 : opVal .rem .u64 (IntKind.wrap .u64 a2) 8 = 6 := by omega
                      exact atr r6_9_6 (rw3 e0 e1 e2) iv0 w hgl
                    ·
                      have e2 : opVal .rem .u64 (IntKind.wrap .u64 a2) 8 = 7 := by omega
                      exact atr r6_9_7 (rw3 e0 e1 e2) iv0 w hgl
            ·
              by_cases q7 : opVal .and .i64 a1 15 < 11
              ·
                have e1 : opVal .and .i64 a1 15 = 10 := by omega
                have g2 := rng2_8 a2
                by_cases q8 : opVal .rem .u64 (IntKind.wrap .u64 a2) 8 < 4
                ·
                  by_cases q9 : opVal .rem .u64 (IntKind.wrap .u64 a2) 8 < 2
                  ·
                    by_cases q10 : opVal .rem .u64 (IntKind.wrap .u64 a2) 8 < 1
                    ·
                      have e2 : opVal .rem .u64 (IntKind.wrap .u64 a2) 8 = 0 := by omega
                      exact atr r6_10_0 (rw3 e0 e1 e2) iv0 w hgl
                    ·
                      have e2 : opVal .rem .u64 (IntKind.wrap .u64 a2) 8 = 1 := by omega
                      exact atr r6_10_1 (rw3 e0 e1 e2) iv0 w hgl
                  ·
                    by_cases q10 : opVal .rem .u64 (IntKind.wrap .u64 a2) 8 < 3
                    ·
                      have e2 : opVal .rem .u64 (IntKind.wrap .u64 a2) 8 = 2 := by omega
                      exact atr r6_10_2 (rw3 e0 e1 e2) iv0 w hgl
                    ·
                      have e2 : opVal .rem .u64 (IntKind.wrap .u64 a2) 8 = 3 := by omega
                      exact atr r6_10_3 (rw3 e0 e1 e2) iv0 w hgl
                ·
                  by_cases q9 : opVal .rem .u64 (IntKind.wrap .u64 a2) 8 < 6
                  ·
                    by_cases q10 : opVal .rem .u64 (IntKind.wrap .u64 a2) 8 < 5
                    ·
                      have e2 : opVal .rem .u64 (IntKind.wrap .u64 a2) 8 = 4 := by omega
                      exact atr r6_10_4 (rw3 e0 e1 e2) iv0 w hgl
                    ·
                      have e2 : opVal .rem .u64 (IntKind.wrap .u64 a2) 8 = 5 := by omega
                      exact atr r6_10_5 (rw3 e0 e1 e2) iv0 w hgl
                  ·
                    by_cases q10 : opVal .rem .u64 (IntKind.wrap .u64 a2) 8 < 7
                    ·
                      have e2 : opVal .rem .u64 (IntKind.wrap .u64 a2) 8 = 6 := by omega
                      exact atr r6_10_6 (rw3 e0 e1 e2) iv0 w hgl
                    ·
                      have e2 : opVal .rem .u64 (IntKind.wrap .u64 a2) 8 = 7 := by omega
                      exact atr r6_10_7 (rw3 e0 e1 e2) iv0 w hgl
              ·
                have e1 : opVal .and .i64 a1 15 = 11 := by omega
                have g2 := rng2_8 a2
                by_cases q8 : opVal .rem .u64 (IntKind.wrap .u64 a2) 8 < 4
                ·
                  by_cases q9 : opVal .rem .u64 (IntKind.wrap .u64 a2) 8 < 2
                  ·
                    by_cases q10 : opVal .rem .u64 (IntKind.wrap .u64 a2) 8 < 1
                    ·
                      have e2 : opVal .rem .u64 (IntKind.wrap .u64 a2) 8 = 0 := by omega
                      exact atr r6_11_0 (rw3 e0 e1 e2) iv0 w hgl
                    ·
                      have e2 : opVal .rem .u64 (IntKind.wrap .u64 a2) 8 = 1 := by omega
                      exact atr r6_11_1 (rw3 e0 e1 e2) iv0 w hgl
                  ·
                    by_cases q10 : opVal .rem .u64 (IntKind.wrap .u64 a2) 8 < 3
                    ·
                      have e2 : opVal .rem .u64 (IntKind.wrap .u64 a2) 8 = 2 := by omega
                      exact atr r6_11_2 (rw3 e0 e1 e2) iv0 w hgl
                    ·
                      have e2 : opVal .rem .u64 (IntKind.wrap .u64 a2) 8 = 3 := by omega
                      exact atr r6_11_3 (rw3 e0 e1 e2) iv0 w hgl
                ·
                  by_cases q9 : opVal .rem .u64 (IntKind.wrap .u64 a2) 8 < 6
                  ·
                    by_cases q10 : opVal .rem .u64 (IntKind.wrap .u64 a2) 8 < 5
                    ·
                      have e2 : opVal .rem .u64 (IntKind.wrap .u64 a2) 8 = 4 := by omega
                      exact atr r6_11_4 (rw3 e0 e1 e2) iv0 w hgl
                    ·
                      have e2 : opVal .rem .u64 (IntKind.wrap .u64 a2) 8 = 5 := by omega
                      exact atr r6_11_5 (rw3 e0 e1 e2) iv0 w hgl
                  ·
                    by_cases q10 : opVal .rem .u64 (IntKind.wrap .u64 a2) 8 < 7
                    ·
                      have e2 : opVal .rem .u64 (IntKind.wrap .u64 a2) 8 = 6 := by omega
                      exact atr r6_11_6 (rw3 e0 e1 e2) iv0 w hgl
                    ·
                      have e2 : opVal .rem .u64 (IntKind.wrap .u64 a2) 8 = 7 := by omega
                      exact atr r6_11_7 (rw3 e0 e1 e2) iv0 w hgl
          ·
            by_cases q6 : opVal .and .i64 a1 15 < 14
            ·
              by_cases q7 : opVal .and .i64 a1 15 < 13
              ·
                have e1 : opVal .and .i64 a1 15 = 12 := by omega
                have g2 := rng2_8 a2
                by_cases q8 : opVal .rem .u64 (IntKind.wrap .u64 a2) 8 < 4
                ·
                  by_cases q9 : opVal .rem .u64 (IntKind.wrap .u64 a2) 8 < 2
                  ·
                    by_cases q10 : opVal .rem .u64 (IntKind.wrap .u64 a2) 8 < 1
                    ·
                      have e2 : opVal .rem .u64 (IntKind.wrap .u64 a2) 8 = 0 := by omega
                      exact atr r6_12_0 (rw3 e0 e1 e2) iv0 w hgl
                    ·
                      have e2 : opVal .rem .u64 (IntKind.wrap .u64 a2) 8 = 1 := by omega
                      exact atr r6_12_1 (rw3 e0 e1 e2) iv0 w hgl
                  ·
                    by_cases q10 : opVal .rem .u64 (IntKind.wrap .u64 a2) 8 < 3
                    ·
                      have e2 : opVal .rem .u64 (IntKind.wrap .u64 a2) 8 = 2 := by omega
                      exact atr r6_12_2 (rw3 e0 e1 e2) iv0 w hgl
                    ·
                      have e2 : opVal .rem .u64 (IntKind.wrap .u64 a2) 8 = 3 := by omega
                      exact atr r6_12_3 (rw3 e0 e1 e2) iv0 w hgl
                ·
                  by_cases q9 : opVal .rem .u64 (IntKind.wrap .u64 a2) 8 < 6
                  ·
                    by_cases q10 : opVal .rem .u64 (IntKind.wrap .u64 a2) 8 < 5
                    ·
                      have e2 : opVal .rem .u64 (IntKind.wrap .u64 a2) 8 = 4 := by omega
                      exact atr r6_12_4 (rw3 e0 e1 e2) iv0 w hgl
                    ·
                      have e2 : opVal .rem .u64 (IntKind.wrap .u64 a2) 8 = 5 := by omega
                      exact atr r6_12_5 (rw3 e0 e1 e2) iv0 w hgl
                  ·
                    by_cases q10 : opVal .rem .u64 (IntKind.wrap .u64 a2) 8 < 7
                    ·
                      have e2 : opVal .rem .u64 (IntKind.wrap .u64 a2) 8 = 6 := by omega
                      exact atr r6_12_6 (rw3 e0 e1 e2) iv0 w hgl
                    ·
                      have e2 : opVal .rem .u64 (IntKind.wrap .u64 a2) 8 = 7 := by omega
                      exact atr r6_12_7 (rw3 e0 e1 e2) iv0 w hgl
              ·
                have e1 : opVal .and .i64 a1 15 = 13 := by omega
                have g2 := rng2_8 a2
                by_cases q8 : opVal .rem .u64 (IntKind.wrap .u64 a2) 8 < 4
                ·
                  by_cases q9 : opVal .rem .u64 (IntKind.wrap .u64 a2) 8 < 2
                  ·
                    by_cases q10 : opVal .rem .u64 (IntKind.wrap .u64 a2) 8 < 1
                    ·
                      have e2 : opVal .rem .u64 (IntKind.wrap .u64 a2) 8 = 0 := by omega
                      exact atr r6_13_0 (rw3 e0 e1 e2) iv0 w hgl
                    ·
                      have e2 : opVal .rem .u64 (IntKind.wrap .u64 a2) 8 = 1 := by omega
                      exact atr r6_13_1 (rw3 e0 e1 e2) iv0 w hgl
                  ·
                    by_cases q10 : opVal .rem .u64 (IntKind.wrap .u64 a2) 8 < 3
                    ·
                      have e2 : opVal .rem .u64 (IntKind.wrap .u64 a2) 8 = 2 := by omega
                      exact atr r6_13_2 (rw3 e0 e1 e2) iv0 w hgl
                    ·
                      have e2 : opVal .rem .u64 (IntKind.wrap .u64 a2) 8 = 3 := by omega
                      exact atr r6_13_3 (rw3 e0 e1 e2) iv0 w hgl
                ·
                  by_cases q9 : opVal .rem .u64 (IntKind.wrap .u64 a2) 8 < 6
                  ·
                    by_cases q10 : opVal .rem .u64 (IntKind.wrap .u64 a2) 8 < 5
                    ·
                      have e2 : opVal .rem .u64 (IntKind.wrap .u64 a2) 8 = 4 := by omega
                      exact atr r6_13_4 (rw3 e0 e1 e2) iv0 w hgl
                    ·
                      have e2 : opVal .rem .u64 (IntKind.wrap .u64 a2) 8 = 5 := by omega
                      exact atr r6_13_5 (rw3 e0 e1 e2) iv0 w hgl
                  ·
                    by_cases q10 : opVal .rem .u64 (IntKind.wrap .u64 a2) 8 < 7
                    ·
                      have e2 : opVal .rem .u64 (IntKind.wrap .u64 a2) 8 = 6 := by omega
                      exact atr r6_13_6 (rw3 e0 e1 e2) iv0 w hgl
                    ·
                      have e2 : opVal .rem .u64 (IntKind.wrap .u64 a2) 8 = 7 := by omega
                      exact atr r6_13_7 (rw3 e0 e1 e2) iv0 w hgl
            ·
              by_cases q7 : opVal .and .i64 a1 15 < 15
              ·
                have e1 : opVal .and .i64 a1 15 = 14 := by omega
                have g2 := rng2_8 a2
                by_cases q8 : opVal .rem .u64 (IntKind.wrap .u64 a2) 8 < 4
                ·
                  by_cases q9 : opVal .rem .u64 (IntKind.wrap .u64 a2) 8 < 2
                  ·
                    by_cases q10 : opVal .rem .u64 (IntKind.wrap .u64 a2) 8 < 1
                    ·
                      have e2 : opVal .rem .u64 (IntKind.wrap .u64 a2) 8 = 0 := by omega
                      exact atr r6_14_0 (rw3 e0 e1 e2) iv0 w hgl
                    ·
                      have e2 : opVal .rem .u64 (IntKind.wrap .u64 a2) 8 = 1 := by omega
                      exact atr r6_14_1 (rw3 e0 e1 e2) iv0 w hgl
                  ·
                    by_cases q10 : opVal .rem .u64 (IntKind.wrap .u64 a2) 8 < 3
                    ·
                      have e2 : opVal .rem .u64 (IntKind.wrap .u64 a2) 8 = 2 := by omega
                      exact atr r6_14_2 (rw3 e0 e1 e2) iv0 w hgl
                    ·
                      have e2 : opVal .rem .u64 (IntKind.wrap .u64 a2) 8 = 3 := by omega
                      exact atr r6_14_3 (rw3 e0 e1 e2) iv0 w hgl
                ·
                  by_cases q9 : opVal .rem .u64 (IntKind.wrap .u64 a2) 8 < 6
                  ·
                    by_cases q10 : opVal .rem .u64 (IntKind.wrap .u64 a2) 8 < 5
                    ·
                      have e2 : opVal .rem .u64 (IntKind.wrap .u64 a2) 8 = 4 := by omega
                      exact atr r6_14_4 (rw3 e0 e1 e2) iv0 w hgl
                    ·
                      have e2 : opVal .rem .u64 (IntKind.wrap .u64 a2) 8 = 5 := by omega
                      exact atr r6_14_5 (rw3 e0 e1 e2) iv0 w hgl
                  ·
                    by_cases q10 : opVal .rem .u64 (IntKind.wrap .u64 a2) 8 < 7
                    ·
                      have e2 : opVal .rem .u64 (IntKind.wrap .u64 a2) 8 = 6 := by omega
                      exact atr r6_14_6 (rw3 e0 e1 e2) iv0 w hgl
                    ·
                      have e2 : opVal .rem .u64 (IntKind.wrap .u64 a2) 8 = 7 := by omega
                      exact atr r6_14_7 (rw3 e0 e1 e2) iv0 w hgl
              ·
                have e1 : opVal .and .i64 a1 15 = 15 := by omega
                have g2 := rng2_8 a2
                by_cases q8 : opVal .rem .u64 (IntKind.wrap .u64 a2) 8 < 4
                ·
                  by_cases q9 : opVal .rem .u64 (IntKind.wrap .u64 a2) 8 < 2
                  ·
                    by_cases q10 : opVal .rem .u64 (IntKind.wrap .u64 a2) 8 < 1
                    ·
                      have e2 : opVal .rem .u64 (IntKind.wrap .u64 a2) 8 = 0 := by omega
                      exact atr r6_15_0 (rw3 e0 e1 e2) iv0 w hgl
                    ·
                      have e2 : opVal .rem .u64 (IntKind.wrap .u64 a2) 8 = 1 := by omega
                      exact atr r6_15_1 (rw3 e0 e1 e2) iv0 w hgl
                  ·
                    by_cases q10 : opVal .rem .u64 (IntKind.wrap .u64 a2) 8 < 3
                    ·
                      have e2 : opVal .rem .u64 (IntKind.wrap .u64 a2) 8 = 2 := by omega
                      exact atr r6_15_2 (rw3 e0 e1 e2) iv0 w hgl
                    ·
                      have e2 : opVal .rem .u64 (IntKind.wrap .u64 a2) 8 = 3 := by omega
                      exact atr r6_15_3 (rw3 e0 e1 e2) iv0 w hgl
                ·
                  by_cases q9 : opVal .rem .u64 (IntKind.wrap .u64 a2) 8 < 6
                  ·
                    by_cases q10 : opVal .rem .u64 (IntKind.wrap .u64 a2) 8 < 5
                    ·
                      have e2 : opVal .rem .u64 (IntKind.wrap .u64 a2) 8 = 4 := by omega
                      exact atr r6_15_4 (rw3 e0 e1 e2) iv0 w hgl
                    ·
                      have e2 : opVal .rem .u64 (IntKind.wrap .u64 a2) 8 = 5 := by omega
                      exact atr r6_15_5 (rw3 e0 e1 e2) iv0 w hgl
                  ·
                    by_cases q10 : opVal .rem .u64 (IntKind.wrap .u64 a2) 8 < 7
                    ·
                      have e2 : opVal .rem .u64 (IntKind.wrap .u64 a2) 8 = 6 := by omega
                      exact atr r6_15_6 (rw3 e0 e1 e2) iv0 w hgl
                    ·
                      have e2 : opVal .rem .u64 (IntKind.wrap .u64 a2) 8 = 7 := by omega
                      exact atr r6_15_7 (rw3 e0 e1 e2) iv0 w hgl
      ·
        have e0 : opVal .and .i64 a0 7 = 7 := by omega
        have g1 := rng1 a1
        by_cases q4 : opVal .and .i64 a1 15 < 8
        ·
          by_cases q5 : opVal .and .i64 a1 15 < 4
          ·
            by_cases q6 : opVal .and .i64 a1 15 < 2
            ·
              by_cases q7 : opVal .and .i64 a1 15 < 1
              ·
                have e1 : opVal .and .i64 a1 15 = 0 := by omega
                have g2 := rng2_9 a2
                by_cases q8 : opVal .rem .u64 (IntKind.wrap .u64 a2) 9 < 4
                ·
                  by_cases q9 : opVal .rem .u64 (IntKind.wrap .u64 a2) 9 < 2
                  ·
                    by_cases q10 : opVal .rem .u64 (IntKind.wrap .u64 a2) 9 < 1
                    ·
                      have e2 : opVal .rem .u64 (IntKind.wrap .u64 a2) 9 = 0 := by omega
                      exact atr r7_0_0 (rw3 e0 e1 e2) iv0 w hgl
                    ·
                      have e2 : opVal .rem .u64 (IntKind.wrap .u64 a2) 9 = 1 := by omega
                      exact atr r7_0_1 (rw3 e0 e1 e2) iv0 w hgl
                  ·
                    by_cases q10 : opVal .rem .u64 (IntKind.wrap .u64 a2) 9 < 3
                    ·
                      have e2 : opVal .rem .u64 (IntKind.wrap .u64 a2) 9 = 2 := by omega
                      exact atr r7_0_2 (rw3 e0 e1 e2) iv0 w hgl
                    ·
                      have e2 : opVal .rem .u64 (IntKind.wrap .u64 a2) 9 = 3 := by omega
                      exact atr r7_0_3 (rw3 e0 e1 e2) iv0 w hgl
                ·
                  by_cases q9 : opVal .rem .u64 (IntKind.wrap .u64 a2) 9 < 6
                  ·
                    by_cases q10 : opVal .rem .u64 (IntKind.wrap .u64 a2) 9 < 5
                    ·
                      have e2 : opVal .rem .u64 (IntKind.wrap .u64 a2) 9 = 4 := by omega
                      exact atr r7_0_4 (rw3 e0 e1 e2) iv0 w hgl
                    ·
                      have e2 : opVal .rem .u64 (IntKind.wrap .u64 a2) 9 = 5 := by omega
                      exact atr r7_0_5 (rw3 e0 e1 e2) iv0 w hgl
                  ·
                    by_cases q10 : opVal .rem .u64 (IntKind.wrap .u64 a2) 9 < 7
                    ·
                      have e2 : opVal .rem .u64 (IntKind.wrap .u64 a2) 9 = 6 := by omega
                      exact atr r7_0_6 (rw3 e0 e1 e2) iv0 w hgl
                    ·
                      by_cases q11 : opVal .rem .u64 (IntKind.wrap .u64 a2) 9 < 8
                      ·
                        have e2 : opVal .rem .u64 (IntKind.wrap .u64 a2) 9 = 7 := by omega
                        exact atr r7_0_7 (rw3 e0 e1 e2) iv0 w hgl
                      ·
                        have e2 : opVal .rem .u64 (IntKind.wrap .u64 a2) 9 = 8 := by omega
                        exact atr r7_0_8 (rw3 e0 e1 e2) iv0 w hgl
              ·
                have e1 : opVal .and .i64 a1 15 = 1 := by omega
                have g2 := rng2_9 a2
                by_cases q8 : opVal .rem .u64 (IntKind.wrap .u64 a2) 9 < 4
                ·
                  by_cases q9 : opVal .rem .u64 (IntKind.wrap .u64 a2) 9 < 2
                  ·
                    by_cases q10 : opVal .rem .u64 (IntKind.wrap .u64 a2) 9 < 1
                    ·
                      have e2 : opVal .rem .u64 (IntKind.wrap .u64 a2) 9 = 0 := by omega
                      exact atr r7_1_0 (rw3 e0 e1 e2) iv0 w hgl
                    ·
                      have e2 : opVal .rem .u64 (IntKind.wrap .u64 a2) 9 = 1 := by omega
                      exact atr r7_1_1 (rw3 e0 e1 e2) iv0 w hgl
                  ·
                    by_cases q10 : opVal .rem .u64 (IntKind.wrap .u64 a2) 9 < 3
                    ·
                      have e2 : opVal .rem .u64 (IntKind.wrap .u64 a2) 9 = 2 := by omega
                      exact atr r7_1_2 (rw3 e0 e1 e2) iv0 w hgl
                    ·
                      have e2 : opVal .rem .u64 (IntKind.wrap .u64 a2) 9 = 3 := by omega
                      exact atr r7_1_3 (rw3 e0 e1 e2) iv0 w hgl
                ·
                  by_cases q9 : opVal .rem .u64 (IntKind.wrap .u64 a2) 9 < 6
                  ·
                    by_cases q10 : opVal .rem .u64 (IntKind.wrap .u64 a2) 9 < 5
                    ·
                      have e2 : opVal .rem .u64 (IntKind.wrap .u64 a2) 9 = 4 := by omega
                      exact atr r7_1_4 (rw3 e0 e1 e2) iv0 w hgl
                    ·
                      have e2 : opVal .rem .u64 (IntKind.wrap .u64 a2) 9 = 5 := by omega
                      exact atr r7_1_5 (rw3 e0 e1 e2) iv0 w hgl
                  ·
                    by_cases q10 : opVal .rem .u64 (IntKind.wrap .u64 a2) 9 < 7
                    ·
                      have e2 : opVal .rem .u64 (IntKind.wrap .u64 a2) 9 = 6 := by omega
                      exact atr r7_1_6 (rw3 e0 e1 e2) iv0 w hgl
                    ·
                      by_cases q11 : opVal .rem .u64 (IntKind.wrap .u64 a2) 9 < 8
                      ·
                        have e2 : opVal .rem .u64 (IntKind.wrap .u64 a2) 9 = 7 := by omega
                        exact atr r7_1_7 (rw3 e0 e1 e2) iv0 w hgl
                      ·
                        have e2 : opVal .rem .u64 (IntKind.wrap .u64 a2) 9 = 8 := by omega
                        exact atr r7_1_8 (rw3 e0 e1 e2) iv0 w hgl
            ·
              by_cases q7 : opVal .and .i64 a1 15 < 3
              ·
                have e1 : opVal .and .i64 a1 15 = 2 := by omega
                have g2 := rng2_9 a2
                by_cases q8 : opVal .rem .u64 (IntKind.wrap .u64 a2) 9 < 4
                ·
                  by_cases q9 : opVal .rem .u64 (IntKind.wrap .u64 a2) 9 < 2
                  ·
                    by_cases q10 : opVal .rem .u64 (IntKind.wrap .u64 a2) 9 < 1
                    ·
                      have e2 : opVal .rem .u64 (IntKind.wrap .u64 a2) 9 = 0 := by omega
                      exact atr r7_2_0 (rw3 e0 e1 e2) iv0 w hgl
                    ·
                      have e2 : opVal .rem .u64 (IntKind.wrap .u64 a2) 9 = 1 := by omega
                      exact atr r7_2_1 (rw3 e0 e1 e2) iv0 w hgl
                  ·
                    by_cases q10 : opVal .rem .u64 (IntKind.wrap .u64 a2) 9 < 3
                    ·
                      have e2 : opVal .rem .u64 (IntKind.wrap .u64 a2) 9 = 2 := by omega
                      exact atr r7_2_2 (rw3 e0 e1 e2) iv0 w hgl
                    ·
                      have e2 : opVal .rem .u64 (IntKind.wrap .u64 a2) 9 = 3 := by omega
                      exact atr r7_2_3 (rw3 e0 e1 e2) iv0 w hgl
                ·
                  by_cases q9 : opVal .rem .u64 (IntKind.wrap .u64 a2) 9 < 6
                  ·
                    by_cases q10 : opVal .rem .u64 (IntKind.wrap .u64 a2) 9 < 5
                    ·
                      have e2 : opVal .rem .u64 (IntKind.wrap .u64 a2) 9 = 4 := by omega
                      exact atr r7_2_4 (rw3 e0 e1 e2) iv0 w hgl
                    ·
                      have e2 : opVal .rem .u64 (IntKind.wrap .u64 a2) 9 = 5 := by omega
                      exact atr r7_2_5 (rw3 e0 e1 e2) iv0 w hgl
                  ·
                    by_cases q10 : opVal .rem .u64 (IntKind.wrap .u64 a2) 9 < 7
                    ·
                      have e2 : opVal .rem .u64 (IntKind.wrap .u64 a2) 9 = 6 := by omega
                      exact atr r7_2_6 (rw3 e0 e1 e2) iv0 w hgl
                    ·
                      by_cases q11 : opVal .rem .u64 (IntKind.wrap .u64 a2) 9 < 8
                      ·
                        have e2 : opVal .rem .u64 (IntKind.wrap .u64 a2) 9 = 7 := by omega
                        exact atr r7_2_7 (rw3 e0 e1 e2) iv0 w hgl
                      ·
                        have e2 : opVal .rem .u64 (IntKind.wrap .u64 a2) 9 = 8 := by omega
                        exact atr r7_2_8 (rw3 e0 e1 e2) iv0 w hgl
              ·
                have e1 : opVal .and .i64 a1 15 = 3 := by omega
                have g2 := rng2_9 a2
                by_cases q8 : opVal .rem .u64 (IntKind.wrap .u64 a2) 9 < 4
                ·
                  by_cases q9 : opVal .rem .u64 (IntKind.wrap .u64 a2) 9 < 2
                  ·
                    by_cases q10 : opVal .rem .u64 (IntKind.wrap .u64 a2) 9 < 1
                    ·
                      have e2 : opVal .rem .u64 (IntKind.wrap .u64 a2) 9 = 0 := by omega
                      exact atr r7_3_0 (rw3 e0 e1 e2) iv0 w hgl
                    ·
                      have e2 : opVal .rem .u64 (IntKind.wrap .u64 a2) 9 = 1 := by omega
                      exact atr r7_3_1 (rw3 e0 e1 e2) iv0 w hgl
                  ·
                    by_cases q10 : opVal .rem .u64 (IntKind.wrap .u64 a2) 9 < 3
                    ·
                      have e2 : opVal .rem .u64 (IntKind.wrap .u64 a2) 9 = 2 := by omega
                      exact atr r7_3_2 (rw3 e0 e1 e2) iv0 w hgl
                    ·
                      have e2 : opVal .rem .u64 (IntKind.wrap .u64 a2) 9 = 3 := by omega
                      exact atr r7_3_3 (rw3 e0 e1 e2) iv0 w hgl
                ·
                  by_cases q9 : opVal .rem .u64 (IntKind.wrap .u64 a2) 9 < 6
                  ·
                    by_cases q10 : opVal .rem .u64 (IntKind.wrap .u64 a2) 9 < 5
                    ·
                      have e2 : opVal .rem .u64 (IntKind.wrap .u64 a2) 9 = 4 := by omega
                      exact atr r7_3_4 (rw3 e0 e1 e2) iv0 w hgl
                    ·
                      have e2 : opVal .rem .u64 (IntKind.wrap .u64 a2) 9 = 5 := by omega
                      exact atr r7_3_5 (rw3 e0 e1 e2) iv0 w hgl
                  ·
                    by_cases q10 : opVal .rem .u64 (IntKind.wrap .u64 a2) 9 < 7
                    ·
                      have e2 : opVal .rem .u64 (IntKind.wrap .u64 a2) 9 = 6 := by omega
                      exact atr r7_3_6 (rw3 e0 e1 e2) iv0 w hgl
                    ·
                      by_cases q11 : opVal .rem .u64 (IntKind.wrap .u64 a2) 9 < 8
                      ·
                        have e2 : opVal .rem .u64 (IntKind.wrap .u64 a2) 9 = 7 := by omega
                        exact atr r7_3_7 (rw3 e0 e1 e2) iv0 w hgl
                      ·
                        have e2 : opVal .rem .u64 (IntKind.wrap .u64 a2) 9 = 8 := by omega
                        exact atr r7_3_8 (rw3 e0 e1 e2) iv0 w hgl
          ·
            by_cases q6 : opVal .and .i64 a1 15 < 6
            ·
              by_cases q7 : opVal .and .i64 a1 15 < 5
              ·
                have e1 : opVal .and .i64 a1 15 = 4 := by omega
                have g2 := rng2_9 a2
                by_cases q8 : opVal .rem .u64 (IntKind.wrap .u64 a2) 9 < 4
                ·
                  by_cases q9 : opVal .rem .u64 (IntKind.wrap .u64 a2) 9 < 2
                  ·
                    by_cases q10 : opVal .rem .u64 (IntKind.wrap .u64 a2) 9 < 1
                    ·
                      have e2 : opVal .rem .u64 (IntKind.wrap .u64 a2) 9 = 0 := by omega
                      exact atr r7_4_0 (rw3 e0 e1 e2) iv0 w hgl
                    ·
                      have e2 : opVal .rem .u64 (IntKind.wrap .u64 a2) 9 = 1 := by omega
                      exact atr r7_4_1 (rw3 e0 e1 e2) iv0 w hgl
                  ·
                    by_cases q10 : opVal .rem .u64 (IntKind.wrap .u64 a2) 9 < 3
                    ·
                      have e2 : opVal .rem .u64 (IntKind.wrap .u64 a2) 9 = 2 := by omega
                      exact atr r7_4_2 (rw3 e0 e1 e2) iv0 w hgl
                    ·
                      have e2 : opVal .rem .u64 (IntKind.wrap .u64 a2) 9 = 3 := by omega
                      exact atr r7_4_3 (rw3 e0 e1 e2) iv0 w hgl
                ·
                  by_cases q9 : opVal .rem .u64 (IntKind.wrap .u64 a2) 9 < 6
                  ·
                    by_cases q10 : opVal .rem .u64 (IntKind.wrap .u64 a2) 9 < 5
                    ·
                      have e2 : opVal .rem .u64 (IntKind.wrap .u64 a2) 9 = 4 := by omega
                      exact atr r7_4_4 (rw3 e0 e1 e2) iv0 w hgl
                    ·
                      have e2 : opVal .rem .u64 (IntKind.wrap .u64 a2) 9 = 5 := by omega
                      exact atr r7_4_5 (rw3 e0 e1 e2) iv0 w hgl
                  ·
                    by_cases q10 : opVal .rem .u64 (IntKind.wrap .u64 a2) 9 < 7
                    ·
                      have e2 : opVal .rem .u64 (IntKind.wrap .u64 a2) 9 = 6 := by omega
                      exact atr r7_4_6 (rw3 e0 e1 e2) iv0 w hgl
                    ·
                      by_cases q11 : opVal .rem .u64 (IntKind.wrap .u64 a2) 9 < 8
                      ·
                        have e2 : opVal .rem .u64 (IntKind.wrap .u64 a2) 9 = 7 := by omega
                        exact atr r7_4_7 (rw3 e0 e1 e2) iv0 w hgl
                      ·
                        have e2 : opVal .rem .u64 (IntKind.wrap .u64 a2) 9 = 8 := by omega
                        exact atr r7_4_8 (rw3 e0 e1 e2) iv0 w hgl
              ·
                have e1 : opVal .and .i64 a1 15 = 5 := by omega
                have g2 := rng2_9 a2
                by_cases q8 : opVal .rem .u64 (IntKind.wrap .u64 a2) 9 < 4
                ·
                  by_cases q9 : opVal .rem .u64 (IntKind.wrap .u64 a2) 9 < 2
                  ·
                    by_cases q10 : opVal .rem .u64 (IntKind.wrap .u64 a2) 9 < 1
                    ·
                      have e2 : opVal .rem .u64 (IntKind.wrap .u64 a2) 9 = 0 := by omega
                      exact atr r7_5_0 (rw3 e0 e1 e2) iv0 w hgl
                    ·
                      have e2 : opVal .rem .u64 (IntKind.wrap .u64 a2) 9 = 1 := by omega
                      exact atr r7_5_1 (rw3 e0 e1 e2) iv0 w hgl
                  ·
                    by_cases q10 : opVal .rem .u64 (IntKind.wrap .u64 a2) 9 < 3
                    ·
                      have e2 : opVal .rem .u64 (IntKind.wrap .u64 a2) 9 = 2 := by omega
                      exact atr r7_5_2 (rw3 e0 e1 e2) iv0 w hgl
                    ·
                      have e2 : opVal .rem .u64 (IntKind.wrap .u64 a2) 9 = 3 := by omega
                      exact atr r7_5_3 (rw3 e0 e1 e2) iv0 w hgl
                ·
                  by_cases q9 : opVal .rem .u64 (IntKind.wrap .u64 a2) 9 < 6
                  ·
                    by_cases q10 : opVal .rem .u64 (IntKind.wrap .u64 a2) 9 < 5
                    ·
                      have e2 : opVal .rem .u64 (IntKind.wrap .u64 a2) 9 = 4 := by omega
                      exact atr r7_5_4 (rw3 e0 e1 e2) iv0 w hgl
                    ·
                      have e2 : opVal .rem .u64 (IntKind.wrap .u64 a2) 9 = 5 := by omega
                      exact atr r7_5_5 (rw3 e0 e1 e2) iv0 w hgl
                  ·
                    by_cases q10 : opVal .rem .u64 (IntKind.wrap .u64 a2) 9 < 7
                    ·
                      have e2 : opVal .rem .u64 (IntKind.wrap .u64 a2) 9 = 6 := by omega
                      exact atr r7_5_6 (rw3 e0 e1 e2) iv0 w hgl
                    ·
                      by_cases q11 : opVal .rem .u64 (IntKind.wrap .u64 a2) 9 < 8
                      ·
                        have e2 : opVal .rem .u64 (IntKind.wrap .u64 a2) 9 = 7 := by omega
                        exact atr r7_5_7 (rw3 e0 e1 e2) iv0 w hgl
                      ·
                        have e2 : opVal .rem .u64 (IntKind.wrap .u64 a2) 9 = 8 := by omega
                        exact atr r7_5_8 (rw3 e0 e1 e2) iv0 w hgl
            ·
              by_cases q7 : opVal .and .i64 a1 15 < 7
              ·
                have e1 : opVal .and .i64 a1 15 = 6 := by omega
                have g2 := rng2_9 a2
                by_cases q8 : opVal .rem .u64 (IntKind.wrap .u64 a2) 9 < 4
                ·
                  by_cases q9 : opVal .rem .u64 (IntKind.wrap .u64 a2) 9 < 2
                  ·
                    by_cases q10 : opVal .rem .u64 (IntKind.wrap .u64 a2) 9 < 1
                    ·
                      have e2 : opVal .rem .u64 (IntKind.wrap .u64 a2) 9 = 0 := by omega
                      exact atr r7_6_0 (rw3 e0 e1 e2) iv0 w hgl
                    ·
                      have e2 : opVal .rem .u64 (IntKind.wrap .u64 a2) 9 = 1 := by omega
                      exact atr r7_6_1 (rw3 e0 e1 e2) iv0 w hgl
                  ·
                    by_cases q10 : opVal .rem .u64 (IntKind.wrap .u64 a2) 9 < 3
                    ·
                      have e2 : opVal .rem .u64 (IntKind.wrap .u64 a2) 9 = 2 := by omega
                      exact atr r7_6_2 (rw3 e0 e1 e2) iv0 w hgl
                    ·
                      have e2 : opVal .rem .u64 (IntKind.wrap .u64 a2) 9 = 3 := by omega
                      exact atr r7_6_3 (rw3 e0 e1 e2) iv0 w hgl
                ·
                  by_cases q9 : opVal .rem .u64 (IntKind.wrap .u64 a2) 9 < 6
                  ·
                    by_cases q10 : opVal .rem .u64 (IntKind.wrap .u64 a2) 9 < 5
                    ·
                      have e2 : opVal .rem .u64 (IntKind.wrap .u64 a2) 9 = 4 := by omega
                      exact atr r7_6_4 (rw3 e0 e1 e2) iv0 w hgl
                    ·
                      have e2 : opVal .rem .u64 (IntKind.wrap .u64 a2) 9 = 5 := by omega
                      exact atr r7_6_5 (rw3 e0 e1 e2) iv0 w hgl
                  ·
                    by_cases q10 : opVal .rem .u64 (IntKind.wrap .u64 a2) 9 < 7
                    ·
                      have e2 : opVal .rem .u64 (IntKind.wrap .u64 a2) 9 = 6 := by omega
                      exact atr r7_6_6 (rw3 e0 e1 e2) iv0 w hgl
                    ·
                      by_cases q11 : opVal .rem .u64 (IntKind.wrap .u64 a2) 9 < 8
                      ·
                        have e2 : opVal .rem .u64 (IntKind.wrap .u64 a2) 9 = 7 := by omega
                        exact atr r7_6_7 (rw3 e0 e1 e2) iv0 w hgl
                      ·
                        have e2 : opVal .rem .u64 (IntKind.wrap .u64 a2) 9 = 8 := by omega
                        exact atr r7_6_8 (rw3 e0 e1 e2) iv0 w hgl
              ·
                have e1 : opVal .and .i64 a1 15 = 7 := by omega
                have g2 := rng2_9 a2
                by_cases q8 : opVal .rem .u64 (IntKind.wrap .u64 a2) 9 < 4
                ·
                  by_cases q9 : opVal .rem .u64 (IntKind.wrap .u64 a2) 9 < 2
                  ·
                    by_cases q10 : opVal .rem .u64 (IntKind.wrap .u64 a2) 9 < 1
                    ·
                      have e2 : opVal .rem .u64 (IntKind.wrap .u64 a2) 9 = 0 := by omega
                      exact atr r7_7_0 (rw3 e0 e1 e2) iv0 w hgl
                    ·
                      have e2 : opVal .rem .u64 (IntKind.wrap .u64 a2) 9 = 1 := by omega
                      exact atr r7_7_1 (rw3 e0 e1 e2) iv0 w hgl
                  ·
                    by_cases q10 : opVal .rem .u64 (IntKind.wrap .u64 a2) 9 < 3
                    ·
                      have e2 : opVal .rem .u64 (IntKind.wrap .u64 a2) 9 = 2 := by omega
                      exact atr r7_7_2 (rw3 e0 e1 e2) iv0 w hgl
                    ·
                      have e2 : opVal .rem .u64 (IntKind.wrap .u64 a2) 9 = 3 := by omega
                      exact atr r7_7_3 (rw3 e0 e1 e2) iv0 w hgl
                ·
                  by_cases q9 : opVal .rem .u64 (IntKind.wrap .u64 a2) 9 < 6
                  ·
                    by_cases q10 : opVal .rem .u64 (IntKind.wrap .u64 a2) 9 < 5
                    ·
                      have e2 : opVal .rem .u64 (IntKind.wrap .u64 a2) 9 = 4 := by omega
                      exact atr r7_7_4 (rw3 e0 e1 e2) iv0 w hgl
                    ·
                      have e2 : opVal .rem .u64 (IntKind.wrap .u64 a2) 9 = 5 := by omega
                      exact atr r7_7_5 (rw3 e0 e1 e2) iv0 w hgl
                  ·
                    by_cases q10 : opVal .rem .u64 (IntKind.wrap .u64 a2) 9 < 7
                    ·
                      have e2 : opVal .rem .u64 (IntKind.wrap .u64 a2) 9 = 6 := by omega
                      exact atr r7_7_6 (rw3 e0 e1 e2) iv0 w hgl
                    ·
                      by_cases q11 : opVal .rem .u64 (IntKind.wrap .u64 a2) 9 < 8
                      ·
                        have e2 : opVal .rem .u64 (IntKind.wrap .u64 a2) 9 = 7 := by omega
                        exact atr r7_7_7 (rw3 e0 e1 e2) iv0 w hgl
                      ·
                        have e2 : opVal .rem .u64 (IntKind.wrap .u64 a2) 9 = 8 := by omega
                        exact atr r7_7_8 (rw3 e0 e1 e2) iv0 w hgl
        ·
          by_cases q5 : opVal .and .i64 a1 15 < 12
          ·
            by_cases q6 : opVal .and .i64 a1 15 < 10
            ·
              by_cases q7 : opVal .and .i64 a1 15 < 9
              ·
                have e1 : opVal .and .i64 a1 15 = 8 := by omega
                have g2 := rng2_9 a2
                by_cases q8 : opVal .rem .u64 (IntKind.wrap .u64 a2) 9 < 4
                ·
                  by_cases q9 : opVal .rem .u64 (IntKind.wrap .u64 a2) 9 < 2
                  ·
                    by_cases q10 : opVal .rem .u64 (IntKind.wrap .u64 a2) 9 < 1
                    ·
                      have e2 : opVal .rem .u64 (IntKind.wrap .u64 a2) 9 = 0 := by omega
                      exact atr r7_8_0 (rw3 e0 e1 e2) iv0 w hgl
                    ·
                      have e2 : opVal .rem .u64 (IntKind.wrap .u64 a2) 9 = 1 := by omega
                      exact atr r7_8_1 (rw3 e0 e1 e2) iv0 w hgl
                  ·
                    by_cases q10 : opVal .rem .u64 (IntKind.wrap .u64 a2) 9 < 3
                    ·
                      have e2 : opVal .rem .u64 (IntKind.wrap .u64 a2) 9 = 2 := by omega
                      exact atr r7_8_2 (rw3 e0 e1 e2) iv0 w hgl
                    ·
                      have e2 : opVal .rem .u64 (IntKind.wrap .u64 a2) 9 = 3 := by omega
                      exact atr r7_8_3 (rw3 e0 e1 e2) iv0 w hgl
                ·
                  by_cases q9 : opVal .rem .u64 (IntKind.wrap .u64 a2) 9 < 6
                  ·
                    by_cases q10 : opVal .rem .u64 (IntKind.wrap .u64 a2) 9 < 5
                    ·
                      have e2 : opVal .rem .u64 (IntKind.wrap .u64 a2) 9 = 4 := by omega
                      exact atr r7_8_4 (rw3 e0 e1 e2) iv0 w hgl
                    ·
                      have e2 : opVal .rem .u64 (IntKind.wrap .u64 a2) 9 = 5 := by omega
                      exact atr r7_8_5 (rw3 e0 e1 e2) iv0 w hgl
                  ·
                    by_cases q10 : opVal .rem .u64 (IntKind.wrap .u64 a2) 9 < 7
                    ·
                      have e2 : opVal .rem .u64 (IntKind.wrap .u64 a2) 9 = 6 := by omega
                      exact atr r7_8_6 (rw3 e0 e1 e2) iv0 w hgl
                    ·
                      by_cases q11 : opVal .rem .u64 (IntKind.wrap .u64 a2) 9 < 8
                      ·
                        have e2 : opVal .rem .u64 (IntKind.wrap .u64 a2) 9 = 7 := by omega
                        exact atr r7_8_7 (rw3 e0 e1 e2) iv0 w hgl
                      ·
                        have e2 : opVal .rem .u64 (IntKind.wrap .u64 a2) 9 = 8 := by omega
                        exact atr r7_8_8 (rw3 e0 e1 e2) iv0 w hgl
              ·
                have e1 : opVal .and .i64 a1 15 = 9 := by omega
                have g2 := rng2_9 a2
                by_cases q8 : opVal .rem .u64 (IntKind.wrap .u64 a2) 9 < 4
                ·
                  by_cases q9 : opVal .rem .u64 (IntKind.wrap .u64 a2) 9 < 2
                  ·
                    by_cases q10 : opVal .rem .u64 (IntKind.wrap .u64 a2) 9 < 1
                    ·
                      have e2 : opVal .rem .u64 (IntKind.wrap .u64 a2) 9 = 0 := by omega
                      exact atr r7_9_0 (rw3 e0 e1 e2) iv0 w hgl
                    ·
                      have e2 : opVal .rem .u64 (IntKind.wrap .u64 a2) 9 = 1 := by omega
                      exact atr r7_9_1 (rw3 e0 e1 e2) iv0 w hgl
                  ·
                    by_cases q10 : opVal .rem .u64 (IntKind.wrap .u64 a2) 9 < 3
                    ·
                      have e2 : opVal .rem .u64 (IntKind.wrap .u64 a2) 9 = 2 := by omega
                      exact atr r7_9_2 (rw3 e0 e1 e2) iv0 w hgl
                    ·
                      have e2 : opVal .rem .u64 (IntKind.wrap .u64 a2) 9 = 3 := by omega
                      exact atr r7_9_3 (rw3 e0 e1 e2) iv0 w hgl
                ·
                  by_cases q9 : opVal .rem .u64 (IntKind.wrap .u64 a2) 9 < 6
                  ·
                    by_cases q10 : opVal .rem .u64 (IntKind.wrap .u64 a2) 9 < 5
                    ·
                      have e2 : opVal .rem .u64 (IntKind.wrap .u64 a2) 9 = 4 := by omega
                      exact atr r7_9_4 (rw3 e0 e1 e2) iv0 w hgl
                    ·
                      have e2 : opVal .rem .u64 (IntKind.wrap .u64 a2) 9 = 5 := by omega
                      exact atr r7_9_5 (rw3 e0 e1 e2) iv0 w hgl
                  ·
                    by_cases q10 : opVal .rem .u64 (IntKind.wrap .u64 a2) 9 < 7
                    ·
                      have e2 : opVal .rem .u64 (IntKind.wrap .u64 a2) 9 = 6 := by omega
                      exact atr r7_9_6 (rw3 e0 e1 e2) iv0 w hgl
                    ·
                      by_cases q11 : opVal .rem .u64 (IntKind.wrap .u64 a2) 9 < 8
                      ·
                        have e2 : opVal .rem .u64 (IntKind.wrap .u64 a2) 9 = 7 := by omega
                        exact atr r7_9_7 (rw3 e0 e1 e2) iv0 w hgl
                      ·
                        have e2 : opVal .rem .u64 (IntKind.wrap .u64 a2) 9 = 8 := by omega
                        exact atr r7_9_8 (rw3 e0 e1 e2) iv0 w hgl
            ·
              by_cases q7 : opVal .and .i64 a1 15 < 11
              ·
                have e1 : opVal .and .i64 a1 15 = 10 := by omega
                have g2 := rng2_9 a2
                by_cases q8 : opVal .rem .u64 (IntKind.wrap .u64 a2) 9 < 4
                ·
                  by_cases q9 : opVal .rem .u64 (IntKind.wrap .u64 a2) 9 < 2
                  ·
                    by_cases q10 : opVal .rem .u64 (IntKind.wrap .u64 a2) 9 < 1
                    ·
                      have e2 : opVal .rem .u64 (IntKind.wrap .u64 a2) 9 = 0 := by omega
                      exact atr r7_10_0 (rw3 e0 e1 e2) iv0 w hgl
                    ·
                      have e2 : opVal .rem .u64 (IntKind.wrap .u64 a2) 9 = 1 := by omega
                      exact atr r7_10_1 (rw3 e0 e1 e2) iv0 w hgl
                  ·
                    by_cases q10 : opVal .rem .u64 (IntKind.wrap .u64 a2) 9 < 3
                    ·
                      have e2 : opVal .rem .u64 (IntKind.wrap .u64 a2) 9 = 2 := by omega
                      exact atr r7_10_2 (rw3 e0 e1 e2) iv0 w hgl
                    ·
                      have e2 : opVal .rem .u64 (IntKind.wrap .u64 a2) 9 = 3 := by omega
                      exact atr r7_10_3 (rw3 e0 e1 e2) iv0 w hgl
                ·
                  by_cases q9 : opVal .rem .u64 (IntKind.wrap .u64 a2) 9 < 6
                  ·
                    by_cases q10 : opVal .rem .u64 (IntKind.wrap .u64 a2) 9 < 5
                    ·
                      have e2 : opVal .rem .u64 (IntKind.wrap .u64 a2) 9 = 4 := by omega
                      exact atr r7_10_4 (rw3 e0 e1 e2) iv0 w hgl
                    ·
                      have e2 : opVal .rem .u64 (IntKind.wrap .u64 a2) 9 = 5 := by omega
                      exact atr r7_10_5 (rw3 e0 e1 e2) iv0 w hgl
                  ·
                    by_cases q10 : opVal .rem .u64 (IntKind.wrap .u64 a2) 9 < 7
                    ·
                      have e2 : opVal .rem .u64 (IntKind.wrap .u64 a2) 9 = 6 := by omega
                      exact atr r7_10_6 (rw3 e0 e1 e2) iv0 w hgl
                    ·
                      by_cases q11 : opVal .rem .u64 (IntKind.wrap .u64 a2) 9 < 8
                      ·
                        have e2 : opVal .rem .u64 (IntKind.wrap .u64 a2) 9 = 7 := by omega
                        exact atr r7_10_7 (rw3 e0 e1 e2) iv0 w hgl
                      ·
                        have e2 : opVal .rem .u64 (IntKind.wrap .u64 a2) 9 = 8 := by omega
                        exact atr r7_10_8 (rw3 e0 e1 e2) iv0 w hgl
              ·
                have e1 : opVal .and .i64 a1 15 = 11 := by omega
                have g2 := rng2_9 a2
                by_cases q8 : opVal .rem .u64 (IntKind.wrap .u64 a2) 9 < 4
                ·
                  by_cases q9 : opVal .rem .u64 (IntKind.wrap .u64 a2) 9 < 2
                  ·
                    by_cases q10 : opVal .rem .u64 (IntKind.wrap .u64 a2) 9 < 1
                    ·
                      have e2 : opVal .rem .u64 (IntKind.wrap .u64 a2) 9 = 0 := by omega
                      exact atr r7_11_0 (rw3 e0 e1 e2) iv0 w hgl
                    ·
                      have e2 : opVal .rem .u64 (IntKind.wrap .u64 a2) 9 = 1 := by omega
                      exact atr r7_11_1 (rw3 e0 e1 e2) iv0 w hgl
                  ·
                    by_cases q10 : opVal .rem .u64 (IntKind.wrap .u64 a2) 9 < 3
                    ·
                      have e2 : opVal .rem .u64 (IntKind.wrap .u64 a2) 9 = 2 := by omega
                      exact atr r7_11_2 (rw3 e0 e1 e2) iv0 w hgl
                    ·
                      have e2 : opVal .rem .u64 (IntKind.wrap .u64 a2) 9 = 3 := by omega
                      exact atr r7_11_3 (rw3 e0 e1 e2) iv0 w hgl
                ·
                  by_cases q9 : opVal .rem .u64 (IntKind.wrap .u64 a2) 9 < 6
                  ·
                    by_cases q10 : opVal .rem .u64 (IntKind.wrap .u64 a2) 9 < 5
                    ·
                      have e2 : opVal .rem .u64 (IntKind.wrap .u64 a2) 9 = 4 := by omega
                      exact atr r7_11_4 (rw3 e0 e1 e2) iv0 w hgl
                    ·
                      have e2 : opVal .rem .u64 (IntKind.wrap .u64 a2) 9 = 5 := by omega
                      exact atr r7_11_5 (rw3 e0 e1 e2) iv0 w hgl
                  ·
                    by_cases q10 : opVal .rem .u64 (IntKind.wrap .u64 a2) 9 < 7
                    ·
                      have e2 : opVal .rem .u64 (IntKind.wrap .u64 a2) 9 = 6 := by omega
                      exact atr r7_11_6 (rw3 e0 e1 e2) iv0 w hgl
                    ·
                      by_cases q11 : opVal .rem .u64 (IntKind.wrap .u64 a2) 9 < 8
                      ·
                        have e2 : opVal .rem .u64 (IntKind.wrap .u64 a2) 9 = 7 := by omega
                        exact atr r7_11_7 (rw3 e0 e1 e2) iv0 w hgl
                      ·
                        have e2 : opVal .rem .u64 (IntKind.wrap .u64 a2) 9 = 8 := by omega
                        exact atr r7_11_8 (rw3 e0 e1 e2) iv0 w hgl
          ·
            by_cases q6 : opVal .and .i64 a1 15 < 14
            ·
              by_cases q7 : opVal .and .i64 a1 15 < 13
              ·
                have e1 : opVal .and .i64 a1 15 = 12 := by omega
                have g2 := rng2_9 a2
                by_cases q8 : opVal .rem .u64 (IntKind.wrap .u64 a2) 9 < 4
                ·
                  by_cases q9 : opVal .rem .u64 (IntKind.wrap .u64 a2) 9 < 2
                  ·
                    by_cases q10 : opVal .rem .u64 (IntKind.wrap .u64 a2) 9 < 1
                    ·
                      have e2 : opVal .rem .u64 (IntKind.wrap .u64 a2) 9 = 0 := by omega
                      exact atr r7_12_0 (rw3 e0 e1 e2) iv0 w hgl
                    ·
                      have e2 : opVal .rem .u64 (IntKind.wrap .u64 a2) 9 = 1 := by omega
                      exact atr r7_12_1 (rw3 e0 e1 e2) iv0 w hgl
                  ·
                    by_cases q10 : opVal .rem .u64 (IntKind.wrap .u64 a2) 9 < 3
                    ·
                      have e2 : opVal .rem .u64 (IntKind.wrap .u64 a2) 9 = 2 := by omega
                      exact atr r7_12_2 (rw3 e0 e1 e2) iv0 w hgl
                    ·
                      have e2 : opVal .rem .u64 (IntKind.wrap .u64 a2) 9 = 3 := by omega
                      exact atr r7_12_3 (rw3 e0 e1 e2) iv0 w hgl
                ·
                  by_cases q9 : opVal .rem .u64 (IntKind.wrap .u64 a2) 9 < 6
                  ·
                    by_cases q10 : opVal .rem .u64 (IntKind.wrap .u64 a2) 9 < 5
                    ·
                      have e2 : opVal .rem .u64 (IntKind.wrap .u64 a2) 9 = 4 := by omega
                      exact atr r7_12_4 (rw3 e0 e1 e2) iv0 w hgl
                    ·
                      have e2 : opVal .rem .u64 (IntKind.wrap .u64 a2) 9 = 5 := by omega
                      exact atr r7_12_5 (rw3 e0 e1 e2) iv0 w hgl
                  ·
                    by_cases q10 : opVal .rem .u64 (IntKind.wrap .u64 a2) 9 < 7
                    ·
                      have e2 : opVal .rem .u64 (IntKind.wrap .u64 a2) 9 = 6 := by omega
                      exact atr r7_12_6 (rw3 e0 e1 e2) iv0 w hgl
                    ·
                      by_cases q11 : opVal .rem .u64 (IntKind.wrap .u64 a2) 9 < 8
                      ·
                        have e2 : opVal .rem .u64 (IntKind.wrap .u64 a2) 9 = 7 := by omega
                        exact atr r7_12_7 (rw3 e0 e1 e2) iv0 w hgl
                      ·
                        have e2 : opVal .rem .u64 (IntKind.wrap .u64 a2) 9 = 8 := by omega
                        exact atr r7_12_8 (rw3 e0 e1 e2) iv0 w hgl
              ·
                have e1 : opVal .and .i64 a1 15 = 13 := by omega
                have g2 := rng2_9 a2
                by_cases q8 : opVal .rem .u64 (IntKind.wrap .u64 a2) 9 < 4
                ·
                  by_cases q9 : opVal .rem .u64 (IntKind.wrap .u64 a2) 9 < 2
                  ·
                    by_cases q10 : opVal .rem .u64 (IntKind.wrap .u64 a2) 9 < 1
                    ·
                      have e2 : opVal .rem .u64 (IntKind.wrap .u64 a2) 9 = 0 := by omega
                      exact atr r7_13_0 (rw3 e0 e1 e2) iv0 w hgl
                    ·
                      have e2 : opVal .rem .u64 (IntKind.wrap .u64 a2) 9 = 1 := by omega
                      exact atr r7_13_1 (rw3 e0 e1 e2) iv0 w hgl
                  ·
                    by_cases q10 : opVal .rem .u64 (IntKind.wrap .u64 a2) 9 < 3
                    ·
                      have e2 : opVal .rem .u64 (IntKind.wrap .u64 a2) 9 = 2 := by omega
                      exact atr r7_13_2 (rw3 e0 e1 e2) iv0 w hgl
                    ·
                      have e2 : opVal .rem .u64 (IntKind.wrap .u64 a2) 9 = 3 := by omega
                      exact atr r7_13_3 (rw3 e0 e1 e2) iv0 w hgl
                ·
                  by_cases q9 : opVal .rem .u64 (IntKind.wrap .u64 a2) 9 < 6
                  ·
                    by_cases q10 : opVal .rem .u64 (IntKind.wrap .u64 a2) 9 < 5
                    ·
                      have e2 : opVal .rem .u64 (IntKind.wrap .u64 a2) 9 = 4 := by omega
                      exact atr r7_13_4 (rw3 e0 e1 e2) iv0 w hgl
                    ·
                      have e2 : opVal .rem .u64 (IntKind.wrap .u64 a2) 9 = 5 := by omega
                      exact atr r7_13_5 (rw3 e0 e1 e2) iv0 w hgl
                  ·
                    by_cases q10 : opVal .rem .u64 (IntKind.wrap .u64 a2) 9 < 7
                    ·
                      have e2 : opVal .rem .u64 (IntKind.wrap .u64 a2) 9 = 6 := by omega
                      exact atr r7_13_6 (rw3 e0 e1 e2) iv0 w hgl
                    ·
                      by_cases q11 : opVal .rem .u64 (IntKind.wrap .u64 a2) 9 < 8
                      ·
                        have e2 : opVal .rem .u64 (IntKind.wrap .u64 a2) 9 = 7 := by omega
                        exact atr r7_13_7 (rw3 e0 e1 e2) iv0 w hgl
                      ·
                        have e2 : opVal .rem .u64 (IntKind.wrap .u64 a2) 9 = 8 := by omega
                        exact atr r7_13_8 (rw3 e0 e1 e2) iv0 w hgl
            ·
              by_cases q7 : opVal .and .i64 a1 15 < 15
              ·
                have e1 : opVal .and .i64 a1 15 = 14 := by omega
                have g2 := rng2_9 a2
                by_cases q8 : opVal .rem .u64 (IntKind.wrap .u64 a2) 9 < 4
                ·
                  by_cases q9 : opVal .rem .u64 (IntKind.wrap .u64 a2) 9 < 2
                  ·
                    by_cases q10 : opVal .rem .u64 (IntKind.wrap .u64 a2) 9 < 1
                    ·
                      have e2 : opVal .rem .u64 (IntKind.wrap .u64 a2) 9 = 0 := by omega
                      exact atr r7_14_0 (rw3 e0 e1 e2) iv0 w hgl
                    ·
                      have e2 : opVal .rem .u64 (IntKind.wrap .u64 a2) 9 = 1 := by omega
                      exact atr r7_14_1 (rw3 e0 e1 e2) iv0 w hgl
                  ·
                    by_cases q10 : opVal .rem .u64 (IntKind.wrap .u64 a2) 9 < 3
                    ·
                      have e2 : opVal .rem .u64 (IntKind.wrap .u64 a2) 9 = 2 := by omega
                      exact atr r7_14_2 (rw3 e0 e1 e2) iv0 w hgl
                    ·
                      have e2 : opVal .rem .u64 (IntKind.wrap .u64 a2) 9 = 3 := by omega
                      exact atr r7_14_3 (rw3 e0 e1 e2) iv0 w hgl
                ·
                  by_cases q9 : opVal .rem .u64 (IntKind.wrap .u64 a2) 9 < 6
                  ·
                    by_cases q10 : opVal .rem .u64 (IntKind.wrap .u64 a2) 9 < 5
                    ·
                      have e2 : opVal .rem .u64 (IntKind.wrap .u64 a2) 9 = 4 := by omega
                      exact atr r7_14_4 (rw3 e0 e1 e2) iv0 w hgl
                    ·
                      have e2 : opVal .rem .u64 (IntKind.wrap .u64 a2) 9 = 5 := by omega
                      exact atr r7_14_5 (rw3 e0 e1 e2) iv0 w hgl
                  ·
                    by_cases q10 : opVal .rem .u64 (IntKind.wrap .u64 a2) 9 < 7
                    ·
                      have e2 : opVal .rem .u64 (IntKind.wrap .u64 a2) 9 = 6 := by omega
                      exact atr r7_14_6 (rw3 e0 e1 e2) iv0 w hgl
                    ·
                      by_cases q11 : opVal .rem .u64 (IntKind.wrap .u64 a2) 9 < 8
                      ·
                        have e2 : opVal .rem .u64 (IntKind.wrap .u64 a2) 9 = 7 := by omega
                        exact atr r7_14_7 (rw3 e0 e1 e2) iv0 w hgl
                      ·
                        have e2 : opVal .rem .u64 (IntKind.wrap .u64 a2) 9 = 8 := by omega
                        exact atr r7_14_8 (rw3 e0 e1 e2) iv0 w hgl
              ·
                have e1 : opVal .and .i64 a1 15 = 15 := by omega
                have g2 := rng2_9 a2
                by_cases q8 : opVal .rem .u64 (IntKind.wrap .u64 a2) 9 < 4
                ·
                  by_cases q9 : opVal .rem .u64 (IntKind.wrap .u64 a2) 9 < 2
                  ·
                    by_cases q10 : opVal .rem .u64 (IntKind.wrap .u64 a2) 9 < 1
                    ·
                      have e2 : opVal .rem .u64 (IntKind.wrap .u64 a2) 9 = 0 := by omega
                      exact atr r7_15_0 (rw3 e0 e1 e2) iv0 w hgl
                    ·
                      have e2 : opVal .rem .u64 (IntKind.wrap .u64 a2) 9 = 1 := by omega
                      exact atr r7_15_1 (rw3 e0 e1 e2) iv0 w hgl
                  ·
                    by_cases q10 : opVal .rem .u64 (IntKind.wrap .u64 a2) 9 < 3
                    ·
                      have e2 : opVal .rem .u64 (IntKind.wrap .u64 a2) 9 = 2 := by omega
                      exact atr r7_15_2 (rw3 e0 e1 e2) iv0 w hgl
                    ·
                      have e2 : opVal .rem .u64 (IntKind.wrap .u64 a2) 9 = 3 := by omega
                      exact atr r7_15_3 (rw3 e0 e1 e2) iv0 w hgl
                ·
                  by_cases q9 : opVal .rem .u64 (IntKind.wrap .u64 a2) 9 < 6
                  ·
                    by_cases q10 : opVal .rem .u64 (IntKind.wrap .u64 a2) 9 < 5
                    ·
                      have e2 : opVal .rem .u64 (IntKind.wrap .u64 a2) 9 = 4 := by omega
                      exact atr r7_15_4 (rw3 e0 e1 e2) iv0 w hgl
                    ·
                      have e2 : opVal .rem .u64 (IntKind.wrap .u64 a2) 9 = 5 := by omega
                      exact atr r7_15_5 (rw3 e0 e1 e2) iv0 w hgl
                  ·
                    by_cases q10 : opVal .rem .u64 (IntKind.wrap .u64 a2) 9 < 7
                    ·
                      have e2 : opVal .rem .u64 (IntKind.wrap .u64 a2) 9 = 6 := by omega
                      exact atr r7_15_6 (rw3 e0 e1 e2) iv0 w hgl
                    ·
                      by_cases q11 : opVal .rem .u64 (IntKind.wrap .u64 a2) 9 < 8
                      ·
                        have e2 : opVal .rem .u64 (IntKind.wrap .u64 a2) 9 = 7 := by omega
                        exact atr r7_15_7 (rw3 e0 e1 e2) iv0 w hgl
                      ·
                        have e2 : opVal .rem .u64 (IntKind.wrap .u64 a2) 9 = 8 := by omega
                        exact atr r7_15_8 (rw3 e0 e1 e2) iv0 w hgl

/-! ### THE ROW's STEP: WRITTEN OUT: LEAVE IT -/
set_option maxRecDepth 100000 in
theorem lifted (os : Os) (started : os.Started) (H : Type) (enc : TypeId × Value → H) :
    ReturnsInHanded {} Try.checked os 5 .any (Rows.schedTurnsSpec.pre6 enc Try.prog Try.f5 Rows.schedTurnsRow.domain false) (Rows.schedTurnsSpec.post enc Try.prog Try.f5 false true false false) := by
  refine returnsInHanded_of_change (C := Try.checked) own started (by kernel_rfl) Try.func5
    (ChangeSpec.witness6 (enc := enc) (C := Try.checked) false ⟨#[], #[.int .i64 0, .int .i64 0, .int .i64 0], []⟩ 8 (by kernel_rfl) (by kernel_rfl) (by kernel_rfl) (by kernel_rfl)) ?_
  intro W base args ds gs before hval0 hW hcnd _
  have hval : ∀ (j : Nat) t v, Try.f5.params[j]? = some t → args[j]? = some v → Value.okWide Try.prog W .any base t v := hval0
  have hW' := hW
  obtain ⟨p, q, hA0, hV, rfl, hfz, hnd⟩ := hW
  have hA : DataW.TrodAll enc Try.prog W 0 (fun _ => true) true Try.f5.params.toList args.toList ds p := hA0
  rw [Try.params5] at hA hval
  obtain ⟨v0, vs0, d0, ds0, p0, q0, hargs, rfl, rfl, h0, r0⟩ := trodAll_cons hA
  obtain ⟨v1, vs1, d1, ds1, p1, q1, rfl, rfl, rfl, h1, r1⟩ := trodAll_cons r0
  obtain ⟨v2, vs2, d2, ds2, p2, q2, rfl, rfl, rfl, h2, r2⟩ := trodAll_cons r1
  obtain ⟨rfl, rfl, rfl⟩ := trodAll_nil r2
  obtain rfl : args = #[v0, v1, v2] := by cases args; simp_all
  obtain ⟨rfl, rfl⟩ := trodVars_none hV
  obtain ⟨a0, rfl, rfl, rfl, w0⟩ := open_int Try.underlying3 (hval 0 3 v0 rfl rfl) h0
  obtain ⟨a1, rfl, rfl, rfl, w1⟩ := open_int Try.underlying3 (hval 1 3 v1 rfl rfl) h1
  obtain ⟨a2, rfl, rfl, rfl, w2⟩ := open_int Try.underlying3 (hval 2 3 v2 rfl rfl) h2
  clear hA0 hval0
  simp only [List.append_nil] at hW'
  refine (walk a0 a1 a2 w0 w1 w2 W).mono fun e W' ⟨he, hg⟩ => ?_
  subst he
  exact ⟨_, rfl, post_of_below (pa := []) (pv := []) hW' (fun _ _ _ => (trodAll_cons_mk (shut_bool Try.underlying4 _) trodAll_mk0)) (fun sp _ => (trodAll_cons_mk (shut_int Try.underlying3 w0) (trodAll_cons_mk (shut_int Try.underlying3 w1) (trodAll_cons_mk (shut_int Try.underlying3 w2) trodAll_mk0)))) (fun _ _ => rfl) rfl
    hg (ok_one (by kernel_rfl) rfl (okWide_bool_mk Try.underlying4 _))⟩

theorem over : Rows.schedTurnsRow.holds Try.pinned (OpenSpec.ofChange Rows.schedTurnsSpec) :=
  OpenClaim.holds_of_wide 5 Try.f5 rfl rfl rfl rfl rfl rfl rfl ⟨rfl, rfl, rfl, rfl, rfl⟩ rfl rfl rfl rfl rfl (by kernel_rfl) Try.func5 (by kernel_rfl)
    (of_decide_eq_true (by kernel_rfl)) (by unfold Func.isWrapper; first | (rw [if_pos (by decide +kernel)]; kernel_rfl) | (rw [if_neg (by decide +kernel)]; exact ⟨rfl, rfl⟩))
    (fun os started H enc _ => lifted os started H enc)

/-- ████ THE STATEMENT ████ -/
theorem proved : Rows.SchedTurnsSaid :=
  over
#print axioms proved
end Go.Proofs.Ytmnfeljfemobkaa.schedTurns
