/- gneiss/gneisslaw21.ModelShort answers true at every input, and leaves its arguments as they were. No conditions. -/
import Derived.Test.YtpogefeioedgeaaGreatDoorRows
import Derived.WalkKit
import Derived.ProofKit
import Derived.OpenShut
import Derived.Below
import Derived.ChangeSame
import Derived.Test.YtpogefeioedgeaaGreatDoorModelShortR0
import Derived.Test.YtpogefeioedgeaaGreatDoorModelShortR1
import Derived.Test.YtpogefeioedgeaaGreatDoorModelShortR2
import Derived.Test.YtpogefeioedgeaaGreatDoorModelShortR3
import Derived.Test.YtpogefeioedgeaaGreatDoorModelShortR4
import Derived.Test.YtpogefeioedgeaaGreatDoorModelShortR5
import Derived.Test.YtpogefeioedgeaaGreatDoorModelShortR6
import Derived.Test.YtpogefeioedgeaaGreatDoorModelShortR7
import Derived.Test.YtpogefeioedgeaaGreatDoorModelShortR8
import Derived.Test.YtpogefeioedgeaaGreatDoorModelShortR9
import Derived.Test.YtpogefeioedgeaaGreatDoorModelShortR10
import Derived.Test.YtpogefeioedgeaaGreatDoorModelShortR11
import Derived.Test.YtpogefeioedgeaaGreatDoorLaid
import Derived.Test.YtpogefeioedgeaaGreatDoorTie
import Derived.Test.YtpogefeioedgeaaGreatDoorCards
import Derived.SevenTiedAt
namespace Go.Proofs.YtpogefeioedgeaaGreatDoor.modelShort
open Go.Ai Go.ChangeShapes Go.WideShapes Go.ChangeAt Go.RowKit
set_option linter.unusedVariables false

theorem own : ownKnob Tryz.prog.godebug = none := by kernel_rfl

section
variable {H : Type} {enc : TypeId × Value → H} {P : Program}
theorem post_of_below {f : Func} {s : ChangeSpec} {apart fresh handsOn again : Bool} {W W' : World} {args : Array Value} {v : Value} {ds gs : List (DataW H)} {before pa pv : List MemPlace}
    (hW : DataW.Whole enc P f.params.toList s.vars apart W args.toList ds gs before)
    (hres : ∀ (b : Nat) (sp : Nat → Bool) (hd : Bool), DataW.TrodAll enc P W' b sp hd f.resultTypes.toList (v.resultList f.resultTypes.size) (s.fn H (ds ++ gs)).results [])
    (hargs : ∀ sp : Nat → Bool, (∀ p ∈ before, sp p.block = true) → DataW.TrodAll enc P W' 0 sp true f.params.toList args.toList (s.fn H (ds ++ gs)).args pa)
    (hvars : ∀ sp : Nat → Bool, (∀ p ∈ before, sp p.block = true) → DataW.TrodVars enc P W' sp s.vars (s.fn H (ds ++ gs)).vars pv)
    (hps : before = pa ++ pv) (hb : Below W.heap.size W W')
    (hok : ∀ (j : Nat) (t : TypeId) (r : Value), f.resultTypes[j]? = some t → (v.resultList f.resultTypes.size)[j]? = some r → Value.okWide P W' .any 0 t r) :
    s.post enc P f apart fresh handsOn again W args v W' := by
  have hlt : ∀ p ∈ before, p.block < W.heap.size := fun p hp => hW.lt p hp
  have hold : ∀ p ∈ before, (fun b => decide (b < W.heap.size)) p.block = true := fun p hp => by simpa using hlt p hp
  refine ⟨ds, gs, before, [], pa, pv, hW, hres _ _ _, hargs _ hold, hvars _ hold, World.keptBut_mono (fun p hp => ⟨hp, ?_⟩) (hb.frame (· ∈ before)), fun _ => ?_⟩
  · rw [hps, List.mem_append] at hp
    exact Or.inr hp
  · obtain ⟨_, _, _, _, _, hz, hn⟩ := hW
    refine ⟨hok, _, _, ([] ++ pa) ++ pv, ⟨[] ++ pa, pv, trodAll_append (hargs _ (fun _ _ => rfl)) (hres _ _ _), hvars _ (fun _ _ => rfl), rfl, ?_, ?_⟩, ?_⟩
    · intro b off hp
      have hin : MemPlace.cell b off ∈ before := by rw [hps]; simpa using hp
      rw [hb.frozen (hlt _ hin)]
      exact hz b off hin
    · intro ha
      have := hn ha
      rw [hps] at this
      simpa using this
    · intro p hp _
      rw [hps]
      simpa using hp
end
/-! ### the walk: by the abstract machine -/
theorem rng0 (a : Int) : 0 ≤ opVal .rem .u64 (IntKind.wrap .u64 a) 3 ∧ opVal .rem .u64 (IntKind.wrap .u64 a) 3 ≤ 2 := by
  have hw : 0 ≤ IntKind.wrap .u64 a := by
    rw [IntKind.wrap_u64]
    omega
  have h1 : (IntKind.wrap .u64 a).tmod 3 < 3 := Int.tmod_lt_of_pos _ (by omega)
  have h2 : 0 ≤ (IntKind.wrap .u64 a).tmod 3 := Int.tmod_nonneg _ hw
  show 0 ≤ (IntKind.wrap .u64 a).tmod 3 ∧ (IntKind.wrap .u64 a).tmod 3 ≤ 2
  omega
theorem rng1 (a : Int) : 0 ≤ opVal .and .i64 a 63 ∧ opVal .and .i64 a 63 ≤ 63 := by
  have h : (BitVec.ofInt 64 a &&& BitVec.ofInt 64 63).toNat ≤ 63 := by
    rw [BitVec.toNat_and]
    exact Nat.and_le_right
  show 0 ≤ IntKind.wrap .i64 ((BitVec.ofInt 64 a &&& BitVec.ofInt 64 63).toNat : Int) ∧ IntKind.wrap .i64 ((BitVec.ofInt 64 a &&& BitVec.ofInt 64 63).toNat : Int) ≤ 63
  rw [IntKind.wrap_i64]
  omega
theorem at_ {a0 : Int} {a1 : Int}  {rw : List (SI × SI)} {iv : List (SI × Int × Int)} (hr : ∀ x y, (x, y) ∈ rw → x.ev (fun i => if i = 0 then a0 else if i = 1 then a1 else 0) = y.ev (fun i => if i = 0 then a0 else if i = 1 then a1 else 0)) (hi : ∀ x lo hi, (x, lo, hi) ∈ iv → lo ≤ x.ev (fun i => if i = 0 then a0 else if i = 1 then a1 else 0) ∧ x.ev (fun i => if i = 0 then a0 else if i = 1 then a1 else 0) ≤ hi) (r : yes (run rw iv) = true) (w : World) (hgl : GlOk gl w) : Calls Tryz.prog 8 #[.int .i64 a0, .int .i64 a1] w fun e w' => e = .returned (.bool true) ∧ Below w.heap.size w w' :=
  haveI : GlOk (⟨rw, [], iv, fun _ _ _ => none, gl⟩ : Cf).gl w := hgl
  soundC comp.mixed comp.TOk (over := (overC 12)) (cf := ⟨rw, [], iv, fun _ _ _ => none, gl⟩) (σ := fun i => if i = 0 then a0 else if i = 1 then a1 else 0) (xs := [.int .i64 a0, .int .i64 a1]) (fun _ h => overC_ok awakes h)
    ⟨hr, fun _ _ _ _ hm => (by cases hm), hi, fun _ _ _ _ hm => (by cases hm)⟩
    (.cons (.int .i64 (.var 0)) (.cons (.int .i64 (.var 1)) .nil)) r
theorem walk (a0 : Int) (a1 : Int) (w0 : (Lit.int .i64 a0).wf = true) (w1 : (Lit.int .i64 a1).wf = true) (w : World) :
    Calls Tryz.prog 8 #[.int .i64 a0, .int .i64 a1] w fun e w' => e = .returned (.bool true) ∧ Below w.heap.size w w' := by
  have hgl : GlOk gl w := GlOk.none (fun _ => rfl)
  have g0 := rng0 a0
  by_cases q1 : opVal .rem .u64 (IntKind.wrap .u64 a0) 3 < 1
  ·
    have e0 : opVal .rem .u64 (IntKind.wrap .u64 a0) 3 = 0 := by omega
    exact at_ (rw := [(.bin .rem .u64 (.conv .u64 (.var 0)) (.lit 3), .lit (.ofNat (nat_lit 0)))]) (iv := []) (fun x y hm => by
      simp only [List.mem_cons, List.not_mem_nil, or_false, Prod.mk.injEq] at hm
      rcases hm with ⟨rfl, rfl⟩
      · exact e0
    ) (fun _ _ _ hm => by cases hm) r0_x w hgl
  ·
    by_cases q2 : opVal .rem .u64 (IntKind.wrap .u64 a0) 3 < 2
    ·
      have e0 : opVal .rem .u64 (IntKind.wrap .u64 a0) 3 = 1 := by omega
      have g1 := rng1 a1
      by_cases q3 : opVal .and .i64 a1 63 < 32
      ·
        by_cases q4 : opVal .and .i64 a1 63 < 16
        ·
          by_cases q5 : opVal .and .i64 a1 63 < 8
          ·
            by_cases q6 : opVal .and .i64 a1 63 < 4
            ·
              by_cases q7 : opVal .and .i64 a1 63 < 2
              ·
                by_cases q8 : opVal .and .i64 a1 63 < 1
                ·
                  have e1 : opVal .and .i64 a1 63 = 0 := by omega
                  exact at_ (rw := [(.bin .rem .u64 (.conv .u64 (.var 0)) (.lit 3), .lit (.ofNat (nat_lit 1))), (.bin .and .i64 (.var 1) (.lit 63), .lit (.ofNat (nat_lit 0)))]) (iv := []) (fun x y hm => by
                    simp only [List.mem_cons, List.not_mem_nil, or_false, Prod.mk.injEq] at hm
                    rcases hm with ⟨rfl, rfl⟩ | ⟨rfl, rfl⟩
                    · exact e0
                    · exact e1
                  ) (fun _ _ _ hm => by cases hm) r1_0 w hgl
                ·
                  have e1 : opVal .and .i64 a1 63 = 1 := by omega
                  exact at_ (rw := [(.bin .rem .u64 (.conv .u64 (.var 0)) (.lit 3), .lit (.ofNat (nat_lit 1))), (.bin .and .i64 (.var 1) (.lit 63), .lit (.ofNat (nat_lit 1)))]) (iv := []) (fun x y hm => by
                    simp only [List.mem_cons, List.not_mem_nil, or_false, Prod.mk.injEq] at hm
                    rcases hm with ⟨rfl, rfl⟩ | ⟨rfl, rfl⟩
                    · exact e0
                    · exact e1
                  ) (fun _ _ _ hm => by cases hm) r1_1 w hgl
              ·
                by_cases q8 : opVal .and .i64 a1 63 < 3
                ·
                  have e1 : opVal .and .i64 a1 63 = 2 := by omega
                  exact at_ (rw := [(.bin .rem .u64 (.conv .u64 (.var 0)) (.lit 3), .lit (.ofNat (nat_lit 1))), (.bin .and .i64 (.var 1) (.lit 63), .lit (.ofNat (nat_lit 2)))]) (iv := []) (fun x y hm => by
                    simp only [List.mem_cons, List.not_mem_nil, or_false, Prod.mk.injEq] at hm
                    rcases hm with ⟨rfl, rfl⟩ | ⟨rfl, rfl⟩
                    · exact e0
                    · exact e1
                  ) (fun _ _ _ hm => by cases hm) r1_2 w hgl
                ·
                  have e1 : opVal .and .i64 a1 63 = 3 := by omega
                  exact at_ (rw := [(.bin .rem .u64 (.conv .u64 (.var 0)) (.lit 3), .lit (.ofNat (nat_lit 1))), (.bin .and .i64 (.var 1) (.lit 63), .lit (.ofNat (nat_lit 3)))]) (iv := []) (fun x y hm => by
                    simp only [List.mem_cons, List.not_mem_nil, or_false, Prod.mk.injEq] at hm
                    rcases hm with ⟨rfl, rfl⟩ | ⟨rfl, rfl⟩
                    · exact e0
                    · exact e1
                  ) (fun _ _ _ hm => by cases hm) r1_3 w hgl
            ·
              by_cases q7 : opVal .and .i64 a1 63 < 6
              ·
                by_cases q8 : opVal .and .i64 a1 63 < 5
                ·
                  have e1 : opVal .and .i64 a1 63 = 4 := by omega
                  exact at_ (rw := [(.bin .rem .u64 (.conv .u64 (.var 0)) (.lit 3), .lit (.ofNat (nat_lit 1))), (.bin .and .i64 (.var 1) (.lit 63), .lit (.ofNat (nat_lit 4)))]) (iv := []) (fun x y hm => by
                    simp only [List.mem_cons, List.not_mem_nil, or_false, Prod.mk.injEq] at hm
                    rcases hm with ⟨rfl, rfl⟩ | ⟨rfl, rfl⟩
                    · exact e0
                    · exact e1
                  ) (fun _ _ _ hm => by cases hm) r1_4 w hgl
                ·
                  have e1 : opVal .and .i64 a1 63 = 5 := by omega
                  exact at_ (rw := [(.bin .rem .u64 (.conv .u64 (.var 0)) (.lit 3), .lit (.ofNat (nat_lit 1))), (.bin .and .i64 (.var 1) (.lit 63), .lit (.ofNat (nat_lit 5)))]) (iv := []) (fun x y hm => by
                    simp only [List.mem_cons, List.not_mem_nil, or_false, Prod.mk.injEq] at hm
                    rcases hm with ⟨rfl, rfl⟩ | ⟨rfl, rfl⟩
                    · exact e0
                    · exact e1
                  ) (fun _ _ _ hm => by cases hm) r1_5 w hgl
              ·
                by_cases q8 : opVal .and .i64 a1 63 < 7
                ·
                  have e1 : opVal .and .i64 a1 63 = 6 := by omega
                  exact at_ (rw := [(.bin .rem .u64 (.conv .u64 (.var 0)) (.lit 3), .lit (.ofNat (nat_lit 1))), (.bin .and .i64 (.var 1) (.lit 63), .lit (.ofNat (nat_lit 6)))]) (iv := []) (fun x y hm => by
                    simp only [List.mem_cons, List.not_mem_nil, or_false, Prod.mk.injEq] at hm
                    rcases hm with ⟨rfl, rfl⟩ | ⟨rfl, rfl⟩
                    · exact e0
                    · exact e1
                  ) (fun _ _ _ hm => by cases hm) r1_6 w hgl
                ·
                  have e1 : opVal .and .i64 a1 63 = 7 := by omega
                  exact at_ (rw := [(.bin .rem .u64 (.conv .u64 (.var 0)) (.lit 3), .lit (.ofNat (nat_lit 1))), (.bin .and .i64 (.var 1) (.lit 63), .lit (.ofNat (nat_lit 7)))]) (iv := []) (fun x y hm => by
                    simp only [List.mem_cons, List.not_mem_nil, or_false, Prod.mk.injEq] at hm
                    rcases hm with ⟨rfl, rfl⟩ | ⟨rfl, rfl⟩
                    · exact e0
                    · exact e1
                  ) (fun _ _ _ hm => by cases hm) r1_7 w hgl
          ·
            by_cases q6 : opVal .and .i64 a1 63 < 12
            ·
              by_cases q7 : opVal .and .i64 a1 63 < 10
              ·
                by_cases q8 : opVal .and .i64 a1 63 < 9
                ·
                  have e1 : opVal .and .i64 a1 63 = 8 := by omega
                  exact at_ (rw := [(.bin .rem .u64 (.conv .u64 (.var 0)) (.lit 3), .lit (.ofNat (nat_lit 1))), (.bin .and .i64 (.var 1) (.lit 63), .lit (.ofNat (nat_lit 8)))]) (iv := []) (fun x y hm => by
                    simp only [List.mem_cons, List.not_mem_nil, or_false, Prod.mk.injEq] at hm
                    rcases hm with ⟨rfl, rfl⟩ | ⟨rfl, rfl⟩
                    · exact e0
                    · exact e1
                  ) (fun _ _ _ hm => by cases hm) r1_8 w hgl
                ·
                  have e1 : opVal .and .i64 a1 63 = 9 := by omega
                  exact at_ (rw := [(.bin .rem .u64 (.conv .u64 (.var 0)) (.lit 3), .lit (.ofNat (nat_lit 1))), (.bin .and .i64 (.var 1) (.lit 63), .lit (.ofNat (nat_lit 9)))]) (iv := []) (fun x y hm => by
                    simp only [List.mem_cons, List.not_mem_nil, or_false, Prod.mk.injEq] at hm
                    rcases hm with ⟨rfl, rfl⟩ | ⟨rfl, rfl⟩
                    · exact e0
                    · exact e1
                  ) (fun _ _ _ hm => by cases hm) r1_9 w hgl
              ·
                by_cases q8 : opVal .and .i64 a1 63 < 11
                ·
                  have e1 : opVal .and .i64 a1 63 = 10 := by omega
                  exact at_ (rw := [(.bin .rem .u64 (.conv .u64 (.var 0)) (.lit 3), .lit (.ofNat (nat_lit 1))), (.bin .and .i64 (.var 1) (.lit 63), .lit (.ofNat (nat_lit 10)))]) (iv := []) (fun x y hm => by
                    simp only [List.mem_cons, List.not_mem_nil, or_false, Prod.mk.injEq] at hm
                    rcases hm with ⟨rfl, rfl⟩ | ⟨rfl, rfl⟩
                    · exact e0
                    · exact e1
                  ) (fun _ _ _ hm => by cases hm) r1_10 w hgl
                ·
                  have e1 : opVal .and .i64 a1 63 = 11 := by omega
                  exact at_ (rw := [(.bin .rem .u64 (.conv .u64 (.var 0)) (.lit 3), .lit (.ofNat (nat_lit 1))), (.bin .and .i64 (.var 1) (.lit 63), .lit (.ofNat (nat_lit 11)))]) (iv := []) (fun x y hm => by
                    simp only [List.mem_cons, List.not_mem_nil, or_false, Prod.mk.injEq] at hm
                    rcases hm with ⟨rfl, rfl⟩ | ⟨rfl, rfl⟩
                    · exact e0
                    · exact e1
                  ) (fun _ _ _ hm => by cases hm) r1_11 w hgl
            ·
              by_cases q7 : opVal .and .i64 a1 63 < 14
              ·
                by_cases q8 : opVal .and .i64 a1 63 < 13
                ·
                  have e1 : opVal .and .i64 a1 63 = 12 := by omega
                  exact at_ (rw := [(.bin .rem .u64 (.conv .u64 (.var 0)) (.lit 3), .lit (.ofNat (nat_lit 1))), (.bin .and .i64 (.var 1) (.lit 63), .lit (.ofNat (nat_lit 12)))]) (iv := []) (fun x y hm => by
                    simp only [List.mem_cons, List.not_mem_nil, or_false, Prod.mk.injEq] at hm
                    rcases hm with ⟨rfl, rfl⟩ | ⟨rfl, rfl⟩
                    · exact e0
                    · exact e1
                  ) (fun _ _ _ hm => by cases hm) r1_12 w hgl
                ·
                  have e1 : opVal .and .i64 a1 63 = 13 := by omega
                  exact at_ (rw := [(.bin .rem .u64 (.conv .u64 (.var 0)) (.lit 3), .lit (.ofNat (nat_lit 1))), (.bin .and .i64 (.var 1) (.lit 63), .lit (.ofNat (nat_lit 13)))]) (iv := []) (fun x y hm => by
                    simp only [List.mem_cons, List.not_mem_nil, or_false, Prod.mk.injEq] at hm
                    rcases hm with ⟨rfl, rfl⟩ | ⟨rfl, rfl⟩
                    · exact e0
                    · exact e1
                  ) (fun _ _ _ hm => by cases hm) r1_13 w hgl
              ·
                by_cases q8 : opVal .and .i64 a1 63 < 15
                ·
                  have e1 : opVal .and .i64 a1 63 = 14 := by omega
                  exact at_ (rw := [(.bin .rem .u64 (.conv .u64 (.var 0)) (.lit 3), .lit (.ofNat (nat_lit 1))), (.bin .and .i64 (.var 1) (.lit 63), .lit (.ofNat (nat_lit 14)))]) (iv := []) (fun x y hm => by
                    simp only [List.mem_cons, List.not_mem_nil, or_false, Prod.mk.injEq] at hm
                    rcases hm with ⟨rfl, rfl⟩ | ⟨rfl, rfl⟩
                    · exact e0
                    · exact e1
                  ) (fun _ _ _ hm => by cases hm) r1_14 w hgl
                ·
                  have e1 : opVal .and .i64 a1 63 = 15 := by omega
                  exact at_ (rw := [(.bin .rem .u64 (.conv .u64 (.var 0)) (.lit 3), .lit (.ofNat (nat_lit 1))), (.bin .and .i64 (.var 1) (.lit 63), .lit (.ofNat (nat_lit 15)))]) (iv := []) (fun x y hm => by
                    simp only [List.mem_cons, List.not_mem_nil, or_false, Prod.mk.injEq] at hm
                    rcases hm with ⟨rfl, rfl⟩ | ⟨rfl, rfl⟩
                    · exact e0
                    · exact e1
                  ) (fun _ _ _ hm => by cases hm) r1_15 w hgl
        ·
          by_cases q5 : opVal .and .i64 a1 63 < 24
          ·
            by_cases q6 : opVal .and .i64 a1 63 < 20
            ·
              by_cases q7 : opVal .and .i64 a1 63 < 18
              ·
                by_cases q8 : opVal .and .i64 a1 63 < 17
                ·
                  have e1 : opVal .and .i64 a1 63 = 16 := by omega
                  exact at_ (rw := [(.bin .rem .u64 (.conv .u64 (.var 0)) (.lit 3), .lit (.ofNat (nat_lit 1))), (.bin .and .i64 (.var 1) (.lit 63), .lit (.ofNat (nat_lit 16)))]) (iv := []) (fun x y hm => by
                    simp only [List.mem_cons, List.not_mem_nil, or_false, Prod.mk.injEq] at hm
                    rcases hm with ⟨rfl, rfl⟩ | ⟨rfl, rfl⟩
                    · exact e0
                    · exact e1
                  ) (fun _ _ _ hm => by cases hm) r1_16 w hgl
                ·
                  have e1 : opVal .and .i64 a1 63 = 17 := by omega
                  exact at_ (rw := [(.bin .rem .u64 (.conv .u64 (.var 0)) (.lit 3), .lit (.ofNat (nat_lit 1))), (.bin .and .i64 (.var 1) (.lit 63), .lit (.ofNat (nat_lit 17)))]) (iv := []) (fun x y hm => by
                    simp only [List.mem_cons, List.not_mem_nil, or_false, Prod.mk.injEq] at hm
                    rcases hm with ⟨rfl, rfl⟩ | ⟨rfl, rfl⟩
                    · exact e0
                    · exact e1
                  ) (fun _ _ _ hm => by cases hm) r1_17 w hgl
              ·
                by_cases q8 : opVal .and .i64 a1 63 < 19
                ·
                  have e1 : opVal .and .i64 a1 63 = 18 := by omega
                  exact at_ (rw := [(.bin .rem .u64 (.conv .u64 (.var 0)) (.lit 3), .lit (.ofNat (nat_lit 1))), (.bin .and .i64 (.var 1) (.lit 63), .lit (.ofNat (nat_lit 18)))]) (iv := []) (fun x y hm => by
                    simp only [List.mem_cons, List.not_mem_nil, or_false, Prod.mk.injEq] at hm
                    rcases hm with ⟨rfl, rfl⟩ | ⟨rfl, rfl⟩
                    · exact e0
                    · exact e1
                  ) (fun _ _ _ hm => by cases hm) r1_18 w hgl
                ·
                  have e1 : opVal .and .i64 a1 63 = 19 := by omega
                  exact at_ (rw := [(.bin .rem .u64 (.conv .u64 (.var 0)) (.lit 3), .lit (.ofNat (nat_lit 1))), (.bin .and .i64 (.var 1) (.lit 63), .lit (.ofNat (nat_lit 19)))]) (iv := []) (fun x y hm => by
                    simp only [List.mem_cons, List.not_mem_nil, or_false, Prod.mk.injEq] at hm
                    rcases hm with ⟨rfl, rfl⟩ | ⟨rfl, rfl⟩
                    · exact e0
                    · exact e1
                  ) (fun _ _ _ hm => by cases hm) r1_19 w hgl
            ·
              by_cases q7 : opVal .and .i64 a1 63 < 22
              ·
                by_cases q8 : opVal .and .i64 a1 63 < 21
                ·
                  have e1 : opVal .and .i64 a1 63 = 20 := by omega
                  exact at_ (rw := [(.bin .rem .u64 (.conv .u64 (.var 0)) (.lit 3), .lit (.ofNat (nat_lit 1))), (.bin .and .i64 (.var 1) (.lit 63), .lit (.ofNat (nat_lit 20)))]) (iv := []) (fun x y hm => by
                    simp only [List.mem_cons, List.not_mem_nil, or_false, Prod.mk.injEq] at hm
                    rcases hm with ⟨rfl, rfl⟩ | ⟨rfl, rfl⟩
                    · exact e0
                    · exact e1
                  ) (fun _ _ _ hm => by cases hm) r1_20 w hgl
                ·
                  have e1 : opVal .and .i64 a1 63 = 21 := by omega
                  exact at_ (rw := [(.bin .rem .u64 (.conv .u64 (.var 0)) (.lit 3), .lit (.ofNat (nat_lit 1))), (.bin .and .i64 (.var 1) (.lit 63), .lit (.ofNat (nat_lit 21)))]) (iv := []) (fun x y hm => by
                    simp only [List.mem_cons, List.not_mem_nil, or_false, Prod.mk.injEq] at hm
                    rcases hm with ⟨rfl, rfl⟩ | ⟨rfl, rfl⟩
                    · exact e0
                    · exact e1
                  ) (fun _ _ _ hm => by cases hm) r1_21 w hgl
              ·
                by_cases q8 : opVal .and .i64 a1 63 < 23
                ·
                  have e1 : opVal .and .i64 a1 63 = 22 := by omega
                  exact at_ (rw := [(.bin .rem .u64 (.conv .u64 (.var 0)) (.lit 3), .lit (.ofNat (nat_lit 1))), (.bin .and .i64 (.var 1) (.lit 63), .lit (.ofNat (nat_lit 22)))]) (iv := []) (fun x y hm => by
                    simp only [List.mem_cons, List.not_mem_nil, or_false, Prod.mk.injEq] at hm
                    rcases hm with ⟨rfl, rfl⟩ | ⟨rfl, rfl⟩
                    · exact e0
                    · exact e1
                  ) (fun _ _ _ hm => by cases hm) r1_22 w hgl
                ·
                  have e1 : opVal .and .i64 a1 63 = 23 := by omega
                  exact at_ (rw := [(.bin .rem .u64 (.conv .u64 (.var 0)) (.lit 3), .lit (.ofNat (nat_lit 1))), (.bin .and .i64 (.var 1) (.lit 63), .lit (.ofNat (nat_lit 23)))]) (iv := []) (fun x y hm => by
                    simp only [List.mem_cons, List.not_mem_nil, or_false, Prod.mk.injEq] at hm
                    rcases hm with ⟨rfl, rfl⟩ | ⟨rfl, rfl⟩
                    · exact e0
                    · exact e1
                  ) (fun _ _ _ hm => by cases hm) r1_23 w hgl
          ·
            by_cases q6 : opVal .and .i64 a1 63 < 28
            ·
              by_cases q7 : opVal .and .i64 a1 63 < 26
              ·
                by_cases q8 : opVal .and .i64 a1 63 < 25
                ·
                  have e1 : opVal .and .i64 a1 63 = 24 := by omega
                  exact at_ (rw := [(.bin .rem .u64 (.conv .u64 (.var 0)) (.lit 3), .lit (.ofNat (nat_lit 1))), (.bin .and .i64 (.var 1) (.lit 63), .lit (.ofNat (nat_lit 24)))]) (iv := []) (fun x y hm => by
                    simp only [List.mem_cons, List.not_mem_nil, or_false, Prod.mk.injEq] at hm
                    rcases hm with ⟨rfl, rfl⟩ | ⟨rfl, rfl⟩
                    · exact e0
                    · exact e1
                  ) (fun _ _ _ hm => by cases hm) r1_24 w hgl
                ·
                  have e1 : opVal .and .i64 a1 63 = 25 := by omega
                  exact at_ (rw := [(.bin .rem .u64 (.conv .u64 (.var 0)) (.lit 3), .lit (.ofNat (nat_lit 1))), (.bin .and .i64 (.var 1) (.lit 63), .lit (.ofNat (nat_lit 25)))]) (iv := []) (fun x y hm => by
                    simp only [List.mem_cons, List.not_mem_nil, or_false, Prod.mk.injEq] at hm
                    rcases hm with ⟨rfl, rfl⟩ | ⟨rfl, rfl⟩
                    · exact e0
                    · exact e1
                  ) (fun _ _ _ hm => by cases hm) r1_25 w hgl
              ·
                by_cases q8 : opVal .and .i64 a1 63 < 27
                ·
                  have e1 : opVal .and .i64 a1 63 = 26 := by omega
                  exact at_ (rw := [(.bin .rem .u64 (.conv .u64 (.var 0)) (.lit 3), .lit (.ofNat (nat_lit 1))), (.bin .and .i64 (.var 1) (.lit 63), .lit (.ofNat (nat_lit 26)))]) (iv := []) (fun x y hm => by
                    simp only [List.mem_cons, List.not_mem_nil, or_false, Prod.mk.injEq] at hm
                    rcases hm with ⟨rfl, rfl⟩ | ⟨rfl, rfl⟩
                    · exact e0
                    · exact e1
                  ) (fun _ _ _ hm => by cases hm) r1_26 w hgl
                ·
                  have e1 : opVal .and .i64 a1 63 = 27 := by omega
                  exact at_ (rw := [(.bin .rem .u64 (.conv .u64 (.var 0)) (.lit 3), .lit (.ofNat (nat_lit 1))), (.bin .and .i64 (.var 1) (.lit 63), .lit (.ofNat (nat_lit 27)))]) (iv := []) (fun x y hm => by
                    simp only [List.mem_cons, List.not_mem_nil, or_false, Prod.mk.injEq] at hm
                    rcases hm with ⟨rfl, rfl⟩ | ⟨rfl, rfl⟩
                    · exact e0
                    · exact e1
                  ) (fun _ _ _ hm => by cases hm) r1_27 w hgl
            ·
              by_cases q7 : opVal .and .i64 a1 63 < 30
              ·
                by_cases q8 : opVal .and .i64 a1 63 < 29
                ·
                  have e1 : opVal .and .i64 a1 63 = 28 := by omega
                  exact at_ (rw := [(.bin .rem .u64 (.conv .u64 (.var 0)) (.lit 3), .lit (.ofNat (nat_lit 1))), (.bin .and .i64 (.var 1) (.lit 63), .lit (.ofNat (nat_lit 28)))]) (iv := []) (fun x y hm => by
                    simp only [List.mem_cons, List.not_mem_nil, or_false, Prod.mk.injEq] at hm
                    rcases hm with ⟨rfl, rfl⟩ | ⟨rfl, rfl⟩
                    · exact e0
                    · exact e1
                  ) (fun _ _ _ hm => by cases hm) r1_28 w hgl
                ·
                  have e1 : opVal .and .i64 a1 63 = 29 := by omega
                  exact at_ (rw := [(.bin .rem .u64 (.conv .u64 (.var 0)) (.lit 3), .lit (.ofNat (nat_lit 1))), (.bin .and .i64 (.var 1) (.lit 63), .lit (.ofNat (nat_lit 29)))]) (iv := []) (fun x y hm => by
                    simp only [List.mem_cons, List.not_mem_nil, or_false, Prod.mk.injEq] at hm
                    rcases hm with ⟨rfl, rfl⟩ | ⟨rfl, rfl⟩
                    · exact e0
                    · exact e1
                  ) (fun _ _ _ hm => by cases hm) r1_29 w hgl
              ·
                by_cases q8 : opVal .and .i64 a1 63 < 31
                ·
                  have e1 : opVal .and .i64 a1 63 = 30 := by omega
                  exact at_ (rw := [(.bin .rem .u64 (.conv .u64 (.var 0)) (.lit 3), .lit (.ofNat (nat_lit 1))), (.bin .and .i64 (.var 1) (.lit 63), .lit (.ofNat (nat_lit 30)))]) (iv := []) (fun x y hm => by
                    simp only [List.mem_cons, List.not_mem_nil, or_false, Prod.mk.injEq] at hm
                    rcases hm with ⟨rfl, rfl⟩ | ⟨rfl, rfl⟩
                    · exact e0
                    · exact e1
                  ) (fun _ _ _ hm => by cases hm) r1_30 w hgl
                ·
                  have e1 : opVal .and .i64 a1 63 = 31 := by omega
                  exact at_ (rw := [(.bin .rem .u64 (.conv .u64 (.var 0)) (.lit 3), .lit (.ofNat (nat_lit 1))), (.bin .and .i64 (.var 1) (.lit 63), .lit (.ofNat (nat_lit 31)))]) (iv := []) (fun x y hm => by
                    simp only [List.mem_cons, List.not_mem_nil, or_false, Prod.mk.injEq] at hm
                    rcases hm with ⟨rfl, rfl⟩ | ⟨rfl, rfl⟩
                    · exact e0
                    · exact e1
                  ) (fun _ _ _ hm => by cases hm) r1_31 w hgl
      ·
        by_cases q4 : opVal .and .i64 a1 63 < 48
        ·
          by_cases q5 : opVal .and .i64 a1 63 < 40
          ·
            by_cases q6 : opVal .and .i64 a1 63 < 36
            ·
              by_cases q7 : opVal .and .i64 a1 63 < 34
              ·
                by_cases q8 : opVal .and .i64 a1 63 < 33
                ·
                  have e1 : opVal .and .i64 a1 63 = 32 := by omega
                  exact at_ (rw := [(.bin .rem .u64 (.conv .u64 (.var 0)) (.lit 3), .lit (.ofNat (nat_lit 1))), (.bin .and .i64 (.var 1) (.lit 63), .lit (.ofNat (nat_lit 32)))]) (iv := []) (fun x y hm => by
                    simp only [List.mem_cons, List.not_mem_nil, or_false, Prod.mk.injEq] at hm
                    rcases hm with ⟨rfl, rfl⟩ | ⟨rfl, rfl⟩
                    · exact e0
                    · exact e1
                  ) (fun _ _ _ hm => by cases hm) r1_32 w hgl
                ·
                  have e1 : opVal .and .i64 a1 63 = 33 := by omega
                  exact at_ (rw := [(.bin .rem .u64 (.conv .u64 (.var 0)) (.lit 3), .lit (.ofNat (nat_lit 1))), (.bin .and .i64 (.var 1) (.lit 63), .lit (.ofNat (nat_lit 33)))]) (iv := []) (fun x y hm => by
                    simp only [List.mem_cons, List.not_mem_nil, or_false, Prod.mk.injEq] at hm
                    rcases hm with ⟨rfl, rfl⟩ | ⟨rfl, rfl⟩
                    · exact e0
                    · exact e1
                  ) (fun _ _ _ hm => by cases hm) r1_33 w hgl
              ·
                by_cases q8 : opVal .and .i64 a1 63 < 35
                ·
                  have e1 : opVal .and .i64 a1 63 = 34 := by omega
                  exact at_ (rw := [(.bin .rem .u64 (.conv .u64 (.var 0)) (.lit 3), .lit (.ofNat (nat_lit 1))), (.bin .and .i64 (.var 1) (.lit 63), .lit (.ofNat (nat_lit 34)))]) (iv := []) (fun x y hm => by
                    simp only [List.mem_cons, List.not_mem_nil, or_false, Prod.mk.injEq] at hm
                    rcases hm with ⟨rfl, rfl⟩ | ⟨rfl, rfl⟩
                    · exact e0
                    · exact e1
                  ) (fun _ _ _ hm => by cases hm) r1_34 w hgl
                ·
                  have e1 : opVal .and .i64 a1 63 = 35 := by omega
                  exact at_ (rw := [(.bin .rem .u64 (.conv .u64 (.var 0)) (.lit 3), .lit (.ofNat (nat_lit 1))), (.bin .and .i64 (.var 1) (.lit 63), .lit (.ofNat (nat_lit 35)))]) (iv := []) (fun x y hm => by
                    simp only [List.mem_cons, List.not_mem_nil, or_false, Prod.mk.injEq] at hm
                    rcases hm with ⟨rfl, rfl⟩ | ⟨rfl, rfl⟩
                    · exact e0
                    · exact e1
                  ) (fun _ _ _ hm => by cases hm) r1_35 w hgl
            ·
              by_cases q7 : opVal .and .i64 a1 63 < 38
              ·
                by_cases q8 : opVal .and .i64 a1 63 < 37
                ·
                  have e1 : opVal .and .i64 a1 63 = 36 := by omega
                  exact at_ (rw := [(.bin .rem .u64 (.conv .u64 (.var 0)) (.lit 3), .lit (.ofNat (nat_lit 1))), (.bin .and .i64 (.var 1) (.lit 63), .lit (.ofNat (nat_lit 36)))]) (iv := []) (fun x y hm => by
                    simp only [List.mem_cons, List.not_mem_nil, or_false, Prod.mk.injEq] at hm
                    rcases hm with ⟨rfl, rfl⟩ | ⟨rfl, rfl⟩
                    · exact e0
                    · exact e1
                  ) (fun _ _ _ hm => by cases hm) r1_36 w hgl
                ·
                  have e1 : opVal .and .i64 a1 63 = 37 := by omega
                  exact at_ (rw := [(.bin .rem .u64 (.conv .u64 (.var 0)) (.lit 3), .lit (.ofNat (nat_lit 1))), (.bin .and .i64 (.var 1) (.lit 63), .lit (.ofNat (nat_lit 37)))]) (iv := []) (fun x y hm => by
                    simp only [List.mem_cons, List.not_mem_nil, or_false, Prod.mk.injEq] at hm
                    rcases hm with ⟨rfl, rfl⟩ | ⟨rfl, rfl⟩
                    · exact e0
                    · exact e1
                  ) (fun _ _ _ hm => by cases hm) r1_37 w hgl
              ·
                by_cases q8 : opVal .and .i64 a1 63 < 39
                ·
                  have e1 : opVal .and .i64 a1 63 = 38 := by omega
                  exact at_ (rw := [(.bin .rem .u64 (.conv .u64 (.var 0)) (.lit 3), .lit (.ofNat (nat_lit 1))), (.bin .and .i64 (.var 1) (.lit 63), .lit (.ofNat (nat_lit 38)))]) (iv := []) (fun x y hm => by
                    simp only [List.mem_cons, List.not_mem_nil, or_false, Prod.mk.injEq] at hm
                    rcases hm with ⟨rfl, rfl⟩ | ⟨rfl, rfl⟩
                    · exact e0
                    · exact e1
                  ) (fun _ _ _ hm => by cases hm) r1_38 w hgl
                ·
                  have e1 : opVal .and .i64 a1 63 = 39 := by omega
                  exact at_ (rw := [(.bin .rem .u64 (.conv .u64 (.var 0)) (.lit 3), .lit (.ofNat (nat_lit 1))), (.bin .and .i64 (.var 1) (.lit 63), .lit (.ofNat (nat_lit 39)))]) (iv := []) (fun x y hm => by
                    simp only [List.mem_cons, List.not_mem_nil, or_false, Prod.mk.injEq] at hm
                    rcases hm with ⟨rfl, rfl⟩ | ⟨rfl, rfl⟩
                    · exact e0
                    · exact e1
                  ) (fun _ _ _ hm => by cases hm) r1_39 w hgl
          ·
            by_cases q6 : opVal .and .i64 a1 63 < 44
            ·
              by_cases q7 : opVal .and .i64 a1 63 < 42
              ·
                by_cases q8 : opVal .and .i64 a1 63 < 41
                ·
                  have e1 : opVal .and .i64 a1 63 = 40 := by omega
                  exact at_ (rw := [(.bin .rem .u64 (.conv .u64 (.var 0)) (.lit 3), .lit (.ofNat (nat_lit 1))), (.bin .and .i64 (.var 1) (.lit 63), .lit (.ofNat (nat_lit 40)))]) (iv := []) (fun x y hm => by
                    simp only [List.mem_cons, List.not_mem_nil, or_false, Prod.mk.injEq] at hm
                    rcases hm with ⟨rfl, rfl⟩ | ⟨rfl, rfl⟩
                    · exact e0
                    · exact e1
                  ) (fun _ _ _ hm => by cases hm) r1_40 w hgl
                ·
                  have e1 : opVal .and .i64 a1 63 = 41 := by omega
                  exact at_ (rw := [(.bin .rem .u64 (.conv .u64 (.var 0)) (.lit 3), .lit (.ofNat (nat_lit 1))), (.bin .and .i64 (.var 1) (.lit 63), .lit (.ofNat (nat_lit 41)))]) (iv := []) (fun x y hm => by
                    simp only [List.mem_cons, List.not_mem_nil, or_false, Prod.mk.injEq] at hm
                    rcases hm with ⟨rfl, rfl⟩ | ⟨rfl, rfl⟩
                    · exact e0
                    · exact e1
                  ) (fun _ _ _ hm => by cases hm) r1_41 w hgl
              ·
                by_cases q8 : opVal .and .i64 a1 63 < 43
                ·
                  have e1 : opVal .and .i64 a1 63 = 42 := by omega
                  exact at_ (rw := [(.bin .rem .u64 (.conv .u64 (.var 0)) (.lit 3), .lit (.ofNat (nat_lit 1))), (.bin .and .i64 (.var 1) (.lit 63), .lit (.ofNat (nat_lit 42)))]) (iv := []) (fun x y hm => by
                    simp only [List.mem_cons, List.not_mem_nil, or_false, Prod.mk.injEq] at hm
                    rcases hm with ⟨rfl, rfl⟩ | ⟨rfl, rfl⟩
                    · exact e0
                    · exact e1
                  ) (fun _ _ _ hm => by cases hm) r1_42 w hgl
                ·
                  have e1 : opVal .and .i64 a1 63 = 43 := by omega
                  exact at_ (rw := [(.bin .rem .u64 (.conv .u64 (.var 0)) (.lit 3), .lit (.ofNat (nat_lit 1))), (.bin .and .i64 (.var 1) (.lit 63), .lit (.ofNat (nat_lit 43)))]) (iv := []) (fun x y hm => by
                    simp only [List.mem_cons, List.not_mem_nil, or_false, Prod.mk.injEq] at hm
                    rcases hm with ⟨rfl, rfl⟩ | ⟨rfl, rfl⟩
                    · exact e0
                    · exact e1
                  ) (fun _ _ _ hm => by cases hm) r1_43 w hgl
            ·
              by_cases q7 : opVal .and .i64 a1 63 < 46
              ·
                by_cases q8 : opVal .and .i64 a1 63 < 45
                ·
                  have e1 : opVal .and .i64 a1 63 = 44 := by omega
                  exact at_ (rw := [(.bin .rem .u64 (.conv .u64 (.var 0)) (.lit 3), .lit (.ofNat (nat_lit 1))), (.bin .and .i64 (.var 1) (.lit 63), .lit (.ofNat (nat_lit 44)))]) (iv := []) (fun x y hm => by
                    simp only [List.mem_cons, List.not_mem_nil, or_false, Prod.mk.injEq] at hm
                    rcases hm with ⟨rfl, rfl⟩ | ⟨rfl, rfl⟩
                    · exact e0
                    · exact e1
                  ) (fun _ _ _ hm => by cases hm) r1_44 w hgl
                ·
                  have e1 : opVal .and .i64 a1 63 = 45 := by omega
                  exact at_ (rw := [(.bin .rem .u64 (.conv .u64 (.var 0)) (.lit 3), .lit (.ofNat (nat_lit 1))), (.bin .and .i64 (.var 1) (.lit 63), .lit (.ofNat (nat_lit 45)))]) (iv := []) (fun x y hm => by
                    simp only [List.mem_cons, List.not_mem_nil, or_false, Prod.mk.injEq] at hm
                    rcases hm with ⟨rfl, rfl⟩ | ⟨rfl, rfl⟩
                    · exact e0
                    · exact e1
                  ) (fun _ _ _ hm => by cases hm) r1_45 w hgl
              ·
                by_cases q8 : opVal .and .i64 a1 63 < 47
                ·
                  have e1 : opVal .and .i64 a1 63 = 46 := by omega
                  exact at_ (rw := [(.bin .rem .u64 (.conv .u64 (.var 0)) (.lit 3), .lit (.ofNat (nat_lit 1))), (.bin .and .i64 (.var 1) (.lit 63), .lit (.ofNat (nat_lit 46)))]) (iv := []) (fun x y hm => by
                    simp only [List.mem_cons, List.not_mem_nil, or_false, Prod.mk.injEq] at hm
                    rcases hm with ⟨rfl, rfl⟩ | ⟨rfl, rfl⟩
                    · exact e0
                    · exact e1
                  ) (fun _ _ _ hm => by cases hm) r1_46 w hgl
                ·
                  have e1 : opVal .and .i64 a1 63 = 47 := by omega
                  exact at_ (rw := [(.bin .rem .u64 (.conv .u64 (.var 0)) (.lit 3), .lit (.ofNat (nat_lit 1))), (.bin .and .i64 (.var 1) (.lit 63), .lit (.ofNat (nat_lit 47)))]) (iv := []) (fun x y hm => by
                    simp only [List.mem_cons, List.not_mem_nil, or_false, Prod.mk.injEq] at hm
                    rcases hm with ⟨rfl, rfl⟩ | ⟨rfl, rfl⟩
                    · exact e0
                    · exact e1
                  ) (fun _ _ _ hm => by cases hm) r1_47 w hgl
        ·
          by_cases q5 : opVal .and .i64 a1 63 < 56
          ·
            by_cases q6 : opVal .and .i64 a1 63 < 52
            ·
              by_cases q7 : opVal .and .i64 a1 63 < 50
              ·
                by_cases q8 : opVal .and .i64 a1 63 < 49
                ·
                  have e1 : opVal .and .i64 a1 63 = 48 := by omega
                  exact at_ (rw := [(.bin .rem .u64 (.conv .u64 (.var 0)) (.lit 3), .lit (.ofNat (nat_lit 1))), (.bin .and .i64 (.var 1) (.lit 63), .lit (.ofNat (nat_lit 48)))]) (iv := []) (fun x y hm => by
                    simp only [List.mem_cons, List.not_mem_nil, or_false, Prod.mk.injEq] at hm
                    rcases hm with ⟨rfl, rfl⟩ | ⟨rfl, rfl⟩
                    · exact e0
                    · exact e1
                  ) (fun _ _ _ hm => by cases hm) r1_48 w hgl
                ·
                  have e1 : opVal .and .i64 a1 63 = 49 := by omega
                  exact at_ (rw := [(.bin .rem .u64 (.conv .u64 (.var 0)) (.lit 3), .lit (.ofNat (nat_lit 1))), (.bin .and .i64 (.var 1) (.lit 63), .lit (.ofNat (nat_lit 49)))]) (iv := []) (fun x y hm => by
                    simp only [List.mem_cons, List.not_mem_nil, or_false, Prod.mk.injEq] at hm
                    rcases hm with ⟨rfl, rfl⟩ | ⟨rfl, rfl⟩
                    · exact e0
                    · exact e1
                  ) (fun _ _ _ hm => by cases hm) r1_49 w hgl
              ·
                by_cases q8 : opVal .and .i64 a1 63 < 51
                ·
                  have e1 : opVal .and .i64 a1 63 = 50 := by omega
                  exact at_ (rw := [(.bin .rem .u64 (.conv .u64 (.var 0)) (.lit 3), .lit (.ofNat (nat_lit 1))), (.bin .and .i64 (.var 1) (.lit 63), .lit (.ofNat (nat_lit 50)))]) (iv := []) (fun x y hm => by
                    simp only [List.mem_cons, List.not_mem_nil, or_false, Prod.mk.injEq] at hm
                    rcases hm with ⟨rfl, rfl⟩ | ⟨rfl, rfl⟩
                    · exact e0
                    · exact e1
                  ) (fun _ _ _ hm => by cases hm) r1_50 w hgl
                ·
                  have e1 : opVal .and .i64 a1 63 = 51 := by omega
                  exact at_ (rw := [(.bin .rem .u64 (.conv .u64 (.var 0)) (.lit 3), .lit (.ofNat (nat_lit 1))), (.bin .and .i64 (.var 1) (.lit 63), .lit (.ofNat (nat_lit 51)))]) (iv := []) (fun x y hm => by
                    simp only [List.mem_cons, List.not_mem_nil, or_false, Prod.mk.injEq] at hm
                    rcases hm with ⟨rfl, rfl⟩ | ⟨rfl, rfl⟩
                    · exact e0
                    · exact e1
                  ) (fun _ _ _ hm => by cases hm) r1_51 w hgl
            ·
              by_cases q7 : opVal .and .i64 a1 63 < 54
              ·
                by_cases q8 : opVal .and .i64 a1 63 < 53
                ·
                  have e1 : opVal .and .i64 a1 63 = 52 := by omega
                  exact at_ (rw := [(.bin .rem .u64 (.conv .u64 (.var 0)) (.lit 3), .lit (.ofNat (nat_lit 1))), (.bin .and .i64 (.var 1) (.lit 63), .lit (.ofNat (nat_lit 52)))]) (iv := []) (fun x y hm => by
                    simp only [List.mem_cons, List.not_mem_nil, or_false, Prod.mk.injEq] at hm
                    rcases hm with ⟨rfl, rfl⟩ | ⟨rfl, rfl⟩
                    · exact e0
                    · exact e1
                  ) (fun _ _ _ hm => by cases hm) r1_52 w hgl
                ·
                  have e1 : opVal .and .i64 a1 63 = 53 := by omega
                  exact at_ (rw := [(.bin .rem .u64 (.conv .u64 (.var 0)) (.lit 3), .lit (.ofNat (nat_lit 1))), (.bin .and .i64 (.var 1) (.lit 63), .lit (.ofNat (nat_lit 53)))]) (iv := []) (fun x y hm => by
                    simp only [List.mem_cons, List.not_mem_nil, or_false, Prod.mk.injEq] at hm
                    rcases hm with ⟨rfl, rfl⟩ | ⟨rfl, rfl⟩
                    · exact e0
                    · exact e1
                  ) (fun _ _ _ hm => by cases hm) r1_53 w hgl
              ·
                by_cases q8 : opVal .and .i64 a1 63 < 55
                ·
                  have e1 : opVal .and .i64 a1 63 = 54 := by omega
                  exact at_ (rw := [(.bin .rem .u64 (.conv .u64 (.var 0)) (.lit 3), .lit (.ofNat (nat_lit 1))), (.bin .and .i64 (.var 1) (.lit 63), .lit (.ofNat (nat_lit 54)))]) (iv := []) (fun x y hm => by
                    simp only [List.mem_cons, List.not_mem_nil, or_false, Prod.mk.injEq] at hm
                    rcases hm with ⟨rfl, rfl⟩ | ⟨rfl, rfl⟩
                    · exact e0
                    · exact e1
                  ) (fun _ _ _ hm => by cases hm) r1_54 w hgl
                ·
                  have e1 : opVal .and .i64 a1 63 = 55 := by omega
                  exact at_ (rw := [(.bin .rem .u64 (.conv .u64 (.var 0)) (.lit 3), .lit (.ofNat (nat_lit 1))), (.bin .and .i64 (.var 1) (.lit 63), .lit (.ofNat (nat_lit 55)))]) (iv := []) (fun x y hm => by
                    simp only [List.mem_cons, List.not_mem_nil, or_false, Prod.mk.injEq] at hm
                    rcases hm with ⟨rfl, rfl⟩ | ⟨rfl, rfl⟩
                    · exact e0
                    · exact e1
                  ) (fun _ _ _ hm => by cases hm) r1_55 w hgl
          ·
            by_cases q6 : opVal .and .i64 a1 63 < 60
            ·
              by_cases q7 : opVal .and .i64 a1 63 < 58
              ·
                by_cases q8 : opVal .and .i64 a1 63 < 57
                ·
                  have e1 : opVal .and .i64 a1 63 = 56 := by omega
                  exact at_ (rw := [(.bin .rem .u64 (.conv .u64 (.var 0)) (.lit 3), .lit (.ofNat (nat_lit 1))), (.bin .and .i64 (.var 1) (.lit 63), .lit (.ofNat (nat_lit 56)))]) (iv := []) (fun x y hm => by
                    simp only [List.mem_cons, List.not_mem_nil, or_false, Prod.mk.injEq] at hm
                    rcases hm with ⟨rfl, rfl⟩ | ⟨rfl, rfl⟩
                    · exact e0
                    · exact e1
                  ) (fun _ _ _ hm => by cases hm) r1_56 w hgl
                ·
                  have e1 : opVal .and .i64 a1 63 = 57 := by omega
                  exact at_ (rw := [(.bin .rem .u64 (.conv .u64 (.var 0)) (.lit 3), .lit (.ofNat (nat_lit 1))), (.bin .and .i64 (.var 1) (.lit 63), .lit (.ofNat (nat_lit 57)))]) (iv := []) (fun x y hm => by
                    simp only [List.mem_cons, List.not_mem_nil, or_false, Prod.mk.injEq] at hm
                    rcases hm with ⟨rfl, rfl⟩ | ⟨rfl, rfl⟩
                    · exact e0
                    · exact e1
                  ) (fun _ _ _ hm => by cases hm) r1_57 w hgl
              ·
                by_cases q8 : opVal .and .i64 a1 63 < 59
                ·
                  have e1 : opVal .and .i64 a1 63 = 58 := by omega
                  exact at_ (rw := [(.bin .rem .u64 (.conv .u64 (.var 0)) (.lit 3), .lit (.ofNat (nat_lit 1))), (.bin .and .i64 (.var 1) (.lit 63), .lit (.ofNat (nat_lit 58)))]) (iv := []) (fun x y hm => by
                    simp only [List.mem_cons, List.not_mem_nil, or_false, Prod.mk.injEq] at hm
                    rcases hm with ⟨rfl, rfl⟩ | ⟨rfl, rfl⟩
                    · exact e0
                    · exact e1
                  ) (fun _ _ _ hm => by cases hm) r1_58 w hgl
                ·
                  have e1 : opVal .and .i64 a1 63 = 59 := by omega
                  exact at_ (rw := [(.bin .rem .u64 (.conv .u64 (.var 0)) (.lit 3), .lit (.ofNat (nat_lit 1))), (.bin .and .i64 (.var 1) (.lit 63), .lit (.ofNat (nat_lit 59)))]) (iv := []) (fun x y hm => by
                    simp only [List.mem_cons, List.not_mem_nil, or_false, Prod.mk.injEq] at hm
                    rcases hm with ⟨rfl, rfl⟩ | ⟨rfl, rfl⟩
                    · exact e0
                    · exact e1
                  ) (fun _ _ _ hm => by cases hm) r1_59 w hgl
            ·
              by_cases q7 : opVal .and .i64 a1 63 < 62
              ·
                by_cases q8 : opVal .and .i64 a1 63 < 61
                ·
                  have e1 : opVal .and .i64 a1 63 = 60 := by omega
                  exact at_ (rw := [(.bin .rem .u64 (.conv .u64 (.var 0)) (.lit 3), .lit (.ofNat (nat_lit 1))), (.bin .and .i64 (.var 1) (.lit 63), .lit (.ofNat (nat_lit 60)))]) (iv := []) (fun x y hm => by
                    simp only [List.mem_cons, List.not_mem_nil, or_false, Prod.mk.injEq] at hm
                    rcases hm with ⟨rfl, rfl⟩ | ⟨rfl, rfl⟩
                    · exact e0
                    · exact e1
                  ) (fun _ _ _ hm => by cases hm) r1_60 w hgl
                ·
                  have e1 : opVal .and .i64 a1 63 = 61 := by omega
                  exact at_ (rw := [(.bin .rem .u64 (.conv .u64 (.var 0)) (.lit 3), .lit (.ofNat (nat_lit 1))), (.bin .and .i64 (.var 1) (.lit 63), .lit (.ofNat (nat_lit 61)))]) (iv := []) (fun x y hm => by
                    simp only [List.mem_cons, List.not_mem_nil, or_false, Prod.mk.injEq] at hm
                    rcases hm with ⟨rfl, rfl⟩ | ⟨rfl, rfl⟩
                    · exact e0
                    · exact e1
                  ) (fun _ _ _ hm => by cases hm) r1_61 w hgl
              ·
                by_cases q8 : opVal .and .i64 a1 63 < 63
                ·
                  have e1 : opVal .and .i64 a1 63 = 62 := by omega
                  exact at_ (rw := [(.bin .rem .u64 (.conv .u64 (.var 0)) (.lit 3), .lit (.ofNat (nat_lit 1))), (.bin .and .i64 (.var 1) (.lit 63), .lit (.ofNat (nat_lit 62)))]) (iv := []) (fun x y hm => by
                    simp only [List.mem_cons, List.not_mem_nil, or_false, Prod.mk.injEq] at hm
                    rcases hm with ⟨rfl, rfl⟩ | ⟨rfl, rfl⟩
                    · exact e0
                    · exact e1
                  ) (fun _ _ _ hm => by cases hm) r1_62 w hgl
                ·
                  have e1 : opVal .and .i64 a1 63 = 63 := by omega
                  exact at_ (rw := [(.bin .rem .u64 (.conv .u64 (.var 0)) (.lit 3), .lit (.ofNat (nat_lit 1))), (.bin .and .i64 (.var 1) (.lit 63), .lit (.ofNat (nat_lit 63)))]) (iv := []) (fun x y hm => by
                    simp only [List.mem_cons, List.not_mem_nil, or_false, Prod.mk.injEq] at hm
                    rcases hm with ⟨rfl, rfl⟩ | ⟨rfl, rfl⟩
                    · exact e0
                    · exact e1
                  ) (fun _ _ _ hm => by cases hm) r1_63 w hgl
    ·
      have e0 : opVal .rem .u64 (IntKind.wrap .u64 a0) 3 = 2 := by omega
      have g1 := rng1 a1
      by_cases q3 : opVal .and .i64 a1 63 < 32
      ·
        by_cases q4 : opVal .and .i64 a1 63 < 16
        ·
          by_cases q5 : opVal .and .i64 a1 63 < 8
          ·
            by_cases q6 : opVal .and .i64 a1 63 < 4
            ·
              by_cases q7 : opVal .and .i64 a1 63 < 2
              ·
                by_cases q8 : opVal .and .i64 a1 63 < 1
                ·
                  have e1 : opVal .and .i64 a1 63 = 0 := by omega
                  exact at_ (rw := [(.bin .rem .u64 (.conv .u64 (.var 0)) (.lit 3), .lit (.ofNat (nat_lit 2))), (.bin .and .i64 (.var 1) (.lit 63), .lit (.ofNat (nat_lit 0)))]) (iv := []) (fun x y hm => by
                    simp only [List.mem_cons, List.not_mem_nil, or_false, Prod.mk.injEq] at hm
                    rcases hm with ⟨rfl, rfl⟩ | ⟨rfl, rfl⟩
                    · exact e0
                    · exact e1
                  ) (fun _ _ _ hm => by cases hm) r2_0 w hgl
                ·
                  have e1 : opVal .and .i64 a1 63 = 1 := by omega
                  exact at_ (rw := [(.bin .rem .u64 (.conv .u64 (.var 0)) (.lit 3), .lit (.ofNat (nat_lit 2))), (.bin .and .i64 (.var 1) (.lit 63), .lit (.ofNat (nat_lit 1)))]) (iv := []) (fun x y hm => by
                    simp only [List.mem_cons, List.not_mem_nil, or_false, Prod.mk.injEq] at hm
                    rcases hm with ⟨rfl, rfl⟩ | ⟨rfl, rfl⟩
                    · exact e0
                    · exact e1
                  ) (fun _ _ _ hm => by cases hm) r2_1 w hgl
              ·
                by_cases q8 : opVal .and .i64 a1 63 < 3
                ·
                  have e1 : opVal .and .i64 a1 63 = 2 := by omega
                  exact at_ (rw := [(.bin .rem .u64 (.conv .u64 (.var 0)) (.lit 3), .lit (.ofNat (nat_lit 2))), (.bin .and .i64 (.var 1) (.lit 63), .lit (.ofNat (nat_lit 2)))]) (iv := []) (fun x y hm => by
                    simp only [List.mem_cons, List.not_mem_nil, or_false, Prod.mk.injEq] at hm
                    rcases hm with ⟨rfl, rfl⟩ | ⟨rfl, rfl⟩
                    · exact e0
                    · exact e1
                  ) (fun _ _ _ hm => by cases hm) r2_2 w hgl
                ·
                  have e1 : opVal .and .i64 a1 63 = 3 := by omega
                  exact at_ (rw := [(.bin .rem .u64 (.conv .u64 (.var 0)) (.lit 3), .lit (.ofNat (nat_lit 2))), (.bin .and .i64 (.var 1) (.lit 63), .lit (.ofNat (nat_lit 3)))]) (iv := []) (fun x y hm => by
                    simp only [List.mem_cons, List.not_mem_nil, or_false, Prod.mk.injEq] at hm
                    rcases hm with ⟨rfl, rfl⟩ | ⟨rfl, rfl⟩
                    · exact e0
                    · exact e1
                  ) (fun _ _ _ hm => by cases hm) r2_3 w hgl
            ·
              by_cases q7 : opVal .and .i64 a1 63 < 6
              ·
                by_cases q8 : opVal .and .i64 a1 63 < 5
                ·
                  have e1 : opVal .and .i64 a1 63 = 4 := by omega
                  exact at_ (rw := [(.bin .rem .u64 (.conv .u64 (.var 0)) (.lit 3), .lit (.ofNat (nat_lit 2))), (.bin .and .i64 (.var 1) (.lit 63), .lit (.ofNat (nat_lit 4)))]) (iv := []) (fun x y hm => by
                    simp only [List.mem_cons, List.not_mem_nil, or_false, Prod.mk.injEq] at hm
                    rcases hm with ⟨rfl, rfl⟩ | ⟨rfl, rfl⟩
                    · exact e0
                    · exact e1
                  ) (fun _ _ _ hm => by cases hm) r2_4 w hgl
                ·
                  have e1 : opVal .and .i64 a1 63 = 5 := by omega
                  exact at_ (rw := [(.bin .rem .u64 (.conv .u64 (.var 0)) (.lit 3), .lit (.ofNat (nat_lit 2))), (.bin .and .i64 (.var 1) (.lit 63), .lit (.ofNat (nat_lit 5)))]) (iv := []) (fun x y hm => by
                    simp only [List.mem_cons, List.not_mem_nil, or_false, Prod.mk.injEq] at hm
                    rcases hm with ⟨rfl, rfl⟩ | ⟨rfl, rfl⟩
                    · exact e0
                    · exact e1
                  ) (fun _ _ _ hm => by cases hm) r2_5 w hgl
              ·
                by_cases q8 : opVal .and .i64 a1 63 < 7
                ·
                  have e1 : opVal .and .i64 a1 63 = 6 := by omega
                  exact at_ (rw := [(.bin .rem .u64 (.conv .u64 (.var 0)) (.lit 3), .lit (.ofNat (nat_lit 2))), (.bin .and .i64 (.var 1) (.lit 63), .lit (.ofNat (nat_lit 6)))]) (iv := []) (fun x y hm => by
                    simp only [List.mem_cons, List.not_mem_nil, or_false, Prod.mk.injEq] at hm
                    rcases hm with ⟨rfl, rfl⟩ | ⟨rfl, rfl⟩
                    · exact e0
                    · exact e1
                  ) (fun _ _ _ hm => by cases hm) r2_6 w hgl
                ·
                  have e1 : opVal .and .i64 a1 63 = 7 := by omega
                  exact at_ (rw := [(.bin .rem .u64 (.conv .u64 (.var 0)) (.lit 3), .lit (.ofNat (nat_lit 2))), (.bin .and .i64 (.var 1) (.lit 63), .lit (.ofNat (nat_lit 7)))]) (iv := []) (fun x y hm => by
                    simp only [List.mem_cons, List.not_mem_nil, or_false, Prod.mk.injEq] at hm
                    rcases hm with ⟨rfl, rfl⟩ | ⟨rfl, rfl⟩
                    · exact e0
                    · exact e1
                  ) (fun _ _ _ hm => by cases hm) r2_7 w hgl
          ·
            by_cases q6 : opVal .and .i64 a1 63 < 12
            ·
              by_cases q7 : opVal .and .i64 a1 63 < 10
              ·
                by_cases q8 : opVal .and .i64 a1 63 < 9
                ·
                  have e1 : opVal .and .i64 a1 63 = 8 := by omega
                  exact at_ (rw := [(.bin .rem .u64 (.conv .u64 (.var 0)) (.lit 3), .lit (.ofNat (nat_lit 2))), (.bin .and .i64 (.var 1) (.lit 63), .lit (.ofNat (nat_lit 8)))]) (iv := []) (fun x y hm => by
                    simp only [List.mem_cons, List.not_mem_nil, or_false, Prod.mk.injEq] at hm
                    rcases hm with ⟨rfl, rfl⟩ | ⟨rfl, rfl⟩
                    · exact e0
                    · exact e1
                  ) (fun _ _ _ hm => by cases hm) r2_8 w hgl
                ·
                  have e1 : opVal .and .i64 a1 63 = 9 := by omega
                  exact at_ (rw := [(.bin .rem .u64 (.conv .u64 (.var 0)) (.lit 3), .lit (.ofNat (nat_lit 2))), (.bin .and .i64 (.var 1) (.lit 63), .lit (.ofNat (nat_lit 9)))]) (iv := []) (fun x y hm => by
                    simp only [List.mem_cons, List.not_mem_nil, or_false, Prod.mk.injEq] at hm
                    rcases hm with ⟨rfl, rfl⟩ | ⟨rfl, rfl⟩
                    · exact e0
                    · exact e1
                  ) (fun _ _ _ hm => by cases hm) r2_9 w hgl
              ·
                by_cases q8 : opVal .and .i64 a1 63 < 11
                ·
                  have e1 : opVal .and .i64 a1 63 = 10 := by omega
                  exact at_ (rw := [(.bin .rem .u64 (.conv .u64 (.var 0)) (.lit 3), .lit (.ofNat (nat_lit 2))), (.bin .and .i64 (.var 1) (.lit 63), .lit (.ofNat (nat_lit 10)))]) (iv := []) (fun x y hm => by
                    simp only [List.mem_cons, List.not_mem_nil, or_false, Prod.mk.injEq] at hm
                    rcases hm with ⟨rfl, rfl⟩ | ⟨rfl, rfl⟩
                    · exact e0
                    · exact e1
                  ) (fun _ _ _ hm => by cases hm) r2_10 w hgl
                ·
                  have e1 : opVal .and .i64 a1 63 = 11 := by omega
                  exact at_ (rw := [(.bin .rem .u64 (.conv .u64 (.var 0)) (.lit 3), .lit (.ofNat (nat_lit 2))), (.bin .and .i64 (.var 1) (.lit 63), .lit (.ofNat (nat_lit 11)))]) (iv := []) (fun x y hm => by
                    simp only [List.mem_cons, List.not_mem_nil, or_false, Prod.mk.injEq] at hm
                    rcases hm with ⟨rfl, rfl⟩ | ⟨rfl, rfl⟩
                    · exact e0
                    · exact e1
                  ) (fun _ _ _ hm => by cases hm) r2_11 w hgl
            ·
              by_cases q7 : opVal .and .i64 a1 63 < 14
              ·
                by_cases q8 : opVal .and .i64 a1 63 < 13
                ·
                  have e1 : opVal .and .i64 a1 63 = 12 := by omega
                  exact at_ (rw := [(.bin .rem .u64 (.conv .u64 (.var 0)) (.lit 3), .lit (.ofNat (nat_lit 2))), (.bin .and .i64 (.var 1) (.lit 63), .lit (.ofNat (nat_lit 12)))]) (iv := []) (fun x y hm => by
                    simp only [List.mem_cons, List.not_mem_nil, or_false, Prod.mk.injEq] at hm
                    rcases hm with ⟨rfl, rfl⟩ | ⟨rfl, rfl⟩
                    · exact e0
                    · exact e1
                  ) (fun _ _ _ hm => by cases hm) r2_12 w hgl
                ·
                  have e1 : opVal .and .i64 a1 63 = 13 := by omega
                  exact at_ (rw := [(.bin .rem .u64 (.conv .u64 (.var 0)) (.lit 3), .lit (.ofNat (nat_lit 2))), (.bin .and .i64 (.var 1) (.lit 63), .lit (.ofNat (nat_lit 13)))]) (iv := []) (fun x y hm => by
                    simp only [List.mem_cons, List.not_mem_nil, or_false, Prod.mk.injEq] at hm
                    rcases hm with ⟨rfl, rfl⟩ | ⟨rfl, rfl⟩
                    · exact e0
                    · exact e1
                  ) (fun _ _ _ hm => by cases hm) r2_13 w hgl
              ·
                by_cases q8 : opVal .and .i64 a1 63 < 15
                ·
                  have e1 : opVal .and .i64 a1 63 = 14 := by omega
                  exact at_ (rw := [(.bin .rem .u64 (.conv .u64 (.var 0)) (.lit 3), .lit (.ofNat (nat_lit 2))), (.bin .and .i64 (.var 1) (.lit 63), .lit (.ofNat (nat_lit 14)))]) (iv := []) (fun x y hm => by
                    simp only [List.mem_cons, List.not_mem_nil, or_false, Prod.mk.injEq] at hm
                    rcases hm with ⟨rfl, rfl⟩ | ⟨rfl, rfl⟩
                    · exact e0
                    · exact e1
                  ) (fun _ _ _ hm => by cases hm) r2_14 w hgl
                ·
                  have e1 : opVal .and .i64 a1 63 = 15 := by omega
                  exact at_ (rw := [(.bin .rem .u64 (.conv .u64 (.var 0)) (.lit 3), .lit (.ofNat (nat_lit 2))), (.bin .and .i64 (.var 1) (.lit 63), .lit (.ofNat (nat_lit 15)))]) (iv := []) (fun x y hm => by
                    simp only [List.mem_cons, List.not_mem_nil, or_false, Prod.mk.injEq] at hm
                    rcases hm with ⟨rfl, rfl⟩ | ⟨rfl, rfl⟩
                    · exact e0
                    · exact e1
                  ) (fun _ _ _ hm => by cases hm) r2_15 w hgl
        ·
          by_cases q5 : opVal .and .i64 a1 63 < 24
          ·
            by_cases q6 : opVal .and .i64 a1 63 < 20
            ·
              by_cases q7 : opVal .and .i64 a1 63 < 18
              ·
                by_cases q8 : opVal .and .i64 a1 63 < 17
                ·
                  have e1 : opVal .and .i64 a1 63 = 16 := by omega
                  exact at_ (rw := [(.bin .rem .u64 (.conv .u64 (.var 0)) (.lit 3), .lit (.ofNat (nat_lit 2))), (.bin .and .i64 (.var 1) (.lit 63), .lit (.ofNat (nat_lit 16)))]) (iv := []) (fun x y hm => by
                    simp only [List.mem_cons, List.not_mem_nil, or_false, Prod.mk.injEq] at hm
                    rcases hm with ⟨rfl, rfl⟩ | ⟨rfl, rfl⟩
                    · exact e0
                    · exact e1
                  ) (fun _ _ _ hm => by cases hm) r2_16 w hgl
                ·
                  have e1 : opVal .and .i64 a1 63 = 17 := by omega
                  exact at_ (rw := [(.bin .rem .u64 (.conv .u64 (.var 0)) (.lit 3), .lit (.ofNat (nat_lit 2))), (.bin .and .i64 (.var 1) (.lit 63), .lit (.ofNat (nat_lit 17)))]) (iv := []) (fun x y hm => by
                    simp only [List.mem_cons, List.not_mem_nil, or_false, Prod.mk.injEq] at hm
                    rcases hm with ⟨rfl, rfl⟩ | ⟨rfl, rfl⟩
                    · exact e0
                    · exact e1
                  ) (fun _ _ _ hm => by cases hm) r2_17 w hgl
              ·
                by_cases q8 : opVal .and .i64 a1 63 < 19
                ·
                  have e1 : opVal .and .i64 a1 63 = 18 := by omega
                  exact at_ (rw := [(.bin .rem .u64 (.conv .u64 (.var 0)) (.lit 3), .lit (.ofNat (nat_lit 2))), (.bin .and .i64 (.var 1) (.lit 63), .lit (.ofNat (nat_lit 18)))]) (iv := []) (fun x y hm => by
                    simp only [List.mem_cons, List.not_mem_nil, or_false, Prod.mk.injEq] at hm
                    rcases hm with ⟨rfl, rfl⟩ | ⟨rfl, rfl⟩
                    · exact e0
                    · exact e1
                  ) (fun _ _ _ hm => by cases hm) r2_18 w hgl
                ·
                  have e1 : opVal .and .i64 a1 63 = 19 := by omega
                  exact at_ (rw := [(.bin .rem .u64 (.conv .u64 (.var 0)) (.lit 3), .lit (.ofNat (nat_lit 2))), (.bin .and .i64 (.var 1) (.lit 63), .lit (.ofNat (nat_lit 19)))]) (iv := []) (fun x y hm => by
                    simp only [List.mem_cons, List.not_mem_nil, or_false, Prod.mk.injEq] at hm
                    rcases hm with ⟨rfl, rfl⟩ | ⟨rfl, rfl⟩
                    · exact e0
                    · exact e1
                  ) (fun _ _ _ hm => by cases hm) r2_19 w hgl
            ·
              by_cases q7 : opVal .and .i64 a1 63 < 22
              ·
                by_cases q8 : opVal .and .i64 a1 63 < 21
                ·
                  have e1 : opVal .and .i64 a1 63 = 20 := by omega
                  exact at_ (rw := [(.bin .rem .u64 (.conv .u64 (.var 0)) (.lit 3), .lit (.ofNat (nat_lit 2))), (.bin .and .i64 (.var 1) (.lit 63), .lit (.ofNat (nat_lit 20)))]) (iv := []) (fun x y hm => by
                    simp only [List.mem_cons, List.not_mem_nil, or_false, Prod.mk.injEq] at hm
                    rcases hm with ⟨rfl, rfl⟩ | ⟨rfl, rfl⟩
                    · exact e0
                    · exact e1
                  ) (fun _ _ _ hm => by cases hm) r2_20 w hgl
                ·
                  have e1 : opVal .and .i64 a1 63 = 21 := by omega
                  exact at_ (rw := [(.bin .rem .u64 (.conv .u64 (.var 0)) (.lit 3), .lit (.ofNat (nat_lit 2))), (.bin .and .i64 (.var 1) (.lit 63), .lit (.ofNat (nat_lit 21)))]) (iv := []) (fun x y hm => by
                    simp only [List.mem_cons, List.not_mem_nil, or_false, Prod.mk.injEq] at hm
                    rcases hm with ⟨rfl, rfl⟩ | ⟨rfl, rfl⟩
                    · exact e0
                    · exact e1
                  ) (fun _ _ _ hm => by cases hm) r2_21 w hgl
              ·
                by_cases q8 : opVal .and .i64 a1 63 < 23
                ·
                  have e1 : opVal .and .i64 a1 63 = 22 := by omega
                  exact at_ (rw := [(.bin .rem .u64 (.conv .u64 (.var 0)) (.lit 3), .lit (.ofNat (nat_lit 2))), (.bin .and .i64 (.var 1) (.lit 63), .lit (.ofNat (nat_lit 22)))]) (iv := []) (fun x y hm => by
                    simp only [List.mem_cons, List.not_mem_nil, or_false, Prod.mk.injEq] at hm
                    rcases hm with ⟨rfl, rfl⟩ | ⟨rfl, rfl⟩
                    · exact e0
                    · exact e1
                  ) (fun _ _ _ hm => by cases hm) r2_22 w hgl
                ·
                  have e1 : opVal .and .i64 a1 63 = 23 := by omega
                  exact at_ (rw := [(.bin .rem .u64 (.conv .u64 (.var 0)) (.lit 3), .lit (.ofNat (nat_lit 2))), (.bin .and .i64 (.var 1) (.lit 63), .lit (.ofNat (nat_lit 23)))]) (iv := []) (fun x y hm => by
                    simp only [List.mem_cons, List.not_mem_nil, or_false, Prod.mk.injEq] at hm
                    rcases hm with ⟨rfl, rfl⟩ | ⟨rfl, rfl⟩
                    · exact e0
                    · exact e1
                  ) (fun _ _ _ hm => by cases hm) r2_23 w hgl
          ·
            by_cases q6 : opVal .and .i64 a1 63 < 28
            ·
              by_cases q7 : opVal .and .i64 a1 63 < 26
              ·
                by_cases q8 : opVal .and .i64 a1 63 < 25
                ·
                  have e1 : opVal .and .i64 a1 63 = 24 := by omega
                  exact at_ (rw := [(.bin .rem .u64 (.conv .u64 (.var 0)) (.lit 3), .lit (.ofNat (nat_lit 2))), (.bin .and .i64 (.var 1) (.lit 63), .lit (.ofNat (nat_lit 24)))]) (iv := []) (fun x y hm => by
                    simp only [List.mem_cons, List.not_mem_nil, or_false, Prod.mk.injEq] at hm
                    rcases hm with ⟨rfl, rfl⟩ | ⟨rfl, rfl⟩
                    · exact e0
                    · exact e1
                  ) (fun _ _ _ hm => by cases hm) r2_24 w hgl
                ·
                  have e1 : opVal .and .i64 a1 63 = 25 := by omega
                  exact at_ (rw := [(.bin .rem .u64 (.conv .u64 (.var 0)) (.lit 3), .lit (.ofNat (nat_lit 2))), (.bin .and .i64 (.var 1) (.lit 63), .lit (.ofNat (nat_lit 25)))]) (iv := []) (fun x y hm => by
                    simp only [List.mem_cons, List.not_mem_nil, or_false, Prod.mk.injEq] at hm
                    rcases hm with ⟨rfl, rfl⟩ | ⟨rfl, rfl⟩
                    · exact e0
                    · exact e1
                  ) (fun _ _ _ hm => by cases hm) r2_25 w hgl
              ·
                by_cases q8 : opVal .and .i64 a1 63 < 27
                ·
                  have e1 : opVal .and .i64 a1 63 = 26 := by omega
                  exact at_ (rw := [(.bin .rem .u64 (.conv .u64 (.var 0)) (.lit 3), .lit (.ofNat (nat_lit 2))), (.bin .and .i64 (.var 1) (.lit 63), .lit (.ofNat (nat_lit 26)))]) (iv := []) (fun x y hm => by
                    simp only [List.mem_cons, List.not_mem_nil, or_false, Prod.mk.injEq] at hm
                    rcases hm with ⟨rfl, rfl⟩ | ⟨rfl, rfl⟩
                    · exact e0
                    · exact e1
                  ) (fun _ _ _ hm => by cases hm) r2_26 w hgl
                ·
                  have e1 : opVal .and .i64 a1 63 = 27 := by omega
                  exact at_ (rw := [(.bin .rem .u64 (.conv .u64 (.var 0)) (.lit 3), .lit (.ofNat (nat_lit 2))), (.bin .and .i64 (.var 1) (.lit 63), .lit (.ofNat (nat_lit 27)))]) (iv := []) (fun x y hm => by
                    simp only [List.mem_cons, List.not_mem_nil, or_false, Prod.mk.injEq] at hm
                    rcases hm with ⟨rfl, rfl⟩ | ⟨rfl, rfl⟩
                    · exact e0
                    · exact e1
                  ) (fun _ _ _ hm => by cases hm) r2_27 w hgl
            ·
              by_cases q7 : opVal .and .i64 a1 63 < 30
              ·
                by_cases q8 : opVal .and .i64 a1 63 < 29
                ·
                  have e1 : opVal .and .i64 a1 63 = 28 := by omega
                  exact at_ (rw := [(.bin .rem .u64 (.conv .u64 (.var 0)) (.lit 3), .lit (.ofNat (nat_lit 2))), (.bin .and .i64 (.var 1) (.lit 63), .lit (.ofNat (nat_lit 28)))]) (iv := []) (fun x y hm => by
                    simp only [List.mem_cons, List.not_mem_nil, or_false, Prod.mk.injEq] at hm
                    rcases hm with ⟨rfl, rfl⟩ | ⟨rfl, rfl⟩
                    · exact e0
                    · exact e1
                  ) (fun _ _ _ hm => by cases hm) r2_28 w hgl
                ·
                  have e1 : opVal .and .i64 a1 63 = 29 := by omega
                  exact at_ (rw := [(.bin .rem .u64 (.conv .u64 (.var 0)) (.lit 3), .lit (.ofNat (nat_lit 2))), (.bin .and .i64 (.var 1) (.lit 63), .lit (.ofNat (nat_lit 29)))]) (iv := []) (fun x y hm => by
                    simp only [List.mem_cons, List.not_mem_nil, or_false, Prod.mk.injEq] at hm
                    rcases hm with ⟨rfl, rfl⟩ | ⟨rfl, rfl⟩
                    · exact e0
                    · exact e1
                  ) (fun _ _ _ hm => by cases hm) r2_29 w hgl
              ·
                by_cases q8 : opVal .and .i64 a1 63 < 31
                ·
                  have e1 : opVal .and .i64 a1 63 = 30 := by omega
                  exact at_ (rw := [(.bin .rem .u64 (.conv .u64 (.var 0)) (.lit 3), .lit (.ofNat (nat_lit 2))), (.bin .and .i64 (.var 1) (.lit 63), .lit (.ofNat (nat_lit 30)))]) (iv := []) (fun x y hm => by
                    simp only [List.mem_cons, List.not_mem_nil, or_false, Prod.mk.injEq] at hm
                    rcases hm with ⟨rfl, rfl⟩ | ⟨rfl, rfl⟩
                    · exact e0
                    · exact e1
                  ) (fun _ _ _ hm => by cases hm) r2_30 w hgl
                ·
                  have e1 : opVal .and .i64 a1 63 = 31 := by omega
                  exact at_ (rw := [(.bin .rem .u64 (.conv .u64 (.var 0)) (.lit 3), .lit (.ofNat (nat_lit 2))), (.bin .and .i64 (.var 1) (.lit 63), .lit (.ofNat (nat_lit 31)))]) (iv := []) (fun x y hm => by
                    simp only [List.mem_cons, List.not_mem_nil, or_false, Prod.mk.injEq] at hm
                    rcases hm with ⟨rfl, rfl⟩ | ⟨rfl, rfl⟩
                    · exact e0
                    · exact e1
                  ) (fun _ _ _ hm => by cases hm) r2_31 w hgl
      ·
        by_cases q4 : opVal .and .i64 a1 63 < 48
        ·
          by_cases q5 : opVal .and .i64 a1 63 < 40
          ·
            by_cases q6 : opVal .and .i64 a1 63 < 36
            ·
              by_cases q7 : opVal .and .i64 a1 63 < 34
              ·
                by_cases q8 : opVal .and .i64 a1 63 < 33
                ·
                  have e1 : opVal .and .i64 a1 63 = 32 := by omega
                  exact at_ (rw := [(.bin .rem .u64 (.conv .u64 (.var 0)) (.lit 3), .lit (.ofNat (nat_lit 2))), (.bin .and .i64 (.var 1) (.lit 63), .lit (.ofNat (nat_lit 32)))]) (iv := []) (fun x y hm => by
                    simp only [List.mem_cons, List.not_mem_nil, or_false, Prod.mk.injEq] at hm
                    rcases hm with ⟨rfl, rfl⟩ | ⟨rfl, rfl⟩
                    · exact e0
                    · exact e1
                  ) (fun _ _ _ hm => by cases hm) r2_32 w hgl
                ·
                  have e1 : opVal .and .i64 a1 63 = 33 := by omega
                  exact at_ (rw := [(.bin .rem .u64 (.conv .u64 (.var 0)) (.lit 3), .lit (.ofNat (nat_lit 2))), (.bin .and .i64 (.var 1) (.lit 63), .lit (.ofNat (nat_lit 33)))]) (iv := []) (fun x y hm => by
                    simp only [List.mem_cons, List.not_mem_nil, or_false, Prod.mk.injEq] at hm
                    rcases hm with ⟨rfl, rfl⟩ | ⟨rfl, rfl⟩
                    · exact e0
                    · exact e1
                  ) (fun _ _ _ hm => by cases hm) r2_33 w hgl
              ·
                by_cases q8 : opVal .and .i64 a1 63 < 35
                ·
                  have e1 : opVal .and .i64 a1 63 = 34 := by omega
                  exact at_ (rw := [(.bin .rem .u64 (.conv .u64 (.var 0)) (.lit 3), .lit (.ofNat (nat_lit 2))), (.bin .and .i64 (.var 1) (.lit 63), .lit (.ofNat (nat_lit 34)))]) (iv := []) (fun x y hm => by
                    simp only [List.mem_cons, List.not_mem_nil, or_false, Prod.mk.injEq] at hm
                    rcases hm with ⟨rfl, rfl⟩ | ⟨rfl, rfl⟩
                    · exact e0
                    · exact e1
                  ) (fun _ _ _ hm => by cases hm) r2_34 w hgl
                ·
                  have e1 : opVal .and .i64 a1 63 = 35 := by omega
                  exact at_ (rw := [(.bin .rem .u64 (.conv .u64 (.var 0)) (.lit 3), .lit (.ofNat (nat_lit 2))), (.bin .and .i64 (.var 1) (.lit 63), .lit (.ofNat (nat_lit 35)))]) (iv := []) (fun x y hm => by
                    simp only [List.mem_cons, List.not_mem_nil, or_false, Prod.mk.injEq] at hm
                    rcases hm with ⟨rfl, rfl⟩ | ⟨rfl, rfl⟩
                    · exact e0
                    · exact e1
                  ) (fun _ _ _ hm => by cases hm) r2_35 w hgl
            ·
              by_cases q7 : opVal .and .i64 a1 63 < 38
              ·
                by_cases q8 : opVal .and .i64 a1 63 < 37
                ·
                  have e1 : opVal .and .i64 a1 63 = 36 := by omega
                  exact at_ (rw := [(.bin .rem .u64 (.conv .u64 (.var 0)) (.lit 3), .lit (.ofNat (nat_lit 2))), (.bin .and .i64 (.var 1) (.lit 63), .lit (.ofNat (nat_lit 36)))]) (iv := []) (fun x y hm => by
                    simp only [List.mem_cons, List.not_mem_nil, or_false, Prod.mk.injEq] at hm
                    rcases hm with ⟨rfl, rfl⟩ | ⟨rfl, rfl⟩
                    · exact e0
                    · exact e1
                  ) (fun _ _ _ hm => by cases hm) r2_36 w hgl
                ·
                  have e1 : opVal .and .i64 a1 63 = 37 := by omega
                  exact at_ (rw := [(.bin .rem .u64 (.conv .u64 (.var 0)) (.lit 3), .lit (.ofNat (nat_lit 2))), (.bin .and .i64 (.var 1) (.lit 63), .lit (.ofNat (nat_lit 37)))]) (iv := []) (fun x y hm => by
                    simp only [List.mem_cons, List.not_mem_nil, or_false, Prod.mk.injEq] at hm
                    rcases hm with ⟨rfl, rfl⟩ | ⟨rfl, rfl⟩
                    · exact e0
                    · exact e1
                  ) (fun _ _ _ hm => by cases hm) r2_37 w hgl
              ·
                by_cases q8 : opVal .and .i64 a1 63 < 39
                ·
                  have e1 : opVal .and .i64 a1 63 = 38 := by omega
                  exact at_ (rw := [(.bin .rem .u64 (.conv .u64 (.var 0)) (.lit 3), .lit (.ofNat (nat_lit 2))), (.bin .and .i64 (.var 1) (.lit 63), .lit (.ofNat (nat_lit 38)))]) (iv := []) (fun x y hm => by
                    simp only [List.mem_cons, List.not_mem_nil, or_false, Prod.mk.injEq] at hm
                    rcases hm with ⟨rfl, rfl⟩ | ⟨rfl, rfl⟩
                    · exact e0
                    · exact e1
                  ) (fun _ _ _ hm => by cases hm) r2_38 w hgl
                ·
                  have e1 : opVal .and .i64 a1 63 = 39 := by omega
                  exact at_ (rw := [(.bin .rem .u64 (.conv .u64 (.var 0)) (.lit 3), .lit (.ofNat (nat_lit 2))), (.bin .and .i64 (.var 1) (.lit 63), .lit (.ofNat (nat_lit 39)))]) (iv := []) (fun x y hm => by
                    simp only [List.mem_cons, List.not_mem_nil, or_false, Prod.mk.injEq] at hm
                    rcases hm with ⟨rfl, rfl⟩ | ⟨rfl, rfl⟩
                    · exact e0
                    · exact e1
                  ) (fun _ _ _ hm => by cases hm) r2_39 w hgl
          ·
            by_cases q6 : opVal .and .i64 a1 63 < 44
            ·
              by_cases q7 : opVal .and .i64 a1 63 < 42
              ·
                by_cases q8 : opVal .and .i64 a1 63 < 41
                ·
                  have e1 : opVal .and .i64 a1 63 = 40 := by omega
                  exact at_ (rw := [(.bin .rem .u64 (.conv .u64 (.var 0)) (.lit 3), .lit (.ofNat (nat_lit 2))), (.bin .and .i64 (.var 1) (.lit 63), .lit (.ofNat (nat_lit 40)))]) (iv := []) (fun x y hm => by
                    simp only [List.mem_cons, List.not_mem_nil, or_false, Prod.mk.injEq] at hm
                    rcases hm with ⟨rfl, rfl⟩ | ⟨rfl, rfl⟩
                    · exact e0
                    · exact e1
                  ) (fun _ _ _ hm => by cases hm) r2_40 w hgl
                ·
                  have e1 : opVal .and .i64 a1 63 = 41 := by omega
                  exact at_ (rw := [(.bin .rem .u64 (.conv .u64 (.var 0)) (.lit 3), .lit (.ofNat (nat_lit 2))), (.bin .and .i64 (.var 1) (.lit 63), .lit (.ofNat (nat_lit 41)))]) (iv := []) (fun x y hm => by
                    simp only [List.mem_cons, List.not_mem_nil, or_false, Prod.mk.injEq] at hm
                    rcases hm with ⟨rfl, rfl⟩ | ⟨rfl, rfl⟩
                    · exact e0
                    · exact e1
                  ) (fun _ _ _ hm => by cases hm) r2_41 w hgl
              ·
                by_cases q8 : opVal .and .i64 a1 63 < 43
                ·
                  have e1 : opVal .and .i64 a1 63 = 42 := by omega
                  exact at_ (rw := [(.bin .rem .u64 (.conv .u64 (.var 0)) (.lit 3), .lit (.ofNat (nat_lit 2))), (.bin .and .i64 (.var 1) (.lit 63), .lit (.ofNat (nat_lit 42)))]) (iv := []) (fun x y hm => by
                    simp only [List.mem_cons, List.not_mem_nil, or_false, Prod.mk.injEq] at hm
                    rcases hm with ⟨rfl, rfl⟩ | ⟨rfl, rfl⟩
                    · exact e0
                    · exact e1
                  ) (fun _ _ _ hm => by cases hm) r2_42 w hgl
                ·
                  have e1 : opVal .and .i64 a1 63 = 43 := by omega
                  exact at_ (rw := [(.bin .rem .u64 (.conv .u64 (.var 0)) (.lit 3), .lit (.ofNat (nat_lit 2))), (.bin .and .i64 (.var 1) (.lit 63), .lit (.ofNat (nat_lit 43)))]) (iv := []) (fun x y hm => by
                    simp only [List.mem_cons, List.not_mem_nil, or_false, Prod.mk.injEq] at hm
                    rcases hm with ⟨rfl, rfl⟩ | ⟨rfl, rfl⟩
                    · exact e0
                    · exact e1
                  ) (fun _ _ _ hm => by cases hm) r2_43 w hgl
            ·
              by_cases q7 : opVal .and .i64 a1 63 < 46
              ·
                by_cases q8 : opVal .and .i64 a1 63 < 45
                ·
                  have e1 : opVal .and .i64 a1 63 = 44 := by omega
                  exact at_ (rw := [(.bin .rem .u64 (.conv .u64 (.var 0)) (.lit 3), .lit (.ofNat (nat_lit 2))), (.bin .and .i64 (.var 1) (.lit 63), .lit (.ofNat (nat_lit 44)))]) (iv := []) (fun x y hm => by
                    simp only [List.mem_cons, List.not_mem_nil, or_false, Prod.mk.injEq] at hm
                    rcases hm with ⟨rfl, rfl⟩ | ⟨rfl, rfl⟩
                    · exact e0
                    · exact e1
                  ) (fun _ _ _ hm => by cases hm) r2_44 w hgl
                ·
                  have e1 : opVal .and .i64 a1 63 = 45 := by omega
                  exact at_ (rw := [(.bin .rem .u64 (.conv .u64 (.var 0)) (.lit 3), .lit (.ofNat (nat_lit 2))), (.bin .and .i64 (.var 1) (.lit 63), .lit (.ofNat (nat_lit 45)))]) (iv := []) (fun x y hm => by
                    simp only [List.mem_cons, List.not_mem_nil, or_false, Prod.mk.injEq] at hm
                    rcases hm with ⟨rfl, rfl⟩ | ⟨rfl, rfl⟩
                    · exact e0
                    · exact e1
                  ) (fun _ _ _ hm => by cases hm) r2_45 w hgl
              ·
                by_cases q8 : opVal .and .i64 a1 63 < 47
                ·
                  have e1 : opVal .and .i64 a1 63 = 46 := by omega
                  exact at_ (rw := [(.bin .rem .u64 (.conv .u64 (.var 0)) (.lit 3), .lit (.ofNat (nat_lit 2))), (.bin .and .i64 (.var 1) (.lit 63), .lit (.ofNat (nat_lit 46)))]) (iv := []) (fun x y hm => by
                    simp only [List.mem_cons, List.not_mem_nil, or_false, Prod.mk.injEq] at hm
                    rcases hm with ⟨rfl, rfl⟩ | ⟨rfl, rfl⟩
                    · exact e0
                    · exact e1
                  ) (fun _ _ _ hm => by cases hm) r2_46 w hgl
                ·
                  have e1 : opVal .and .i64 a1 63 = 47 := by omega
                  exact at_ (rw := [(.bin .rem .u64 (.conv .u64 (.var 0)) (.lit 3), .lit (.ofNat (nat_lit 2))), (.bin .and .i64 (.var 1) (.lit 63), .lit (.ofNat (nat_lit 47)))]) (iv := []) (fun x y hm => by
                    simp only [List.mem_cons, List.not_mem_nil, or_false, Prod.mk.injEq] at hm
                    rcases hm with ⟨rfl, rfl⟩ | ⟨rfl, rfl⟩
                    · exact e0
                    · exact e1
                  ) (fun _ _ _ hm => by cases hm) r2_47 w hgl
        ·
          by_cases q5 : opVal .and .i64 a1 63 < 56
          ·
            by_cases q6 : opVal .and .i64 a1 63 < 52
            ·
              by_cases q7 : opVal .and .i64 a1 63 < 50
              ·
                by_cases q8 : opVal .and .i64 a1 63 < 49
                ·
                  have e1 : opVal .and .i64 a1 63 = 48 := by omega
                  exact at_ (rw := [(.bin .rem .u64 (.conv .u64 (.var 0)) (.lit 3), .lit (.ofNat (nat_lit 2))), (.bin .and .i64 (.var 1) (.lit 63), .lit (.ofNat (nat_lit 48)))]) (iv := []) (fun x y hm => by
                    simp only [List.mem_cons, List.not_mem_nil, or_false, Prod.mk.injEq] at hm
                    rcases hm with ⟨rfl, rfl⟩ | ⟨rfl, rfl⟩
                    · exact e0
                    · exact e1
                  ) (fun _ _ _ hm => by cases hm) r2_48 w hgl
                ·
                  have e1 : opVal .and .i64 a1 63 = 49 := by omega
                  exact at_ (rw := [(.bin .rem .u64 (.conv .u64 (.var 0)) (.lit 3), .lit (.ofNat (nat_lit 2))), (.bin .and .i64 (.var 1) (.lit 63), .lit (.ofNat (nat_lit 49)))]) (iv := []) (fun x y hm => by
                    simp only [List.mem_cons, List.not_mem_nil, or_false, Prod.mk.injEq] at hm
                    rcases hm with ⟨rfl, rfl⟩ | ⟨rfl, rfl⟩
                    · exact e0
                    · exact e1
                  ) (fun _ _ _ hm => by cases hm) r2_49 w hgl
              ·
                by_cases q8 : opVal .and .i64 a1 63 < 51
                ·
                  have e1 : opVal .and .i64 a1 63 = 50 := by omega
                  exact at_ (rw := [(.bin .rem .u64 (.conv .u64 (.var 0)) (.lit 3), .lit (.ofNat (nat_lit 2))), (.bin .and .i64 (.var 1) (.lit 63), .lit (.ofNat (nat_lit 50)))]) (iv := []) (fun x y hm => by
                    simp only [List.mem_cons, List.not_mem_nil, or_false, Prod.mk.injEq] at hm
                    rcases hm with ⟨rfl, rfl⟩ | ⟨rfl, rfl⟩
                    · exact e0
                    · exact e1
                  ) (fun _ _ _ hm => by cases hm) r2_50 w hgl
                ·
                  have e1 : opVal .and .i64 a1 63 = 51 := by omega
                  exact at_ (rw := [(.bin .rem .u64 (.conv .u64 (.var 0)) (.lit 3), .lit (.ofNat (nat_lit 2))), (.bin .and .i64 (.var 1) (.lit 63), .lit (.ofNat (nat_lit 51)))]) (iv := []) (fun x y hm => by
                    simp only [List.mem_cons, List.not_mem_nil, or_false, Prod.mk.injEq] at hm
                    rcases hm with ⟨rfl, rfl⟩ | ⟨rfl, rfl⟩
                    · exact e0
                    · exact e1
                  ) (fun _ _ _ hm => by cases hm) r2_51 w hgl
            ·
              by_cases q7 : opVal .and .i64 a1 63 < 54
              ·
                by_cases q8 : opVal .and .i64 a1 63 < 53
                ·
                  have e1 : opVal .and .i64 a1 63 = 52 := by omega
                  exact at_ (rw := [(.bin .rem .u64 (.conv .u64 (.var 0)) (.lit 3), .lit (.ofNat (nat_lit 2))), (.bin .and .i64 (.var 1) (.lit 63), .lit (.ofNat (nat_lit 52)))]) (iv := []) (fun x y hm => by
                    simp only [List.mem_cons, List.not_mem_nil, or_false, Prod.mk.injEq] at hm
                    rcases hm with ⟨rfl, rfl⟩ | ⟨rfl, rfl⟩
                    · exact e0
                    · exact e1
                  ) (fun _ _ _ hm => by cases hm) r2_52 w hgl
                ·
                  have e1 : opVal .and .i64 a1 63 = 53 := by omega
                  exact at_ (rw := [(.bin .rem .u64 (.conv .u64 (.var 0)) (.lit 3), .lit (.ofNat (nat_lit 2))), (.bin .and .i64 (.var 1) (.lit 63), .lit (.ofNat (nat_lit 53)))]) (iv := []) (fun x y hm => by
                    simp only [List.mem_cons, List.not_mem_nil, or_false, Prod.mk.injEq] at hm
                    rcases hm with ⟨rfl, rfl⟩ | ⟨rfl, rfl⟩
                    · exact e0
                    · exact e1
                  ) (fun _ _ _ hm => by cases hm) r2_53 w hgl
              ·
                by_cases q8 : opVal .and .i64 a1 63 < 55
                ·
                  have e1 : opVal .and .i64 a1 63 = 54 := by omega
                  exact at_ (rw := [(.bin .rem .u64 (.conv .u64 (.var 0)) (.lit 3), .lit (.ofNat (nat_lit 2))), (.bin .and .i64 (.var 1) (.lit 63), .lit (.ofNat (nat_lit 54)))]) (iv := []) (fun x y hm => by
                    simp only [List.mem_cons, List.not_mem_nil, or_false, Prod.mk.injEq] at hm
                    rcases hm with ⟨rfl, rfl⟩ | ⟨rfl, rfl⟩
                    · exact e0
                    · exact e1
                  ) (fun _ _ _ hm => by cases hm) r2_54 w hgl
                ·
                  have e1 : opVal .and .i64 a1 63 = 55 := by omega
                  exact at_ (rw := [(.bin .rem .u64 (.conv .u64 (.var 0)) (.lit 3), .lit (.ofNat (nat_lit 2))), (.bin .and .i64 (.var 1) (.lit 63), .lit (.ofNat (nat_lit 55)))]) (iv := []) (fun x y hm => by
                    simp only [List.mem_cons, List.not_mem_nil, or_false, Prod.mk.injEq] at hm
                    rcases hm with ⟨rfl, rfl⟩ | ⟨rfl, rfl⟩
                    · exact e0
                    · exact e1
                  ) (fun _ _ _ hm => by cases hm) r2_55 w hgl
          ·
            by_cases q6 : opVal .and .i64 a1 63 < 60
            ·
              by_cases q7 : opVal .and .i64 a1 63 < 58
              ·
                by_cases q8 : opVal .and .i64 a1 63 < 57
                ·
                  have e1 : opVal .and .i64 a1 63 = 56 := by omega
                  exact at_ (rw := [(.bin .rem .u64 (.conv .u64 (.var 0)) (.lit 3), .lit (.ofNat (nat_lit 2))), (.bin .and .i64 (.var 1) (.lit 63), .lit (.ofNat (nat_lit 56)))]) (iv := []) (fun x y hm => by
                    simp only [List.mem_cons, List.not_mem_nil, or_false, Prod.mk.injEq] at hm
                    rcases hm with ⟨rfl, rfl⟩ | ⟨rfl, rfl⟩
                    · exact e0
                    · exact e1
                  ) (fun _ _ _ hm => by cases hm) r2_56 w hgl
                ·
                  have e1 : opVal .and .i64 a1 63 = 57 := by omega
                  exact at_ (rw := [(.bin .rem .u64 (.conv .u64 (.var 0)) (.lit 3), .lit (.ofNat (nat_lit 2))), (.bin .and .i64 (.var 1) (.lit 63), .lit (.ofNat (nat_lit 57)))]) (iv := []) (fun x y hm => by
                    simp only [List.mem_cons, List.not_mem_nil, or_false, Prod.mk.injEq] at hm
                    rcases hm with ⟨rfl, rfl⟩ | ⟨rfl, rfl⟩
                    · exact e0
                    · exact e1
                  ) (fun _ _ _ hm => by cases hm) r2_57 w hgl
              ·
                by_cases q8 : opVal .and .i64 a1 63 < 59
                ·
                  have e1 : opVal .and .i64 a1 63 = 58 := by omega
                  exact at_ (rw := [(.bin .rem .u64 (.conv .u64 (.var 0)) (.lit 3), .lit (.ofNat (nat_lit 2))), (.bin .and .i64 (.var 1) (.lit 63), .lit (.ofNat (nat_lit 58)))]) (iv := []) (fun x y hm => by
                    simp only [List.mem_cons, List.not_mem_nil, or_false, Prod.mk.injEq] at hm
                    rcases hm with ⟨rfl, rfl⟩ | ⟨rfl, rfl⟩
                    · exact e0
                    · exact e1
                  ) (fun _ _ _ hm => by cases hm) r2_58 w hgl
                ·
                  have e1 : opVal .and .i64 a1 63 = 59 := by omega
                  exact at_ (rw := [(.bin .rem .u64 (.conv .u64 (.var 0)) (.lit 3), .lit (.ofNat (nat_lit 2))), (.bin .and .i64 (.var 1) (.lit 63), .lit (.ofNat (nat_lit 59)))]) (iv := []) (fun x y hm => by
                    simp only [List.mem_cons, List.not_mem_nil, or_false, Prod.mk.injEq] at hm
                    rcases hm with ⟨rfl, rfl⟩ | ⟨rfl, rfl⟩
                    · exact e0
                    · exact e1
                  ) (fun _ _ _ hm => by cases hm) r2_59 w hgl
            ·
              by_cases q7 : opVal .and .i64 a1 63 < 62
              ·
                by_cases q8 : opVal .and .i64 a1 63 < 61
                ·
                  have e1 : opVal .and .i64 a1 63 = 60 := by omega
                  exact at_ (rw := [(.bin .rem .u64 (.conv .u64 (.var 0)) (.lit 3), .lit (.ofNat (nat_lit 2))), (.bin .and .i64 (.var 1) (.lit 63), .lit (.ofNat (nat_lit 60)))]) (iv := []) (fun x y hm => by
                    simp only [List.mem_cons, List.not_mem_nil, or_false, Prod.mk.injEq] at hm
                    rcases hm with ⟨rfl, rfl⟩ | ⟨rfl, rfl⟩
                    · exact e0
                    · exact e1
                  ) (fun _ _ _ hm => by cases hm) r2_60 w hgl
                ·
                  have e1 : opVal .and .i64 a1 63 = 61 := by omega
                  exact at_ (rw := [(.bin .rem .u64 (.conv .u64 (.var 0)) (.lit 3), .lit (.ofNat (nat_lit 2))), (.bin .and .i64 (.var 1) (.lit 63), .lit (.ofNat (nat_lit 61)))]) (iv := []) (fun x y hm => by
                    simp only [List.mem_cons, List.not_mem_nil, or_false, Prod.mk.injEq] at hm
                    rcases hm with ⟨rfl, rfl⟩ | ⟨rfl, rfl⟩
                    · exact e0
                    · exact e1
                  ) (fun _ _ _ hm => by cases hm) r2_61 w hgl
              ·
                by_cases q8 : opVal .and .i64 a1 63 < 63
                ·
                  have e1 : opVal .and .i64 a1 63 = 62 := by omega
                  exact at_ (rw := [(.bin .rem .u64 (.conv .u64 (.var 0)) (.lit 3), .lit (.ofNat (nat_lit 2))), (.bin .and .i64 (.var 1) (.lit 63), .lit (.ofNat (nat_lit 62)))]) (iv := []) (fun x y hm => by
                    simp only [List.mem_cons, List.not_mem_nil, or_false, Prod.mk.injEq] at hm
                    rcases hm with ⟨rfl, rfl⟩ | ⟨rfl, rfl⟩
                    · exact e0
                    · exact e1
                  ) (fun _ _ _ hm => by cases hm) r2_62 w hgl
                ·
                  have e1 : opVal .and .i64 a1 63 = 63 := by omega
                  exact at_ (rw := [(.bin .rem .u64 (.conv .u64 (.var 0)) (.lit 3), .lit (.ofNat (nat_lit 2))), (.bin .and .i64 (.var 1) (.lit 63), .lit (.ofNat (nat_lit 63)))]) (iv := []) (fun x y hm => by
                    simp only [List.mem_cons, List.not_mem_nil, or_false, Prod.mk.injEq] at hm
                    rcases hm with ⟨rfl, rfl⟩ | ⟨rfl, rfl⟩
                    · exact e0
                    · exact e1
                  ) (fun _ _ _ hm => by cases hm) r2_63 w hgl

/-! ### THE ROW's STEP: WRITTEN OUT: LEAVE IT -/
set_option maxRecDepth 100000 in
theorem lifted (os : Os) (started : os.Started) (H : Type) (enc : TypeId × Value → H) :
    ReturnsInHanded {} Tryz.checked os 8 .any (fun w args => (Rows.modelShortSpec.pre enc Tryz.prog Tryz.f8 Rows.modelShortRow.domain false w args ∧ laidMet Tryz.prog Rows.modelShortRow.laid w) ∧ sizedMet enc Tryz.prog Tryz.f8 (OpenSpec.ofChange Rows.modelShortSpec) false w args) (Rows.modelShortSpec.post enc Tryz.prog Tryz.f8 false true false false) := by
  refine returnsInHanded_of_change_and (C := Tryz.checked) (X := fun w _ => laidMet Tryz.prog Rows.modelShortRow.laid w) (fun _ _ _ hh h => h.of_heap hh) own started (by kernel_rfl) Tryz.func8
    (ChangeSpec.witness_shaped (enc := enc) (C := Tryz.checked) (os := os) (X := fun w _ => laidMet Tryz.prog Rows.modelShortRow.laid w) false (laidWorld os #[.int .i64 0, .int .i64 0]) #[.int .i64 0, .int .i64 0] 8 rfl (World.shaped_of_RefB (by kernel_rfl) (by kernel_rfl)) (by kernel_rfl) (by kernel_rfl) (by kernel_rfl) (laid_met_modelShort os _ _)) ?_
  intro W base args ds gs before hval0 hW hcnd _ hL _
  have hval : ∀ (j : Nat) t v, Tryz.f8.params[j]? = some t → args[j]? = some v → Value.okWide Tryz.prog W .any base t v := hval0
  have hW' := hW
  obtain ⟨p, q, hA0, hV, rfl, hfz, hnd⟩ := hW
  have hA : DataW.TrodAll enc Tryz.prog W 0 (fun _ => true) true Tryz.f8.params.toList args.toList ds p := hA0
  rw [Tryz.params8] at hA hval
  obtain ⟨v0, vs0, d0, ds0, p0, q0, hargs, rfl, rfl, h0, r0⟩ := trodAll_cons hA
  obtain ⟨v1, vs1, d1, ds1, p1, q1, rfl, rfl, rfl, h1, r1⟩ := trodAll_cons r0
  obtain ⟨rfl, rfl, rfl⟩ := trodAll_nil r1
  obtain rfl : args = #[v0, v1] := by cases args; simp_all
  obtain ⟨rfl, rfl⟩ := trodVars_none hV
  obtain ⟨a0, rfl, rfl, rfl, w0⟩ := open_int Tryz.underlying3 (hval 0 3 v0 rfl rfl) h0
  obtain ⟨a1, rfl, rfl, rfl, w1⟩ := open_int Tryz.underlying3 (hval 1 3 v1 rfl rfl) h1
  clear hA0 hval0
  simp only [List.append_nil] at hW'
  refine (walk a0 a1 w0 w1 W).mono fun e W' ⟨he, hg⟩ => ?_
  subst he
  exact ⟨_, rfl, post_of_below (pa := []) (pv := []) hW' (fun _ _ _ => (trodAll_cons_mk (shut_bool Tryz.underlying4 _) trodAll_mk0)) (fun sp _ => (trodAll_cons_mk (shut_int Tryz.underlying3 w0) (trodAll_cons_mk (shut_int Tryz.underlying3 w1) trodAll_mk0))) (fun _ _ => rfl) rfl
    hg (ok_one (by kernel_rfl) rfl (okWide_bool_mk Tryz.underlying4 _))⟩

theorem over : Rows.modelShortRow.holds Tryz.pinned (OpenSpec.ofChange Rows.modelShortSpec) :=
  OpenClaim.holds_of_wide 8 Tryz.f8 rfl rfl rfl rfl rfl rfl rfl ⟨rfl, rfl, rfl, rfl, rfl⟩ rfl rfl rfl rfl rfl (by kernel_rfl) Tryz.func8 (by kernel_rfl)
    (of_decide_eq_true (by kernel_rfl)) (by unfold Func.isWrapper; first | (rw [if_pos (by decide +kernel)]; kernel_rfl) | (rw [if_neg (by decide +kernel)]; exact ⟨rfl, rfl⟩))
    (fun os started H enc _ => lifted os started H enc)

/-- ████ THE STATEMENT ████ -/
theorem proved : Rows.ModelShortCardSaid :=
  Claim7.holds_tied_plain_at .later [] [.listed, .data] true (true, "62a2f59f222c047830ac9415e8d89cda8e5fe565773f57f8c3c3915df12b9dd0") true
    over (fun _ h => by cases h) (by kernel_rfl) (fun _ h => by cases h) modelShort_row_tie rfl ⟨rfl, rfl⟩ (by kernel_rfl) rfl
    (fun f fn hf hfn => by
      obtain rfl : f = 8 := Option.some.inj ((show Tryz.prog.funcNamed "gneiss/gneisslaw21.ModelShort" = some 8 by kernel_rfl).symm.trans hf) |>.symm
      obtain rfl : fn = Tryz.f8 := (Option.some.inj (Tryz.func8.symm.trans hfn)).symm
      exact ⟨by kernel_rfl, fun j t ht => by
        rw [Tryz.params8] at ht
        have hm : t ∈ (Tryz.f8.params : Array TypeId).toList := by
          rw [Tryz.params8]
          exact Array.mem_toList_iff.2 (Array.mem_of_getElem? ht)
        have hall : (Tryz.f8.params.toList.all fun t => !(Tryz.prog.wantsStandIn t)) = true := by kernel_rfl
        have := List.all_eq_true.1 hall t hm
        have h2 : Tryz.prog.wantsStandIn t = false := by simpa using this
        exact h2⟩)
    (by kernel_rfl)
#print axioms proved
end Go.Proofs.YtpogefeioedgeaaGreatDoor.modelShort
