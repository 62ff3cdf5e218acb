/- gneiss/gneisslaw4.SchedDead answers true at every input, and leaves its arguments as they were. No conditions. -/
import Derived.Test.YtmnfeljfemobkaaRows
import Derived.WalkKit
import Derived.ProofKit
import Derived.OpenShut
import Derived.Below
import Derived.ChangeSame
import Derived.Test.YtmnfeljfemobkaaSchedDeadR0
import Derived.Test.YtmnfeljfemobkaaSchedDeadR1
import Derived.Test.YtmnfeljfemobkaaSchedDeadR2
import Derived.Test.YtmnfeljfemobkaaSchedDeadR3
namespace Go.Proofs.Ytmnfeljfemobkaa.schedDead
open Go.Ai Go.ChangeShapes Go.WideShapes Go.ChangeAt Go.RowKit
set_option linter.unusedVariables false

theorem own : ownKnob Try.prog.godebug = none := by kernel_rfl

section
variable {H : Type} {enc : TypeId × Value → H} {P : Program}
theorem post_of_below {f : Func} {s : ChangeSpec} {apart fresh handsOn again : Bool} {W W' : World} {args : Array Value} {v : Value} {ds gs : List (DataW H)} {before pa pv : List MemPlace}
    (hW : DataW.Whole enc P f.params.toList s.vars apart W args.toList ds gs before)
    (hres : ∀ (b : Nat) (sp : Nat → Bool) (hd : Bool), DataW.TrodAll enc P W' b sp hd f.resultTypes.toList (v.resultList f.resultTypes.size) (s.fn H (ds ++ gs)).results [])
    (hargs : ∀ sp : Nat → Bool, (∀ p ∈ before, sp p.block = true) → DataW.TrodAll enc P W' 0 sp true f.params.toList args.toList (s.fn H (ds ++ gs)).args pa)
    (hvars : ∀ sp : Nat → Bool, (∀ p ∈ before, sp p.block = true) → DataW.TrodVars enc P W' sp s.vars (s.fn H (ds ++ gs)).vars pv)
    (hps : before = pa ++ pv) (hb : Below W.heap.size W W')
    (hok : ∀ (j : Nat) (t : TypeId) (r : Value), f.resultTypes[j]? = some t → (v.resultList f.resultTypes.size)[j]? = some r → Value.okWide P W' .any 0 t r) :
    s.post enc P f apart fresh handsOn again W args v W' := by
  have hlt : ∀ p ∈ before, p.block < W.heap.size := fun p hp => hW.lt p hp
  have hold : ∀ p ∈ before, (fun b => decide (b < W.heap.size)) p.block = true := fun p hp => by simpa using hlt p hp
  refine ⟨ds, gs, before, [], pa, pv, hW, hres _ _ _, hargs _ hold, hvars _ hold, World.keptBut_mono (fun p hp => ⟨hp, ?_⟩) (hb.frame (· ∈ before)), fun _ => ?_⟩
  · rw [hps, List.mem_append] at hp
    exact Or.inr hp
  · obtain ⟨_, _, _, _, _, hz, hn⟩ := hW
    refine ⟨hok, _, _, ([] ++ pa) ++ pv, ⟨[] ++ pa, pv, trodAll_append (hargs _ (fun _ _ => rfl)) (hres _ _ _), hvars _ (fun _ _ => rfl), rfl, ?_, ?_⟩, ?_⟩
    · intro b off hp
      have hin : MemPlace.cell b off ∈ before := by rw [hps]; simpa using hp
      rw [hb.frozen (hlt _ hin)]
      exact hz b off hin
    · intro ha
      have := hn ha
      rw [hps] at this
      simpa using this
    · intro p hp _
      rw [hps]
      simpa using hp
end
/-! ### the walk: by the abstract machine -/
theorem rng0 (a : Int) : 0 ≤ opVal .and .i64 a 15 ∧ opVal .and .i64 a 15 ≤ 15 := by
  have h : (BitVec.ofInt 64 a &&& BitVec.ofInt 64 15).toNat ≤ 15 := by
    rw [BitVec.toNat_and]
    exact Nat.and_le_right
  show 0 ≤ IntKind.wrap .i64 ((BitVec.ofInt 64 a &&& BitVec.ofInt 64 15).toNat : Int) ∧ IntKind.wrap .i64 ((BitVec.ofInt 64 a &&& BitVec.ofInt 64 15).toNat : Int) ≤ 15
  rw [IntKind.wrap_i64]
  omega
theorem rng1 (a : Int) : 0 ≤ opVal .and .i64 a 3 ∧ opVal .and .i64 a 3 ≤ 3 := by
  have h : (BitVec.ofInt 64 a &&& BitVec.ofInt 64 3).toNat ≤ 3 := by
    rw [BitVec.toNat_and]
    exact Nat.and_le_right
  show 0 ≤ IntKind.wrap .i64 ((BitVec.ofInt 64 a &&& BitVec.ofInt 64 3).toNat : Int) ∧ IntKind.wrap .i64 ((BitVec.ofInt 64 a &&& BitVec.ofInt 64 3).toNat : Int) ≤ 3
  rw [IntKind.wrap_i64]
  omega
theorem at_ {a0 : Int} {a1 : Int}  {rw : List (SI × SI)} {iv : List (SI × Int × Int)} (hr : ∀ x y, (x, y) ∈ rw → x.ev (fun i => if i = 0 then a0 else if i = 1 then a1 else 0) = y.ev (fun i => if i = 0 then a0 else if i = 1 then a1 else 0)) (hi : ∀ x lo hi, (x, lo, hi) ∈ iv → lo ≤ x.ev (fun i => if i = 0 then a0 else if i = 1 then a1 else 0) ∧ x.ev (fun i => if i = 0 then a0 else if i = 1 then a1 else 0) ≤ hi) (r : yes (run rw iv) = true) (w : World) (hgl : GlOk gl w) : Calls Try.prog 6 #[.int .i64 a0, .int .i64 a1] w fun e w' => e = .returned (.bool true) ∧ Below w.heap.size w w' :=
  haveI : GlOk (⟨rw, [], iv, fun _ _ _ => none, gl⟩ : Cf).gl w := hgl
  soundC comp.mixed comp.TOk (over := (overC 7)) (cf := ⟨rw, [], iv, fun _ _ _ => none, gl⟩) (σ := fun i => if i = 0 then a0 else if i = 1 then a1 else 0) (xs := [.int .i64 a0, .int .i64 a1]) (fun _ h => overC_ok awakes h)
    ⟨hr, fun _ _ _ _ hm => (by cases hm), hi, fun _ _ _ _ hm => (by cases hm)⟩
    (.cons (.int .i64 (.var 0)) (.cons (.int .i64 (.var 1)) .nil)) r
theorem walk (a0 : Int) (a1 : Int) (w0 : (Lit.int .i64 a0).wf = true) (w1 : (Lit.int .i64 a1).wf = true) (w : World) :
    Calls Try.prog 6 #[.int .i64 a0, .int .i64 a1] w fun e w' => e = .returned (.bool true) ∧ Below w.heap.size w w' := by
  have hgl : GlOk gl w := GlOk.none (fun _ => rfl)
  have g0 := rng0 a0
  by_cases q1 : opVal .and .i64 a0 15 < 8
  ·
    by_cases q2 : opVal .and .i64 a0 15 < 4
    ·
      by_cases q3 : opVal .and .i64 a0 15 < 2
      ·
        by_cases q4 : opVal .and .i64 a0 15 < 1
        ·
          have e0 : opVal .and .i64 a0 15 = 0 := by omega
          have g1 := rng1 a1
          by_cases q5 : opVal .and .i64 a1 3 < 2
          ·
            by_cases q6 : opVal .and .i64 a1 3 < 1
            ·
              have e1 : opVal .and .i64 a1 3 = 0 := by omega
              exact at_ (rw := [(.bin .and .i64 (.var 0) (.lit 15), .lit (.ofNat (nat_lit 0))), (.bin .and .i64 (.var 1) (.lit 3), .lit (.ofNat (nat_lit 0)))]) (iv := []) (fun x y hm => by
                simp only [List.mem_cons, List.not_mem_nil, or_false, Prod.mk.injEq] at hm
                rcases hm with ⟨rfl, rfl⟩ | ⟨rfl, rfl⟩
                · exact e0
                · exact e1
              ) (fun _ _ _ hm => by cases hm) r0_0 w hgl
            ·
              have e1 : opVal .and .i64 a1 3 = 1 := by omega
              exact at_ (rw := [(.bin .and .i64 (.var 0) (.lit 15), .lit (.ofNat (nat_lit 0))), (.bin .and .i64 (.var 1) (.lit 3), .lit (.ofNat (nat_lit 1)))]) (iv := []) (fun x y hm => by
                simp only [List.mem_cons, List.not_mem_nil, or_false, Prod.mk.injEq] at hm
                rcases hm with ⟨rfl, rfl⟩ | ⟨rfl, rfl⟩
                · exact e0
                · exact e1
              ) (fun _ _ _ hm => by cases hm) r0_1 w hgl
          ·
            by_cases q6 : opVal .and .i64 a1 3 < 3
            ·
              have e1 : opVal .and .i64 a1 3 = 2 := by omega
              exact at_ (rw := [(.bin .and .i64 (.var 0) (.lit 15), .lit (.ofNat (nat_lit 0))), (.bin .and .i64 (.var 1) (.lit 3), .lit (.ofNat (nat_lit 2)))]) (iv := []) (fun x y hm => by
                simp only [List.mem_cons, List.not_mem_nil, or_false, Prod.mk.injEq] at hm
                rcases hm with ⟨rfl, rfl⟩ | ⟨rfl, rfl⟩
                · exact e0
                · exact e1
              ) (fun _ _ _ hm => by cases hm) r0_2 w hgl
            ·
              have e1 : opVal .and .i64 a1 3 = 3 := by omega
              exact at_ (rw := [(.bin .and .i64 (.var 0) (.lit 15), .lit (.ofNat (nat_lit 0))), (.bin .and .i64 (.var 1) (.lit 3), .lit (.ofNat (nat_lit 3)))]) (iv := []) (fun x y hm => by
                simp only [List.mem_cons, List.not_mem_nil, or_false, Prod.mk.injEq] at hm
                rcases hm with ⟨rfl, rfl⟩ | ⟨rfl, rfl⟩
                · exact e0
                · exact e1
              ) (fun _ _ _ hm => by cases hm) r0_3 w hgl
        ·
          have e0 : opVal .and .i64 a0 15 = 1 := by omega
          have g1 := rng1 a1
          by_cases q5 : opVal .and .i64 a1 3 < 2
          ·
            by_cases q6 : opVal .and .i64 a1 3 < 1
            ·
              have e1 : opVal .and .i64 a1 3 = 0 := by omega
              exact at_ (rw := [(.bin .and .i64 (.var 0) (.lit 15), .lit (.ofNat (nat_lit 1))), (.bin .and .i64 (.var 1) (.lit 3), .lit (.ofNat (nat_lit 0)))]) (iv := []) (fun x y hm => by
                simp only [List.mem_cons, List.not_mem_nil, or_false, Prod.mk.injEq] at hm
                rcases hm with ⟨rfl, rfl⟩ | ⟨rfl, rfl⟩
                · exact e0
                · exact e1
              ) (fun _ _ _ hm => by cases hm) r1_0 w hgl
            ·
              have e1 : opVal .and .i64 a1 3 = 1 := by omega
              exact at_ (rw := [(.bin .and .i64 (.var 0) (.lit 15), .lit (.ofNat (nat_lit 1))), (.bin .and .i64 (.var 1) (.lit 3), .lit (.ofNat (nat_lit 1)))]) (iv := []) (fun x y hm => by
                simp only [List.mem_cons, List.not_mem_nil, or_false, Prod.mk.injEq] at hm
                rcases hm with ⟨rfl, rfl⟩ | ⟨rfl, rfl⟩
                · exact e0
                · exact e1
              ) (fun _ _ _ hm => by cases hm) r1_1 w hgl
          ·
            by_cases q6 : opVal .and .i64 a1 3 < 3
            ·
              have e1 : opVal .and .i64 a1 3 = 2 := by omega
              exact at_ (rw := [(.bin .and .i64 (.var 0) (.lit 15), .lit (.ofNat (nat_lit 1))), (.bin .and .i64 (.var 1) (.lit 3), .lit (.ofNat (nat_lit 2)))]) (iv := []) (fun x y hm => by
                simp only [List.mem_cons, List.not_mem_nil, or_false, Prod.mk.injEq] at hm
                rcases hm with ⟨rfl, rfl⟩ | ⟨rfl, rfl⟩
                · exact e0
                · exact e1
              ) (fun _ _ _ hm => by cases hm) r1_2 w hgl
            ·
              have e1 : opVal .and .i64 a1 3 = 3 := by omega
              exact at_ (rw := [(.bin .and .i64 (.var 0) (.lit 15), .lit (.ofNat (nat_lit 1))), (.bin .and .i64 (.var 1) (.lit 3), .lit (.ofNat (nat_lit 3)))]) (iv := []) (fun x y hm => by
                simp only [List.mem_cons, List.not_mem_nil, or_false, Prod.mk.injEq] at hm
                rcases hm with ⟨rfl, rfl⟩ | ⟨rfl, rfl⟩
                · exact e0
                · exact e1
              ) (fun _ _ _ hm => by cases hm) r1_3 w hgl
      ·
        by_cases q4 : opVal .and .i64 a0 15 < 3
        ·
          have e0 : opVal .and .i64 a0 15 = 2 := by omega
          have g1 := rng1 a1
          by_cases q5 : opVal .and .i64 a1 3 < 2
          ·
            by_cases q6 : opVal .and .i64 a1 3 < 1
            ·
              have e1 : opVal .and .i64 a1 3 = 0 := by omega
              exact at_ (rw := [(.bin .and .i64 (.var 0) (.lit 15), .lit (.ofNat (nat_lit 2))), (.bin .and .i64 (.var 1) (.lit 3), .lit (.ofNat (nat_lit 0)))]) (iv := []) (fun x y hm => by
                simp only [List.mem_cons, List.not_mem_nil, or_false, Prod.mk.injEq] at hm
                rcases hm with ⟨rfl, rfl⟩ | ⟨rfl, rfl⟩
                · exact e0
                · exact e1
              ) (fun _ _ _ hm => by cases hm) r2_0 w hgl
            ·
              have e1 : opVal .and .i64 a1 3 = 1 := by omega
              exact at_ (rw := [(.bin .and .i64 (.var 0) (.lit 15), .lit (.ofNat (nat_lit 2))), (.bin .and .i64 (.var 1) (.lit 3), .lit (.ofNat (nat_lit 1)))]) (iv := []) (fun x y hm => by
                simp only [List.mem_cons, List.not_mem_nil, or_false, Prod.mk.injEq] at hm
                rcases hm with ⟨rfl, rfl⟩ | ⟨rfl, rfl⟩
                · exact e0
                · exact e1
              ) (fun _ _ _ hm => by cases hm) r2_1 w hgl
          ·
            by_cases q6 : opVal .and .i64 a1 3 < 3
            ·
              have e1 : opVal .and .i64 a1 3 = 2 := by omega
              exact at_ (rw := [(.bin .and .i64 (.var 0) (.lit 15), .lit (.ofNat (nat_lit 2))), (.bin .and .i64 (.var 1) (.lit 3), .lit (.ofNat (nat_lit 2)))]) (iv := []) (fun x y hm => by
                simp only [List.mem_cons, List.not_mem_nil, or_false, Prod.mk.injEq] at hm
                rcases hm with ⟨rfl, rfl⟩ | ⟨rfl, rfl⟩
                · exact e0
                · exact e1
              ) (fun _ _ _ hm => by cases hm) r2_2 w hgl
            ·
              have e1 : opVal .and .i64 a1 3 = 3 := by omega
              exact at_ (rw := [(.bin .and .i64 (.var 0) (.lit 15), .lit (.ofNat (nat_lit 2))), (.bin .and .i64 (.var 1) (.lit 3), .lit (.ofNat (nat_lit 3)))]) (iv := []) (fun x y hm => by
                simp only [List.mem_cons, List.not_mem_nil, or_false, Prod.mk.injEq] at hm
                rcases hm with ⟨rfl, rfl⟩ | ⟨rfl, rfl⟩
                · exact e0
                · exact e1
              ) (fun _ _ _ hm => by cases hm) r2_3 w hgl
        ·
          have e0 : opVal .and .i64 a0 15 = 3 := by omega
          have g1 := rng1 a1
          by_cases q5 : opVal .and .i64 a1 3 < 2
          ·
            by_cases q6 : opVal .and .i64 a1 3 < 1
            ·
              have e1 : opVal .and .i64 a1 3 = 0 := by omega
              exact at_ (rw := [(.bin .and .i64 (.var 0) (.lit 15), .lit (.ofNat (nat_lit 3))), (.bin .and .i64 (.var 1) (.lit 3), .lit (.ofNat (nat_lit 0)))]) (iv := []) (fun x y hm => by
                simp only [List.mem_cons, List.not_mem_nil, or_false, Prod.mk.injEq] at hm
                rcases hm with ⟨rfl, rfl⟩ | ⟨rfl, rfl⟩
                · exact e0
                · exact e1
              ) (fun _ _ _ hm => by cases hm) r3_0 w hgl
            ·
              have e1 : opVal .and .i64 a1 3 = 1 := by omega
              exact at_ (rw := [(.bin .and .i64 (.var 0) (.lit 15), .lit (.ofNat (nat_lit 3))), (.bin .and .i64 (.var 1) (.lit 3), .lit (.ofNat (nat_lit 1)))]) (iv := []) (fun x y hm => by
                simp only [List.mem_cons, List.not_mem_nil, or_false, Prod.mk.injEq] at hm
                rcases hm with ⟨rfl, rfl⟩ | ⟨rfl, rfl⟩
                · exact e0
                · exact e1
              ) (fun _ _ _ hm => by cases hm) r3_1 w hgl
          ·
            by_cases q6 : opVal .and .i64 a1 3 < 3
            ·
              have e1 : opVal .and .i64 a1 3 = 2 := by omega
              exact at_ (rw := [(.bin .and .i64 (.var 0) (.lit 15), .lit (.ofNat (nat_lit 3))), (.bin .and .i64 (.var 1) (.lit 3), .lit (.ofNat (nat_lit 2)))]) (iv := []) (fun x y hm => by
                simp only [List.mem_cons, List.not_mem_nil, or_false, Prod.mk.injEq] at hm
                rcases hm with ⟨rfl, rfl⟩ | ⟨rfl, rfl⟩
                · exact e0
                · exact e1
              ) (fun _ _ _ hm => by cases hm) r3_2 w hgl
            ·
              have e1 : opVal .and .i64 a1 3 = 3 := by omega
              exact at_ (rw := [(.bin .and .i64 (.var 0) (.lit 15), .lit (.ofNat (nat_lit 3))), (.bin .and .i64 (.var 1) (.lit 3), .lit (.ofNat (nat_lit 3)))]) (iv := []) (fun x y hm => by
                simp only [List.mem_cons, List.not_mem_nil, or_false, Prod.mk.injEq] at hm
                rcases hm with ⟨rfl, rfl⟩ | ⟨rfl, rfl⟩
                · exact e0
                · exact e1
              ) (fun _ _ _ hm => by cases hm) r3_3 w hgl
    ·
      by_cases q3 : opVal .and .i64 a0 15 < 6
      ·
        by_cases q4 : opVal .and .i64 a0 15 < 5
        ·
          have e0 : opVal .and .i64 a0 15 = 4 := by omega
          have g1 := rng1 a1
          by_cases q5 : opVal .and .i64 a1 3 < 2
          ·
            by_cases q6 : opVal .and .i64 a1 3 < 1
            ·
              have e1 : opVal .and .i64 a1 3 = 0 := by omega
              exact at_ (rw := [(.bin .and .i64 (.var 0) (.lit 15), .lit (.ofNat (nat_lit 4))), (.bin .and .i64 (.var 1) (.lit 3), .lit (.ofNat (nat_lit 0)))]) (iv := []) (fun x y hm => by
                simp only [List.mem_cons, List.not_mem_nil, or_false, Prod.mk.injEq] at hm
                rcases hm with ⟨rfl, rfl⟩ | ⟨rfl, rfl⟩
                · exact e0
                · exact e1
              ) (fun _ _ _ hm => by cases hm) r4_0 w hgl
            ·
              have e1 : opVal .and .i64 a1 3 = 1 := by omega
              exact at_ (rw := [(.bin .and .i64 (.var 0) (.lit 15), .lit (.ofNat (nat_lit 4))), (.bin .and .i64 (.var 1) (.lit 3), .lit (.ofNat (nat_lit 1)))]) (iv := []) (fun x y hm => by
                simp only [List.mem_cons, List.not_mem_nil, or_false, Prod.mk.injEq] at hm
                rcases hm with ⟨rfl, rfl⟩ | ⟨rfl, rfl⟩
                · exact e0
                · exact e1
              ) (fun _ _ _ hm => by cases hm) r4_1 w hgl
          ·
            by_cases q6 : opVal .and .i64 a1 3 < 3
            ·
              have e1 : opVal .and .i64 a1 3 = 2 := by omega
              exact at_ (rw := [(.bin .and .i64 (.var 0) (.lit 15), .lit (.ofNat (nat_lit 4))), (.bin .and .i64 (.var 1) (.lit 3), .lit (.ofNat (nat_lit 2)))]) (iv := []) (fun x y hm => by
                simp only [List.mem_cons, List.not_mem_nil, or_false, Prod.mk.injEq] at hm
                rcases hm with ⟨rfl, rfl⟩ | ⟨rfl, rfl⟩
                · exact e0
                · exact e1
              ) (fun _ _ _ hm => by cases hm) r4_2 w hgl
            ·
              have e1 : opVal .and .i64 a1 3 = 3 := by omega
              exact at_ (rw := [(.bin .and .i64 (.var 0) (.lit 15), .lit (.ofNat (nat_lit 4))), (.bin .and .i64 (.var 1) (.lit 3), .lit (.ofNat (nat_lit 3)))]) (iv := []) (fun x y hm => by
                simp only [List.mem_cons, List.not_mem_nil, or_false, Prod.mk.injEq] at hm
                rcases hm with ⟨rfl, rfl⟩ | ⟨rfl, rfl⟩
                · exact e0
                · exact e1
              ) (fun _ _ _ hm => by cases hm) r4_3 w hgl
        ·
          have e0 : opVal .and .i64 a0 15 = 5 := by omega
          have g1 := rng1 a1
          by_cases q5 : opVal .and .i64 a1 3 < 2
          ·
            by_cases q6 : opVal .and .i64 a1 3 < 1
            ·
              have e1 : opVal .and .i64 a1 3 = 0 := by omega
              exact at_ (rw := [(.bin .and .i64 (.var 0) (.lit 15), .lit (.ofNat (nat_lit 5))), (.bin .and .i64 (.var 1) (.lit 3), .lit (.ofNat (nat_lit 0)))]) (iv := []) (fun x y hm => by
                simp only [List.mem_cons, List.not_mem_nil, or_false, Prod.mk.injEq] at hm
                rcases hm with ⟨rfl, rfl⟩ | ⟨rfl, rfl⟩
                · exact e0
                · exact e1
              ) (fun _ _ _ hm => by cases hm) r5_0 w hgl
            ·
              have e1 : opVal .and .i64 a1 3 = 1 := by omega
              exact at_ (rw := [(.bin .and .i64 (.var 0) (.lit 15), .lit (.ofNat (nat_lit 5))), (.bin .and .i64 (.var 1) (.lit 3), .lit (.ofNat (nat_lit 1)))]) (iv := []) (fun x y hm => by
                simp only [List.mem_cons, List.not_mem_nil, or_false, Prod.mk.injEq] at hm
                rcases hm with ⟨rfl, rfl⟩ | ⟨rfl, rfl⟩
                · exact e0
                · exact e1
              ) (fun _ _ _ hm => by cases hm) r5_1 w hgl
          ·
            by_cases q6 : opVal .and .i64 a1 3 < 3
            ·
              have e1 : opVal .and .i64 a1 3 = 2 := by omega
              exact at_ (rw := [(.bin .and .i64 (.var 0) (.lit 15), .lit (.ofNat (nat_lit 5))), (.bin .and .i64 (.var 1) (.lit 3), .lit (.ofNat (nat_lit 2)))]) (iv := []) (fun x y hm => by
                simp only [List.mem_cons, List.not_mem_nil, or_false, Prod.mk.injEq] at hm
                rcases hm with ⟨rfl, rfl⟩ | ⟨rfl, rfl⟩
                · exact e0
                · exact e1
              ) (fun _ _ _ hm => by cases hm) r5_2 w hgl
            ·
              have e1 : opVal .and .i64 a1 3 = 3 := by omega
              exact at_ (rw := [(.bin .and .i64 (.var 0) (.lit 15), .lit (.ofNat (nat_lit 5))), (.bin .and .i64 (.var 1) (.lit 3), .lit (.ofNat (nat_lit 3)))]) (iv := []) (fun x y hm => by
                simp only [List.mem_cons, List.not_mem_nil, or_false, Prod.mk.injEq] at hm
                rcases hm with ⟨rfl, rfl⟩ | ⟨rfl, rfl⟩
                · exact e0
                · exact e1
              ) (fun _ _ _ hm => by cases hm) r5_3 w hgl
      ·
        by_cases q4 : opVal .and .i64 a0 15 < 7
        ·
          have e0 : opVal .and .i64 a0 15 = 6 := by omega
          have g1 := rng1 a1
          by_cases q5 : opVal .and .i64 a1 3 < 2
          ·
            by_cases q6 : opVal .and .i64 a1 3 < 1
            ·
              have e1 : opVal .and .i64 a1 3 = 0 := by omega
              exact at_ (rw := [(.bin .and .i64 (.var 0) (.lit 15), .lit (.ofNat (nat_lit 6))), (.bin .and .i64 (.var 1) (.lit 3), .lit (.ofNat (nat_lit 0)))]) (iv := []) (fun x y hm => by
                simp only [List.mem_cons, List.not_mem_nil, or_false, Prod.mk.injEq] at hm
                rcases hm with ⟨rfl, rfl⟩ | ⟨rfl, rfl⟩
                · exact e0
                · exact e1
              ) (fun _ _ _ hm => by cases hm) r6_0 w hgl
            ·
              have e1 : opVal .and .i64 a1 3 = 1 := by omega
              exact at_ (rw := [(.bin .and .i64 (.var 0) (.lit 15), .lit (.ofNat (nat_lit 6))), (.bin .and .i64 (.var 1) (.lit 3), .lit (.ofNat (nat_lit 1)))]) (iv := []) (fun x y hm => by
                simp only [List.mem_cons, List.not_mem_nil, or_false, Prod.mk.injEq] at hm
                rcases hm with ⟨rfl, rfl⟩ | ⟨rfl, rfl⟩
                · exact e0
                · exact e1
              ) (fun _ _ _ hm => by cases hm) r6_1 w hgl
          ·
            by_cases q6 : opVal .and .i64 a1 3 < 3
            ·
              have e1 : opVal .and .i64 a1 3 = 2 := by omega
              exact at_ (rw := [(.bin .and .i64 (.var 0) (.lit 15), .lit (.ofNat (nat_lit 6))), (.bin .and .i64 (.var 1) (.lit 3), .lit (.ofNat (nat_lit 2)))]) (iv := []) (fun x y hm => by
                simp only [List.mem_cons, List.not_mem_nil, or_false, Prod.mk.injEq] at hm
                rcases hm with ⟨rfl, rfl⟩ | ⟨rfl, rfl⟩
                · exact e0
                · exact e1
              ) (fun _ _ _ hm => by cases hm) r6_2 w hgl
            ·
              have e1 : opVal .and .i64 a1 3 = 3 := by omega
              exact at_ (rw := [(.bin .and .i64 (.var 0) (.lit 15), .lit (.ofNat (nat_lit 6))), (.bin .and .i64 (.var 1) (.lit 3), .lit (.ofNat (nat_lit 3)))]) (iv := []) (fun x y hm => by
                simp only [List.mem_cons, List.not_mem_nil, or_false, Prod.mk.injEq] at hm
                rcases hm with ⟨rfl, rfl⟩ | ⟨rfl, rfl⟩
                · exact e0
                · exact e1
              ) (fun _ _ _ hm => by cases hm) r6_3 w hgl
        ·
          have e0 : opVal .and .i64 a0 15 = 7 := by omega
          have g1 := rng1 a1
          by_cases q5 : opVal .and .i64 a1 3 < 2
          ·
            by_cases q6 : opVal .and .i64 a1 3 < 1
            ·
              have e1 : opVal .and .i64 a1 3 = 0 := by omega
              exact at_ (rw := [(.bin .and .i64 (.var 0) (.lit 15), .lit (.ofNat (nat_lit 7))), (.bin .and .i64 (.var 1) (.lit 3), .lit (.ofNat (nat_lit 0)))]) (iv := []) (fun x y hm => by
                simp only [List.mem_cons, List.not_mem_nil, or_false, Prod.mk.injEq] at hm
                rcases hm with ⟨rfl, rfl⟩ | ⟨rfl, rfl⟩
                · exact e0
                · exact e1
              ) (fun _ _ _ hm => by cases hm) r7_0 w hgl
            ·
              have e1 : opVal .and .i64 a1 3 = 1 := by omega
              exact at_ (rw := [(.bin .and .i64 (.var 0) (.lit 15), .lit (.ofNat (nat_lit 7))), (.bin .and .i64 (.var 1) (.lit 3), .lit (.ofNat (nat_lit 1)))]) (iv := []) (fun x y hm => by
                simp only [List.mem_cons, List.not_mem_nil, or_false, Prod.mk.injEq] at hm
                rcases hm with ⟨rfl, rfl⟩ | ⟨rfl, rfl⟩
                · exact e0
                · exact e1
              ) (fun _ _ _ hm => by cases hm) r7_1 w hgl
          ·
            by_cases q6 : opVal .and .i64 a1 3 < 3
            ·
              have e1 : opVal .and .i64 a1 3 = 2 := by omega
              exact at_ (rw := [(.bin .and .i64 (.var 0) (.lit 15), .lit (.ofNat (nat_lit 7))), (.bin .and .i64 (.var 1) (.lit 3), .lit (.ofNat (nat_lit 2)))]) (iv := []) (fun x y hm => by
                simp only [List.mem_cons, List.not_mem_nil, or_false, Prod.mk.injEq] at hm
                rcases hm with ⟨rfl, rfl⟩ | ⟨rfl, rfl⟩
                · exact e0
                · exact e1
              ) (fun _ _ _ hm => by cases hm) r7_2 w hgl
            ·
              have e1 : opVal .and .i64 a1 3 = 3 := by omega
              exact at_ (rw := [(.bin .and .i64 (.var 0) (.lit 15), .lit (.ofNat (nat_lit 7))), (.bin .and .i64 (.var 1) (.lit 3), .lit (.ofNat (nat_lit 3)))]) (iv := []) (fun x y hm => by
                simp only [List.mem_cons, List.not_mem_nil, or_false, Prod.mk.injEq] at hm
                rcases hm with ⟨rfl, rfl⟩ | ⟨rfl, rfl⟩
                · exact e0
                · exact e1
              ) (fun _ _ _ hm => by cases hm) r7_3 w hgl
  ·
    by_cases q2 : opVal .and .i64 a0 15 < 12
    ·
      by_cases q3 : opVal .and .i64 a0 15 < 10
      ·
        by_cases q4 : opVal .and .i64 a0 15 < 9
        ·
          have e0 : opVal .and .i64 a0 15 = 8 := by omega
          have g1 := rng1 a1
          by_cases q5 : opVal .and .i64 a1 3 < 2
          ·
            by_cases q6 : opVal .and .i64 a1 3 < 1
            ·
              have e1 : opVal .and .i64 a1 3 = 0 := by omega
              exact at_ (rw := [(.bin .and .i64 (.var 0) (.lit 15), .lit (.ofNat (nat_lit 8))), (.bin .and .i64 (.var 1) (.lit 3), .lit (.ofNat (nat_lit 0)))]) (iv := []) (fun x y hm => by
                simp only [List.mem_cons, List.not_mem_nil, or_false, Prod.mk.injEq] at hm
                rcases hm with ⟨rfl, rfl⟩ | ⟨rfl, rfl⟩
                · exact e0
                · exact e1
              ) (fun _ _ _ hm => by cases hm) r8_0 w hgl
            ·
              have e1 : opVal .and .i64 a1 3 = 1 := by omega
              exact at_ (rw := [(.bin .and .i64 (.var 0) (.lit 15), .lit (.ofNat (nat_lit 8))), (.bin .and .i64 (.var 1) (.lit 3), .lit (.ofNat (nat_lit 1)))]) (iv := []) (fun x y hm => by
                simp only [List.mem_cons, List.not_mem_nil, or_false, Prod.mk.injEq] at hm
                rcases hm with ⟨rfl, rfl⟩ | ⟨rfl, rfl⟩
                · exact e0
                · exact e1
              ) (fun _ _ _ hm => by cases hm) r8_1 w hgl
          ·
            by_cases q6 : opVal .and .i64 a1 3 < 3
            ·
              have e1 : opVal .and .i64 a1 3 = 2 := by omega
              exact at_ (rw := [(.bin .and .i64 (.var 0) (.lit 15), .lit (.ofNat (nat_lit 8))), (.bin .and .i64 (.var 1) (.lit 3), .lit (.ofNat (nat_lit 2)))]) (iv := []) (fun x y hm => by
                simp only [List.mem_cons, List.not_mem_nil, or_false, Prod.mk.injEq] at hm
                rcases hm with ⟨rfl, rfl⟩ | ⟨rfl, rfl⟩
                · exact e0
                · exact e1
              ) (fun _ _ _ hm => by cases hm) r8_2 w hgl
            ·
              have e1 : opVal .and .i64 a1 3 = 3 := by omega
              exact at_ (rw := [(.bin .and .i64 (.var 0) (.lit 15), .lit (.ofNat (nat_lit 8))), (.bin .and .i64 (.var 1) (.lit 3), .lit (.ofNat (nat_lit 3)))]) (iv := []) (fun x y hm => by
                simp only [List.mem_cons, List.not_mem_nil, or_false, Prod.mk.injEq] at hm
                rcases hm with ⟨rfl, rfl⟩ | ⟨rfl, rfl⟩
                · exact e0
                · exact e1
              ) (fun _ _ _ hm => by cases hm) r8_3 w hgl
        ·
          have e0 : opVal .and .i64 a0 15 = 9 := by omega
          have g1 := rng1 a1
          by_cases q5 : opVal .and .i64 a1 3 < 2
          ·
            by_cases q6 : opVal .and .i64 a1 3 < 1
            ·
              have e1 : opVal .and .i64 a1 3 = 0 := by omega
              exact at_ (rw := [(.bin .and .i64 (.var 0) (.lit 15), .lit (.ofNat (nat_lit 9))), (.bin .and .i64 (.var 1) (.lit 3), .lit (.ofNat (nat_lit 0)))]) (iv := []) (fun x y hm => by
                simp only [List.mem_cons, List.not_mem_nil, or_false, Prod.mk.injEq] at hm
                rcases hm with ⟨rfl, rfl⟩ | ⟨rfl, rfl⟩
                · exact e0
                · exact e1
              ) (fun _ _ _ hm => by cases hm) r9_0 w hgl
            ·
              have e1 : opVal .and .i64 a1 3 = 1 := by omega
              exact at_ (rw := [(.bin .and .i64 (.var 0) (.lit 15), .lit (.ofNat (nat_lit 9))), (.bin .and .i64 (.var 1) (.lit 3), .lit (.ofNat (nat_lit 1)))]) (iv := []) (fun x y hm => by
                simp only [List.mem_cons, List.not_mem_nil, or_false, Prod.mk.injEq] at hm
                rcases hm with ⟨rfl, rfl⟩ | ⟨rfl, rfl⟩
                · exact e0
                · exact e1
              ) (fun _ _ _ hm => by cases hm) r9_1 w hgl
          ·
            by_cases q6 : opVal .and .i64 a1 3 < 3
            ·
              have e1 : opVal .and .i64 a1 3 = 2 := by omega
              exact at_ (rw := [(.bin .and .i64 (.var 0) (.lit 15), .lit (.ofNat (nat_lit 9))), (.bin .and .i64 (.var 1) (.lit 3), .lit (.ofNat (nat_lit 2)))]) (iv := []) (fun x y hm => by
                simp only [List.mem_cons, List.not_mem_nil, or_false, Prod.mk.injEq] at hm
                rcases hm with ⟨rfl, rfl⟩ | ⟨rfl, rfl⟩
                · exact e0
                · exact e1
              ) (fun _ _ _ hm => by cases hm) r9_2 w hgl
            ·
              have e1 : opVal .and .i64 a1 3 = 3 := by omega
              exact at_ (rw := [(.bin .and .i64 (.var 0) (.lit 15), .lit (.ofNat (nat_lit 9))), (.bin .and .i64 (.var 1) (.lit 3), .lit (.ofNat (nat_lit 3)))]) (iv := []) (fun x y hm => by
                simp only [List.mem_cons, List.not_mem_nil, or_false, Prod.mk.injEq] at hm
                rcases hm with ⟨rfl, rfl⟩ | ⟨rfl, rfl⟩
                · exact e0
                · exact e1
              ) (fun _ _ _ hm => by cases hm) r9_3 w hgl
      ·
        by_cases q4 : opVal .and .i64 a0 15 < 11
        ·
          have e0 : opVal .and .i64 a0 15 = 10 := by omega
          have g1 := rng1 a1
          by_cases q5 : opVal .and .i64 a1 3 < 2
          ·
            by_cases q6 : opVal .and .i64 a1 3 < 1
            ·
              have e1 : opVal .and .i64 a1 3 = 0 := by omega
              exact at_ (rw := [(.bin .and .i64 (.var 0) (.lit 15), .lit (.ofNat (nat_lit 10))), (.bin .and .i64 (.var 1) (.lit 3), .lit (.ofNat (nat_lit 0)))]) (iv := []) (fun x y hm => by
                simp only [List.mem_cons, List.not_mem_nil, or_false, Prod.mk.injEq] at hm
                rcases hm with ⟨rfl, rfl⟩ | ⟨rfl, rfl⟩
                · exact e0
                · exact e1
              ) (fun _ _ _ hm => by cases hm) r10_0 w hgl
            ·
              have e1 : opVal .and .i64 a1 3 = 1 := by omega
              exact at_ (rw := [(.bin .and .i64 (.var 0) (.lit 15), .lit (.ofNat (nat_lit 10))), (.bin .and .i64 (.var 1) (.lit 3), .lit (.ofNat (nat_lit 1)))]) (iv := []) (fun x y hm => by
                simp only [List.mem_cons, List.not_mem_nil, or_false, Prod.mk.injEq] at hm
                rcases hm with ⟨rfl, rfl⟩ | ⟨rfl, rfl⟩
                · exact e0
                · exact e1
              ) (fun _ _ _ hm => by cases hm) r10_1 w hgl
          ·
            by_cases q6 : opVal .and .i64 a1 3 < 3
            ·
              have e1 : opVal .and .i64 a1 3 = 2 := by omega
              exact at_ (rw := [(.bin .and .i64 (.var 0) (.lit 15), .lit (.ofNat (nat_lit 10))), (.bin .and .i64 (.var 1) (.lit 3), .lit (.ofNat (nat_lit 2)))]) (iv := []) (fun x y hm => by
                simp only [List.mem_cons, List.not_mem_nil, or_false, Prod.mk.injEq] at hm
                rcases hm with ⟨rfl, rfl⟩ | ⟨rfl, rfl⟩
                · exact e0
                · exact e1
              ) (fun _ _ _ hm => by cases hm) r10_2 w hgl
            ·
              have e1 : opVal .and .i64 a1 3 = 3 := by omega
              exact at_ (rw := [(.bin .and .i64 (.var 0) (.lit 15), .lit (.ofNat (nat_lit 10))), (.bin .and .i64 (.var 1) (.lit 3), .lit (.ofNat (nat_lit 3)))]) (iv := []) (fun x y hm => by
                simp only [List.mem_cons, List.not_mem_nil, or_false, Prod.mk.injEq] at hm
                rcases hm with ⟨rfl, rfl⟩ | ⟨rfl, rfl⟩
                · exact e0
                · exact e1
              ) (fun _ _ _ hm => by cases hm) r10_3 w hgl
        ·
          have e0 : opVal .and .i64 a0 15 = 11 := by omega
          have g1 := rng1 a1
          by_cases q5 : opVal .and .i64 a1 3 < 2
          ·
            by_cases q6 : opVal .and .i64 a1 3 < 1
            ·
              have e1 : opVal .and .i64 a1 3 = 0 := by omega
              exact at_ (rw := [(.bin .and .i64 (.var 0) (.lit 15), .lit (.ofNat (nat_lit 11))), (.bin .and .i64 (.var 1) (.lit 3), .lit (.ofNat (nat_lit 0)))]) (iv := []) (fun x y hm => by
                simp only [List.mem_cons, List.not_mem_nil, or_false, Prod.mk.injEq] at hm
                rcases hm with ⟨rfl, rfl⟩ | ⟨rfl, rfl⟩
                · exact e0
                · exact e1
              ) (fun _ _ _ hm => by cases hm) r11_0 w hgl
            ·
              have e1 : opVal .and .i64 a1 3 = 1 := by omega
              exact at_ (rw := [(.bin .and .i64 (.var 0) (.lit 15), .lit (.ofNat (nat_lit 11))), (.bin .and .i64 (.var 1) (.lit 3), .lit (.ofNat (nat_lit 1)))]) (iv := []) (fun x y hm => by
                simp only [List.mem_cons, List.not_mem_nil, or_false, Prod.mk.injEq] at hm
                rcases hm with ⟨rfl, rfl⟩ | ⟨rfl, rfl⟩
                · exact e0
                · exact e1
              ) (fun _ _ _ hm => by cases hm) r11_1 w hgl
          ·
            by_cases q6 : opVal .and .i64 a1 3 < 3
            ·
              have e1 : opVal .and .i64 a1 3 = 2 := by omega
              exact at_ (rw := [(.bin .and .i64 (.var 0) (.lit 15), .lit (.ofNat (nat_lit 11))), (.bin .and .i64 (.var 1) (.lit 3), .lit (.ofNat (nat_lit 2)))]) (iv := []) (fun x y hm => by
                simp only [List.mem_cons, List.not_mem_nil, or_false, Prod.mk.injEq] at hm
                rcases hm with ⟨rfl, rfl⟩ | ⟨rfl, rfl⟩
                · exact e0
                · exact e1
              ) (fun _ _ _ hm => by cases hm) r11_2 w hgl
            ·
              have e1 : opVal .and .i64 a1 3 = 3 := by omega
              exact at_ (rw := [(.bin .and .i64 (.var 0) (.lit 15), .lit (.ofNat (nat_lit 11))), (.bin .and .i64 (.var 1) (.lit 3), .lit (.ofNat (nat_lit 3)))]) (iv := []) (fun x y hm => by
                simp only [List.mem_cons, List.not_mem_nil, or_false, Prod.mk.injEq] at hm
                rcases hm with ⟨rfl, rfl⟩ | ⟨rfl, rfl⟩
                · exact e0
                · exact e1
              ) (fun _ _ _ hm => by cases hm) r11_3 w hgl
    ·
      by_cases q3 : opVal .and .i64 a0 15 < 14
      ·
        by_cases q4 : opVal .and .i64 a0 15 < 13
        ·
          have e0 : opVal .and .i64 a0 15 = 12 := by omega
          have g1 := rng1 a1
          by_cases q5 : opVal .and .i64 a1 3 < 2
          ·
            by_cases q6 : opVal .and .i64 a1 3 < 1
            ·
              have e1 : opVal .and .i64 a1 3 = 0 := by omega
              exact at_ (rw := [(.bin .and .i64 (.var 0) (.lit 15), .lit (.ofNat (nat_lit 12))), (.bin .and .i64 (.var 1) (.lit 3), .lit (.ofNat (nat_lit 0)))]) (iv := []) (fun x y hm => by
                simp only [List.mem_cons, List.not_mem_nil, or_false, Prod.mk.injEq] at hm
                rcases hm with ⟨rfl, rfl⟩ | ⟨rfl, rfl⟩
                · exact e0
                · exact e1
              ) (fun _ _ _ hm => by cases hm) r12_0 w hgl
            ·
              have e1 : opVal .and .i64 a1 3 = 1 := by omega
              exact at_ (rw := [(.bin .and .i64 (.var 0) (.lit 15), .lit (.ofNat (nat_lit 12))), (.bin .and .i64 (.var 1) (.lit 3), .lit (.ofNat (nat_lit 1)))]) (iv := []) (fun x y hm => by
                simp only [List.mem_cons, List.not_mem_nil, or_false, Prod.mk.injEq] at hm
                rcases hm with ⟨rfl, rfl⟩ | ⟨rfl, rfl⟩
                · exact e0
                · exact e1
              ) (fun _ _ _ hm => by cases hm) r12_1 w hgl
          ·
            by_cases q6 : opVal .and .i64 a1 3 < 3
            ·
              have e1 : opVal .and .i64 a1 3 = 2 := by omega
              exact at_ (rw := [(.bin .and .i64 (.var 0) (.lit 15), .lit (.ofNat (nat_lit 12))), (.bin .and .i64 (.var 1) (.lit 3), .lit (.ofNat (nat_lit 2)))]) (iv := []) (fun x y hm => by
                simp only [List.mem_cons, List.not_mem_nil, or_false, Prod.mk.injEq] at hm
                rcases hm with ⟨rfl, rfl⟩ | ⟨rfl, rfl⟩
                · exact e0
                · exact e1
              ) (fun _ _ _ hm => by cases hm) r12_2 w hgl
            ·
              have e1 : opVal .and .i64 a1 3 = 3 := by omega
              exact at_ (rw := [(.bin .and .i64 (.var 0) (.lit 15), .lit (.ofNat (nat_lit 12))), (.bin .and .i64 (.var 1) (.lit 3), .lit (.ofNat (nat_lit 3)))]) (iv := []) (fun x y hm => by
                simp only [List.mem_cons, List.not_mem_nil, or_false, Prod.mk.injEq] at hm
                rcases hm with ⟨rfl, rfl⟩ | ⟨rfl, rfl⟩
                · exact e0
                · exact e1
              ) (fun _ _ _ hm => by cases hm) r12_3 w hgl
        ·
          have e0 : opVal .and .i64 a0 15 = 13 := by omega
          have g1 := rng1 a1
          by_cases q5 : opVal .and .i64 a1 3 < 2
          ·
            by_cases q6 : opVal .and .i64 a1 3 < 1
            ·
              have e1 : opVal .and .i64 a1 3 = 0 := by omega
              exact at_ (rw := [(.bin .and .i64 (.var 0) (.lit 15), .lit (.ofNat (nat_lit 13))), (.bin .and .i64 (.var 1) (.lit 3), .lit (.ofNat (nat_lit 0)))]) (iv := []) (fun x y hm => by
                simp only [List.mem_cons, List.not_mem_nil, or_false, Prod.mk.injEq] at hm
                rcases hm with ⟨rfl, rfl⟩ | ⟨rfl, rfl⟩
                · exact e0
                · exact e1
              ) (fun _ _ _ hm => by cases hm) r13_0 w hgl
            ·
              have e1 : opVal .and .i64 a1 3 = 1 := by omega
              exact at_ (rw := [(.bin .and .i64 (.var 0) (.lit 15), .lit (.ofNat (nat_lit 13))), (.bin .and .i64 (.var 1) (.lit 3), .lit (.ofNat (nat_lit 1)))]) (iv := []) (fun x y hm => by
                simp only [List.mem_cons, List.not_mem_nil, or_false, Prod.mk.injEq] at hm
                rcases hm with ⟨rfl, rfl⟩ | ⟨rfl, rfl⟩
                · exact e0
                · exact e1
              ) (fun _ _ _ hm => by cases hm) r13_1 w hgl
          ·
            by_cases q6 : opVal .and .i64 a1 3 < 3
            ·
              have e1 : opVal .and .i64 a1 3 = 2 := by omega
              exact at_ (rw := [(.bin .and .i64 (.var 0) (.lit 15), .lit (.ofNat (nat_lit 13))), (.bin .and .i64 (.var 1) (.lit 3), .lit (.ofNat (nat_lit 2)))]) (iv := []) (fun x y hm => by
                simp only [List.mem_cons, List.not_mem_nil, or_false, Prod.mk.injEq] at hm
                rcases hm with ⟨rfl, rfl⟩ | ⟨rfl, rfl⟩
                · exact e0
                · exact e1
              ) (fun _ _ _ hm => by cases hm) r13_2 w hgl
            ·
              have e1 : opVal .and .i64 a1 3 = 3 := by omega
              exact at_ (rw := [(.bin .and .i64 (.var 0) (.lit 15), .lit (.ofNat (nat_lit 13))), (.bin .and .i64 (.var 1) (.lit 3), .lit (.ofNat (nat_lit 3)))]) (iv := []) (fun x y hm => by
                simp only [List.mem_cons, List.not_mem_nil, or_false, Prod.mk.injEq] at hm
                rcases hm with ⟨rfl, rfl⟩ | ⟨rfl, rfl⟩
                · exact e0
                · exact e1
              ) (fun _ _ _ hm => by cases hm) r13_3 w hgl
      ·
        by_cases q4 : opVal .and .i64 a0 15 < 15
        ·
          have e0 : opVal .and .i64 a0 15 = 14 := by omega
          have g1 := rng1 a1
          by_cases q5 : opVal .and .i64 a1 3 < 2
          ·
            by_cases q6 : opVal .and .i64 a1 3 < 1
            ·
              have e1 : opVal .and .i64 a1 3 = 0 := by omega
              exact at_ (rw := [(.bin .and .i64 (.var 0) (.lit 15), .lit (.ofNat (nat_lit 14))), (.bin .and .i64 (.var 1) (.lit 3), .lit (.ofNat (nat_lit 0)))]) (iv := []) (fun x y hm => by
                simp only [List.mem_cons, List.not_mem_nil, or_false, Prod.mk.injEq] at hm
                rcases hm with ⟨rfl, rfl⟩ | ⟨rfl, rfl⟩
                · exact e0
                · exact e1
              ) (fun _ _ _ hm => by cases hm) r14_0 w hgl
            ·
              have e1 : opVal .and .i64 a1 3 = 1 := by omega
              exact at_ (rw := [(.bin .and .i64 (.var 0) (.lit 15), .lit (.ofNat (nat_lit 14))), (.bin .and .i64 (.var 1) (.lit 3), .lit (.ofNat (nat_lit 1)))]) (iv := []) (fun x y hm => by
                simp only [List.mem_cons, List.not_mem_nil, or_false, Prod.mk.injEq] at hm
                rcases hm with ⟨rfl, rfl⟩ | ⟨rfl, rfl⟩
                · exact e0
                · exact e1
              ) (fun _ _ _ hm => by cases hm) r14_1 w hgl
          ·
            by_cases q6 : opVal .and .i64 a1 3 < 3
            ·
              have e1 : opVal .and .i64 a1 3 = 2 := by omega
              exact at_ (rw := [(.bin .and .i64 (.var 0) (.lit 15), .lit (.ofNat (nat_lit 14))), (.bin .and .i64 (.var 1) (.lit 3), .lit (.ofNat (nat_lit 2)))]) (iv := []) (fun x y hm => by
                simp only [List.mem_cons, List.not_mem_nil, or_false, Prod.mk.injEq] at hm
                rcases hm with ⟨rfl, rfl⟩ | ⟨rfl, rfl⟩
                · exact e0
                · exact e1
              ) (fun _ _ _ hm => by cases hm) r14_2 w hgl
            ·
              have e1 : opVal .and .i64 a1 3 = 3 := by omega
              exact at_ (rw := [(.bin .and .i64 (.var 0) (.lit 15), .lit (.ofNat (nat_lit 14))), (.bin .and .i64 (.var 1) (.lit 3), .lit (.ofNat (nat_lit 3)))]) (iv := []) (fun x y hm => by
                simp only [List.mem_cons, List.not_mem_nil, or_false, Prod.mk.injEq] at hm
                rcases hm with ⟨rfl, rfl⟩ | ⟨rfl, rfl⟩
                · exact e0
                · exact e1
              ) (fun _ _ _ hm => by cases hm) r14_3 w hgl
        ·
          have e0 : opVal .and .i64 a0 15 = 15 := by omega
          have g1 := rng1 a1
          by_cases q5 : opVal .and .i64 a1 3 < 2
          ·
            by_cases q6 : opVal .and .i64 a1 3 < 1
            ·
              have e1 : opVal .and .i64 a1 3 = 0 := by omega
              exact at_ (rw := [(.bin .and .i64 (.var 0) (.lit 15), .lit (.ofNat (nat_lit 15))), (.bin .and .i64 (.var 1) (.lit 3), .lit (.ofNat (nat_lit 0)))]) (iv := []) (fun x y hm => by
                simp only [List.mem_cons, List.not_mem_nil, or_false, Prod.mk.injEq] at hm
                rcases hm with ⟨rfl, rfl⟩ | ⟨rfl, rfl⟩
                · exact e0
                · exact e1
              ) (fun _ _ _ hm => by cases hm) r15_0 w hgl
            ·
              have e1 : opVal .and .i64 a1 3 = 1 := by omega
              exact at_ (rw := [(.bin .and .i64 (.var 0) (.lit 15), .lit (.ofNat (nat_lit 15))), (.bin .and .i64 (.var 1) (.lit 3), .lit (.ofNat (nat_lit 1)))]) (iv := []) (fun x y hm => by
                simp only [List.mem_cons, List.not_mem_nil, or_false, Prod.mk.injEq] at hm
                rcases hm with ⟨rfl, rfl⟩ | ⟨rfl, rfl⟩
                · exact e0
                · exact e1
              ) (fun _ _ _ hm => by cases hm) r15_1 w hgl
          ·
            by_cases q6 : opVal .and .i64 a1 3 < 3
            ·
              have e1 : opVal .and .i64 a1 3 = 2 := by omega
              exact at_ (rw := [(.bin .and .i64 (.var 0) (.lit 15), .lit (.ofNat (nat_lit 15))), (.bin .and .i64 (.var 1) (.lit 3), .lit (.ofNat (nat_lit 2)))]) (iv := []) (fun x y hm => by
                simp only [List.mem_cons, List.not_mem_nil, or_false, Prod.mk.injEq] at hm
                rcases hm with ⟨rfl, rfl⟩ | ⟨rfl, rfl⟩
                · exact e0
                · exact e1
              ) (fun _ _ _ hm => by cases hm) r15_2 w hgl
            ·
              have e1 : opVal .and .i64 a1 3 = 3 := by omega
              exact at_ (rw := [(.bin .and .i64 (.var 0) (.lit 15), .lit (.ofNat (nat_lit 15))), (.bin .and .i64 (.var 1) (.lit 3), .lit (.ofNat (nat_lit 3)))]) (iv := []) (fun x y hm => by
                simp only [List.mem_cons, List.not_mem_nil, or_false, Prod.mk.injEq] at hm
                rcases hm with ⟨rfl, rfl⟩ | ⟨rfl, rfl⟩
                · exact e0
                · exact e1
              ) (fun _ _ _ hm => by cases hm) r15_3 w hgl

/-! ### THE ROW's STEP: WRITTEN OUT: LEAVE IT -/
set_option maxRecDepth 100000 in
theorem lifted (os : Os) (started : os.Started) (H : Type) (enc : TypeId × Value → H) :
    ReturnsInHanded {} Try.checked os 6 .any (Rows.schedDeadSpec.pre6 enc Try.prog Try.f6 Rows.schedDeadRow.domain false) (Rows.schedDeadSpec.post enc Try.prog Try.f6 false true false false) := by
  refine returnsInHanded_of_change (C := Try.checked) own started (by kernel_rfl) Try.func6
    (ChangeSpec.witness6 (enc := enc) (C := Try.checked) false ⟨#[], #[.int .i64 0, .int .i64 0], []⟩ 8 (by kernel_rfl) (by kernel_rfl) (by kernel_rfl) (by kernel_rfl)) ?_
  intro W base args ds gs before hval0 hW hcnd _
  have hval : ∀ (j : Nat) t v, Try.f6.params[j]? = some t → args[j]? = some v → Value.okWide Try.prog W .any base t v := hval0
  have hW' := hW
  obtain ⟨p, q, hA0, hV, rfl, hfz, hnd⟩ := hW
  have hA : DataW.TrodAll enc Try.prog W 0 (fun _ => true) true Try.f6.params.toList args.toList ds p := hA0
  rw [Try.params6] at hA hval
  obtain ⟨v0, vs0, d0, ds0, p0, q0, hargs, rfl, rfl, h0, r0⟩ := trodAll_cons hA
  obtain ⟨v1, vs1, d1, ds1, p1, q1, rfl, rfl, rfl, h1, r1⟩ := trodAll_cons r0
  obtain ⟨rfl, rfl, rfl⟩ := trodAll_nil r1
  obtain rfl : args = #[v0, v1] := by cases args; simp_all
  obtain ⟨rfl, rfl⟩ := trodVars_none hV
  obtain ⟨a0, rfl, rfl, rfl, w0⟩ := open_int Try.underlying3 (hval 0 3 v0 rfl rfl) h0
  obtain ⟨a1, rfl, rfl, rfl, w1⟩ := open_int Try.underlying3 (hval 1 3 v1 rfl rfl) h1
  clear hA0 hval0
  simp only [List.append_nil] at hW'
  refine (walk a0 a1 w0 w1 W).mono fun e W' ⟨he, hg⟩ => ?_
  subst he
  exact ⟨_, rfl, post_of_below (pa := []) (pv := []) hW' (fun _ _ _ => (trodAll_cons_mk (shut_bool Try.underlying4 _) trodAll_mk0)) (fun sp _ => (trodAll_cons_mk (shut_int Try.underlying3 w0) (trodAll_cons_mk (shut_int Try.underlying3 w1) trodAll_mk0))) (fun _ _ => rfl) rfl
    hg (ok_one (by kernel_rfl) rfl (okWide_bool_mk Try.underlying4 _))⟩

theorem over : Rows.schedDeadRow.holds Try.pinned (OpenSpec.ofChange Rows.schedDeadSpec) :=
  OpenClaim.holds_of_wide 6 Try.f6 rfl rfl rfl rfl rfl rfl rfl ⟨rfl, rfl, rfl, rfl, rfl⟩ rfl rfl rfl rfl rfl (by kernel_rfl) Try.func6 (by kernel_rfl)
    (of_decide_eq_true (by kernel_rfl)) (by unfold Func.isWrapper; first | (rw [if_pos (by decide +kernel)]; kernel_rfl) | (rw [if_neg (by decide +kernel)]; exact ⟨rfl, rfl⟩))
    (fun os started H enc _ => lifted os started H enc)

/-- ████ THE STATEMENT ████ -/
theorem proved : Rows.SchedDeadSaid :=
  over
#print axioms proved
end Go.Proofs.Ytmnfeljfemobkaa.schedDead
