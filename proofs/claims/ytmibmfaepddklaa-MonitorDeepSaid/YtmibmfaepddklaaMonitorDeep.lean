/- gneiss/gneisslaw20.MonitorDeep answers true at every input, and leaves its arguments as they were. No conditions. -/
import Derived.Test.YtmibmfaepddklaaRows
import Derived.WalkKit
import Derived.ProofKit
import Derived.OpenShut
import Derived.Below
import Derived.ChangeSame
import Derived.Test.YtmibmfaepddklaaMonitorDeepR0
import Derived.Test.YtmibmfaepddklaaMonitorDeepR1
import Derived.Test.YtmibmfaepddklaaMonitorDeepR2
import Derived.Test.YtmibmfaepddklaaMonitorDeepR3
import Derived.Test.YtmibmfaepddklaaMonitorDeepR4
import Derived.Test.YtmibmfaepddklaaMonitorDeepR5
import Derived.Test.YtmibmfaepddklaaMonitorDeepR6
import Derived.Test.YtmibmfaepddklaaMonitorDeepR7
import Derived.Test.YtmibmfaepddklaaMonitorDeepR8
import Derived.Test.YtmibmfaepddklaaMonitorDeepR9
import Derived.Test.YtmibmfaepddklaaMonitorDeepR10
import Derived.Test.YtmibmfaepddklaaMonitorDeepR11
import Derived.Test.YtmibmfaepddklaaMonitorDeepR12
import Derived.Test.YtmibmfaepddklaaMonitorDeepR13
import Derived.Test.YtmibmfaepddklaaMonitorDeepR14
import Derived.Test.YtmibmfaepddklaaMonitorDeepR15
namespace Go.Proofs.Ytmibmfaepddklaa.monitorDeep
open Go.Ai Go.ChangeShapes Go.WideShapes Go.ChangeAt Go.RowKit
set_option linter.unusedVariables false

theorem own : ownKnob Try.prog.godebug = none := by kernel_rfl

section
variable {H : Type} {enc : TypeId × Value → H} {P : Program}
theorem post_of_below {f : Func} {s : ChangeSpec} {apart fresh handsOn again : Bool} {W W' : World} {args : Array Value} {v : Value} {ds gs : List (DataW H)} {before pa pv : List MemPlace}
    (hW : DataW.Whole enc P f.params.toList s.vars apart W args.toList ds gs before)
    (hres : ∀ (b : Nat) (sp : Nat → Bool) (hd : Bool), DataW.TrodAll enc P W' b sp hd f.resultTypes.toList (v.resultList f.resultTypes.size) (s.fn H (ds ++ gs)).results [])
    (hargs : ∀ sp : Nat → Bool, (∀ p ∈ before, sp p.block = true) → DataW.TrodAll enc P W' 0 sp true f.params.toList args.toList (s.fn H (ds ++ gs)).args pa)
    (hvars : ∀ sp : Nat → Bool, (∀ p ∈ before, sp p.block = true) → DataW.TrodVars enc P W' sp s.vars (s.fn H (ds ++ gs)).vars pv)
    (hps : before = pa ++ pv) (hb : Below W.heap.size W W')
    (hok : ∀ (j : Nat) (t : TypeId) (r : Value), f.resultTypes[j]? = some t → (v.resultList f.resultTypes.size)[j]? = some r → Value.okWide P W' .any 0 t r) :
    s.post enc P f apart fresh handsOn again W args v W' := by
  have hlt : ∀ p ∈ before, p.block < W.heap.size := fun p hp => hW.lt p hp
  have hold : ∀ p ∈ before, (fun b => decide (b < W.heap.size)) p.block = true := fun p hp => by simpa using hlt p hp
  refine ⟨ds, gs, before, [], pa, pv, hW, hres _ _ _, hargs _ hold, hvars _ hold, World.keptBut_mono (fun p hp => ⟨hp, ?_⟩) (hb.frame (· ∈ before)), fun _ => ?_⟩
  · rw [hps, List.mem_append] at hp
    exact Or.inr hp
  · obtain ⟨_, _, _, _, _, hz, hn⟩ := hW
    refine ⟨hok, _, _, ([] ++ pa) ++ pv, ⟨[] ++ pa, pv, trodAll_append (hargs _ (fun _ _ => rfl)) (hres _ _ _), hvars _ (fun _ _ => rfl), rfl, ?_, ?_⟩, ?_⟩
    · intro b off hp
      have hin : MemPlace.cell b off ∈ before := by rw [hps]; simpa using hp
      rw [hb.frozen (hlt _ hin)]
      exact hz b off hin
    · intro ha
      have := hn ha
      rw [hps] at this
      simpa using this
    · intro p hp _
      rw [hps]
      simpa using hp
end
/-! ### the walk: by the abstract machine -/
theorem rng0 (a : Int) : 0 ≤ opVal .and .i64 a 63 ∧ opVal .and .i64 a 63 ≤ 63 := by
  have h : (BitVec.ofInt 64 a &&& BitVec.ofInt 64 63).toNat ≤ 63 := by
    rw [BitVec.toNat_and]
    exact Nat.and_le_right
  show 0 ≤ IntKind.wrap .i64 ((BitVec.ofInt 64 a &&& BitVec.ofInt 64 63).toNat : Int) ∧ IntKind.wrap .i64 ((BitVec.ofInt 64 a &&& BitVec.ofInt 64 63).toNat : Int) ≤ 63
  rw [IntKind.wrap_i64]
  omega
theorem rng1 (a : Int) : 0 ≤ opVal .and .i64 a 3 ∧ opVal .and .i64 a 3 ≤ 3 := by
  have h : (BitVec.ofInt 64 a &&& BitVec.ofInt 64 3).toNat ≤ 3 := by
    rw [BitVec.toNat_and]
    exact Nat.and_le_right
  show 0 ≤ IntKind.wrap .i64 ((BitVec.ofInt 64 a &&& BitVec.ofInt 64 3).toNat : Int) ∧ IntKind.wrap .i64 ((BitVec.ofInt 64 a &&& BitVec.ofInt 64 3).toNat : Int) ≤ 3
  rw [IntKind.wrap_i64]
  omega
theorem at_ {a0 : Int} {a1 : Int}  {rw : List (SI × SI)} {iv : List (SI × Int × Int)} (hr : ∀ x y, (x, y) ∈ rw → x.ev (fun i => if i = 0 then a0 else if i = 1 then a1 else 0) = y.ev (fun i => if i = 0 then a0 else if i = 1 then a1 else 0)) (hi : ∀ x lo hi, (x, lo, hi) ∈ iv → lo ≤ x.ev (fun i => if i = 0 then a0 else if i = 1 then a1 else 0) ∧ x.ev (fun i => if i = 0 then a0 else if i = 1 then a1 else 0) ≤ hi) (r : yes (run rw iv) = true) (w : World) : Calls Try.prog 3 #[.int .i64 a0, .int .i64 a1] w fun e w' => e = .returned (.bool true) ∧ Below w.heap.size w w' :=
  soundC comp.mixed comp.TOk (over := (overC 5)) (cf := ⟨rw, [], iv, fun _ _ _ => none⟩) (σ := fun i => if i = 0 then a0 else if i = 1 then a1 else 0) (xs := [.int .i64 a0, .int .i64 a1]) (fun _ h => overC_ok awakes h)
    ⟨hr, fun _ _ _ _ hm => (by cases hm), hi, fun _ _ _ _ hm => (by cases hm)⟩
    (.cons (.int .i64 (.var 0)) (.cons (.int .i64 (.var 1)) .nil)) r
theorem walk (a0 : Int) (a1 : Int) (w0 : (Lit.int .i64 a0).wf = true) (w1 : (Lit.int .i64 a1).wf = true) (w : World) :
    Calls Try.prog 3 #[.int .i64 a0, .int .i64 a1] w fun e w' => e = .returned (.bool true) ∧ Below w.heap.size w w' := by
  have g0 := rng0 a0
  by_cases q1 : opVal .and .i64 a0 63 < 32
  ·
    by_cases q2 : opVal .and .i64 a0 63 < 16
    ·
      by_cases q3 : opVal .and .i64 a0 63 < 8
      ·
        by_cases q4 : opVal .and .i64 a0 63 < 4
        ·
          by_cases q5 : opVal .and .i64 a0 63 < 2
          ·
            by_cases q6 : opVal .and .i64 a0 63 < 1
            ·
              have e0 : opVal .and .i64 a0 63 = 0 := by omega
              have g1 := rng1 a1
              by_cases q7 : opVal .and .i64 a1 3 < 2
              ·
                by_cases q8 : opVal .and .i64 a1 3 < 1
                ·
                  have e1 : opVal .and .i64 a1 3 = 0 := by omega
                  exact at_ (rw := [(.bin .and .i64 (.var 0) (.lit 63), .lit (.ofNat (nat_lit 0))), (.bin .and .i64 (.var 1) (.lit 3), .lit (.ofNat (nat_lit 0)))]) (iv := []) (fun x y hm => by
                    simp only [List.mem_cons, List.not_mem_nil, or_false, Prod.mk.injEq] at hm
                    rcases hm with ⟨rfl, rfl⟩ | ⟨rfl, rfl⟩
                    · exact e0
                    · exact e1
                  ) (fun _ _ _ hm => by cases hm) r0_0 w
                ·
                  have e1 : opVal .and .i64 a1 3 = 1 := by omega
                  exact at_ (rw := [(.bin .and .i64 (.var 0) (.lit 63), .lit (.ofNat (nat_lit 0))), (.bin .and .i64 (.var 1) (.lit 3), .lit (.ofNat (nat_lit 1)))]) (iv := []) (fun x y hm => by
                    simp only [List.mem_cons, List.not_mem_nil, or_false, Prod.mk.injEq] at hm
                    rcases hm with ⟨rfl, rfl⟩ | ⟨rfl, rfl⟩
                    · exact e0
                    · exact e1
                  ) (fun _ _ _ hm => by cases hm) r0_1 w
              ·
                by_cases q8 : opVal .and .i64 a1 3 < 3
                ·
                  have e1 : opVal .and .i64 a1 3 = 2 := by omega
                  exact at_ (rw := [(.bin .and .i64 (.var 0) (.lit 63), .lit (.ofNat (nat_lit 0))), (.bin .and .i64 (.var 1) (.lit 3), .lit (.ofNat (nat_lit 2)))]) (iv := []) (fun x y hm => by
                    simp only [List.mem_cons, List.not_mem_nil, or_false, Prod.mk.injEq] at hm
                    rcases hm with ⟨rfl, rfl⟩ | ⟨rfl, rfl⟩
                    · exact e0
                    · exact e1
                  ) (fun _ _ _ hm => by cases hm) r0_2 w
                ·
                  have e1 : opVal .and .i64 a1 3 = 3 := by omega
                  exact at_ (rw := [(.bin .and .i64 (.var 0) (.lit 63), .lit (.ofNat (nat_lit 0))), (.bin .and .i64 (.var 1) (.lit 3), .lit (.ofNat (nat_lit 3)))]) (iv := []) (fun x y hm => by
                    simp only [List.mem_cons, List.not_mem_nil, or_false, Prod.mk.injEq] at hm
                    rcases hm with ⟨rfl, rfl⟩ | ⟨rfl, rfl⟩
                    · exact e0
                    · exact e1
                  ) (fun _ _ _ hm => by cases hm) r0_3 w
            ·
              have e0 : opVal .and .i64 a0 63 = 1 := by omega
              have g1 := rng1 a1
              by_cases q7 : opVal .and .i64 a1 3 < 2
              ·
                by_cases q8 : opVal .and .i64 a1 3 < 1
                ·
                  have e1 : opVal .and .i64 a1 3 = 0 := by omega
                  exact at_ (rw := [(.bin .and .i64 (.var 0) (.lit 63), .lit (.ofNat (nat_lit 1))), (.bin .and .i64 (.var 1) (.lit 3), .lit (.ofNat (nat_lit 0)))]) (iv := []) (fun x y hm => by
                    simp only [List.mem_cons, List.not_mem_nil, or_false, Prod.mk.injEq] at hm
                    rcases hm with ⟨rfl, rfl⟩ | ⟨rfl, rfl⟩
                    · exact e0
                    · exact e1
                  ) (fun _ _ _ hm => by cases hm) r1_0 w
                ·
                  have e1 : opVal .and .i64 a1 3 = 1 := by omega
                  exact at_ (rw := [(.bin .and .i64 (.var 0) (.lit 63), .lit (.ofNat (nat_lit 1))), (.bin .and .i64 (.var 1) (.lit 3), .lit (.ofNat (nat_lit 1)))]) (iv := []) (fun x y hm => by
                    simp only [List.mem_cons, List.not_mem_nil, or_false, Prod.mk.injEq] at hm
                    rcases hm with ⟨rfl, rfl⟩ | ⟨rfl, rfl⟩
                    · exact e0
                    · exact e1
                  ) (fun _ _ _ hm => by cases hm) r1_1 w
              ·
                by_cases q8 : opVal .and .i64 a1 3 < 3
                ·
                  have e1 : opVal .and .i64 a1 3 = 2 := by omega
                  exact at_ (rw := [(.bin .and .i64 (.var 0) (.lit 63), .lit (.ofNat (nat_lit 1))), (.bin .and .i64 (.var 1) (.lit 3), .lit (.ofNat (nat_lit 2)))]) (iv := []) (fun x y hm => by
                    simp only [List.mem_cons, List.not_mem_nil, or_false, Prod.mk.injEq] at hm
                    rcases hm with ⟨rfl, rfl⟩ | ⟨rfl, rfl⟩
                    · exact e0
                    · exact e1
                  ) (fun _ _ _ hm => by cases hm) r1_2 w
                ·
                  have e1 : opVal .and .i64 a1 3 = 3 := by omega
                  exact at_ (rw := [(.bin .and .i64 (.var 0) (.lit 63), .lit (.ofNat (nat_lit 1))), (.bin .and .i64 (.var 1) (.lit 3), .lit (.ofNat (nat_lit 3)))]) (iv := []) (fun x y hm => by
                    simp only [List.mem_cons, List.not_mem_nil, or_false, Prod.mk.injEq] at hm
                    rcases hm with ⟨rfl, rfl⟩ | ⟨rfl, rfl⟩
                    · exact e0
                    · exact e1
                  ) (fun _ _ _ hm => by cases hm) r1_3 w
          ·
            by_cases q6 : opVal .and .i64 a0 63 < 3
            ·
              have e0 : opVal .and .i64 a0 63 = 2 := by omega
              have g1 := rng1 a1
              by_cases q7 : opVal .and .i64 a1 3 < 2
              ·
                by_cases q8 : opVal .and .i64 a1 3 < 1
                ·
                  have e1 : opVal .and .i64 a1 3 = 0 := by omega
                  exact at_ (rw := [(.bin .and .i64 (.var 0) (.lit 63), .lit (.ofNat (nat_lit 2))), (.bin .and .i64 (.var 1) (.lit 3), .lit (.ofNat (nat_lit 0)))]) (iv := []) (fun x y hm => by
                    simp only [List.mem_cons, List.not_mem_nil, or_false, Prod.mk.injEq] at hm
                    rcases hm with ⟨rfl, rfl⟩ | ⟨rfl, rfl⟩
                    · exact e0
                    · exact e1
                  ) (fun _ _ _ hm => by cases hm) r2_0 w
                ·
                  have e1 : opVal .and .i64 a1 3 = 1 := by omega
                  exact at_ (rw := [(.bin .and .i64 (.var 0) (.lit 63), .lit (.ofNat (nat_lit 2))), (.bin .and .i64 (.var 1) (.lit 3), .lit (.ofNat (nat_lit 1)))]) (iv := []) (fun x y hm => by
                    simp only [List.mem_cons, List.not_mem_nil, or_false, Prod.mk.injEq] at hm
                    rcases hm with ⟨rfl, rfl⟩ | ⟨rfl, rfl⟩
                    · exact e0
                    · exact e1
                  ) (fun _ _ _ hm => by cases hm) r2_1 w
              ·
                by_cases q8 : opVal .and .i64 a1 3 < 3
                ·
                  have e1 : opVal .and .i64 a1 3 = 2 := by omega
                  exact at_ (rw := [(.bin .and .i64 (.var 0) (.lit 63), .lit (.ofNat (nat_lit 2))), (.bin .and .i64 (.var 1) (.lit 3), .lit (.ofNat (nat_lit 2)))]) (iv := []) (fun x y hm => by
                    simp only [List.mem_cons, List.not_mem_nil, or_false, Prod.mk.injEq] at hm
                    rcases hm with ⟨rfl, rfl⟩ | ⟨rfl, rfl⟩
                    · exact e0
                    · exact e1
                  ) (fun _ _ _ hm => by cases hm) r2_2 w
                ·
                  have e1 : opVal .and .i64 a1 3 = 3 := by omega
                  exact at_ (rw := [(.bin .and .i64 (.var 0) (.lit 63), .lit (.ofNat (nat_lit 2))), (.bin .and .i64 (.var 1) (.lit 3), .lit (.ofNat (nat_lit 3)))]) (iv := []) (fun x y hm => by
                    simp only [List.mem_cons, List.not_mem_nil, or_false, Prod.mk.injEq] at hm
                    rcases hm with ⟨rfl, rfl⟩ | ⟨rfl, rfl⟩
                    · exact e0
                    · exact e1
                  ) (fun _ _ _ hm => by cases hm) r2_3 w
            ·
              have e0 : opVal .and .i64 a0 63 = 3 := by omega
              have g1 := rng1 a1
              by_cases q7 : opVal .and .i64 a1 3 < 2
              ·
                by_cases q8 : opVal .and .i64 a1 3 < 1
                ·
                  have e1 : opVal .and .i64 a1 3 = 0 := by omega
                  exact at_ (rw := [(.bin .and .i64 (.var 0) (.lit 63), .lit (.ofNat (nat_lit 3))), (.bin .and .i64 (.var 1) (.lit 3), .lit (.ofNat (nat_lit 0)))]) (iv := []) (fun x y hm => by
                    simp only [List.mem_cons, List.not_mem_nil, or_false, Prod.mk.injEq] at hm
                    rcases hm with ⟨rfl, rfl⟩ | ⟨rfl, rfl⟩
                    · exact e0
                    · exact e1
                  ) (fun _ _ _ hm => by cases hm) r3_0 w
                ·
                  have e1 : opVal .and .i64 a1 3 = 1 := by omega
                  exact at_ (rw := [(.bin .and .i64 (.var 0) (.lit 63), .lit (.ofNat (nat_lit 3))), (.bin .and .i64 (.var 1) (.lit 3), .lit (.ofNat (nat_lit 1)))]) (iv := []) (fun x y hm => by
                    simp only [List.mem_cons, List.not_mem_nil, or_false, Prod.mk.injEq] at hm
                    rcases hm with ⟨rfl, rfl⟩ | ⟨rfl, rfl⟩
                    · exact e0
                    · exact e1
                  ) (fun _ _ _ hm => by cases hm) r3_1 w
              ·
                by_cases q8 : opVal .and .i64 a1 3 < 3
                ·
                  have e1 : opVal .and .i64 a1 3 = 2 := by omega
                  exact at_ (rw := [(.bin .and .i64 (.var 0) (.lit 63), .lit (.ofNat (nat_lit 3))), (.bin .and .i64 (.var 1) (.lit 3), .lit (.ofNat (nat_lit 2)))]) (iv := []) (fun x y hm => by
                    simp only [List.mem_cons, List.not_mem_nil, or_false, Prod.mk.injEq] at hm
                    rcases hm with ⟨rfl, rfl⟩ | ⟨rfl, rfl⟩
                    · exact e0
                    · exact e1
                  ) (fun _ _ _ hm => by cases hm) r3_2 w
                ·
                  have e1 : opVal .and .i64 a1 3 = 3 := by omega
                  exact at_ (rw := [(.bin .and .i64 (.var 0) (.lit 63), .lit (.ofNat (nat_lit 3))), (.bin .and .i64 (.var 1) (.lit 3), .lit (.ofNat (nat_lit 3)))]) (iv := []) (fun x y hm => by
                    simp only [List.mem_cons, List.not_mem_nil, or_false, Prod.mk.injEq] at hm
                    rcases hm with ⟨rfl, rfl⟩ | ⟨rfl, rfl⟩
                    · exact e0
                    · exact e1
                  ) (fun _ _ _ hm => by cases hm) r3_3 w
        ·
          by_cases q5 : opVal .and .i64 a0 63 < 6
          ·
            by_cases q6 : opVal .and .i64 a0 63 < 5
            ·
              have e0 : opVal .and .i64 a0 63 = 4 := by omega
              have g1 := rng1 a1
              by_cases q7 : opVal .and .i64 a1 3 < 2
              ·
                by_cases q8 : opVal .and .i64 a1 3 < 1
                ·
                  have e1 : opVal .and .i64 a1 3 = 0 := by omega
                  exact at_ (rw := [(.bin .and .i64 (.var 0) (.lit 63), .lit (.ofNat (nat_lit 4))), (.bin .and .i64 (.var 1) (.lit 3), .lit (.ofNat (nat_lit 0)))]) (iv := []) (fun x y hm => by
                    simp only [List.mem_cons, List.not_mem_nil, or_false, Prod.mk.injEq] at hm
                    rcases hm with ⟨rfl, rfl⟩ | ⟨rfl, rfl⟩
                    · exact e0
                    · exact e1
                  ) (fun _ _ _ hm => by cases hm) r4_0 w
                ·
                  have e1 : opVal .and .i64 a1 3 = 1 := by omega
                  exact at_ (rw := [(.bin .and .i64 (.var 0) (.lit 63), .lit (.ofNat (nat_lit 4))), (.bin .and .i64 (.var 1) (.lit 3), .lit (.ofNat (nat_lit 1)))]) (iv := []) (fun x y hm => by
                    simp only [List.mem_cons, List.not_mem_nil, or_false, Prod.mk.injEq] at hm
                    rcases hm with ⟨rfl, rfl⟩ | ⟨rfl, rfl⟩
                    · exact e0
                    · exact e1
                  ) (fun _ _ _ hm => by cases hm) r4_1 w
              ·
                by_cases q8 : opVal .and .i64 a1 3 < 3
                ·
                  have e1 : opVal .and .i64 a1 3 = 2 := by omega
                  exact at_ (rw := [(.bin .and .i64 (.var 0) (.lit 63), .lit (.ofNat (nat_lit 4))), (.bin .and .i64 (.var 1) (.lit 3), .lit (.ofNat (nat_lit 2)))]) (iv := []) (fun x y hm => by
                    simp only [List.mem_cons, List.not_mem_nil, or_false, Prod.mk.injEq] at hm
                    rcases hm with ⟨rfl, rfl⟩ | ⟨rfl, rfl⟩
                    · exact e0
                    · exact e1
                  ) (fun _ _ _ hm => by cases hm) r4_2 w
                ·
                  have e1 : opVal .and .i64 a1 3 = 3 := by omega
                  exact at_ (rw := [(.bin .and .i64 (.var 0) (.lit 63), .lit (.ofNat (nat_lit 4))), (.bin .and .i64 (.var 1) (.lit 3), .lit (.ofNat (nat_lit 3)))]) (iv := []) (fun x y hm => by
                    simp only [List.mem_cons, List.not_mem_nil, or_false, Prod.mk.injEq] at hm
                    rcases hm with ⟨rfl, rfl⟩ | ⟨rfl, rfl⟩
                    · exact e0
                    · exact e1
                  ) (fun _ _ _ hm => by cases hm) r4_3 w
            ·
              have e0 : opVal .and .i64 a0 63 = 5 := by omega
              have g1 := rng1 a1
              by_cases q7 : opVal .and .i64 a1 3 < 2
              ·
                by_cases q8 : opVal .and .i64 a1 3 < 1
                ·
                  have e1 : opVal .and .i64 a1 3 = 0 := by omega
                  exact at_ (rw := [(.bin .and .i64 (.var 0) (.lit 63), .lit (.ofNat (nat_lit 5))), (.bin .and .i64 (.var 1) (.lit 3), .lit (.ofNat (nat_lit 0)))]) (iv := []) (fun x y hm => by
                    simp only [List.mem_cons, List.not_mem_nil, or_false, Prod.mk.injEq] at hm
                    rcases hm with ⟨rfl, rfl⟩ | ⟨rfl, rfl⟩
                    · exact e0
                    · exact e1
                  ) (fun _ _ _ hm => by cases hm) r5_0 w
                ·
                  have e1 : opVal .and .i64 a1 3 = 1 := by omega
                  exact at_ (rw := [(.bin .and .i64 (.var 0) (.lit 63), .lit (.ofNat (nat_lit 5))), (.bin .and .i64 (.var 1) (.lit 3), .lit (.ofNat (nat_lit 1)))]) (iv := []) (fun x y hm => by
                    simp only [List.mem_cons, List.not_mem_nil, or_false, Prod.mk.injEq] at hm
                    rcases hm with ⟨rfl, rfl⟩ | ⟨rfl, rfl⟩
                    · exact e0
                    · exact e1
                  ) (fun _ _ _ hm => by cases hm) r5_1 w
              ·
                by_cases q8 : opVal .and .i64 a1 3 < 3
                ·
                  have e1 : opVal .and .i64 a1 3 = 2 := by omega
                  exact at_ (rw := [(.bin .and .i64 (.var 0) (.lit 63), .lit (.ofNat (nat_lit 5))), (.bin .and .i64 (.var 1) (.lit 3), .lit (.ofNat (nat_lit 2)))]) (iv := []) (fun x y hm => by
                    simp only [List.mem_cons, List.not_mem_nil, or_false, Prod.mk.injEq] at hm
                    rcases hm with ⟨rfl, rfl⟩ | ⟨rfl, rfl⟩
                    · exact e0
                    · exact e1
                  ) (fun _ _ _ hm => by cases hm) r5_2 w
                ·
                  have e1 : opVal .and .i64 a1 3 = 3 := by omega
                  exact at_ (rw := [(.bin .and .i64 (.var 0) (.lit 63), .lit (.ofNat (nat_lit 5))), (.bin .and .i64 (.var 1) (.lit 3), .lit (.ofNat (nat_lit 3)))]) (iv := []) (fun x y hm => by
                    simp only [List.mem_cons, List.not_mem_nil, or_false, Prod.mk.injEq] at hm
                    rcases hm with ⟨rfl, rfl⟩ | ⟨rfl, rfl⟩
                    · exact e0
                    · exact e1
                  ) (fun _ _ _ hm => by cases hm) r5_3 w
          ·
            by_cases q6 : opVal .and .i64 a0 63 < 7
            ·
              have e0 : opVal .and .i64 a0 63 = 6 := by omega
              have g1 := rng1 a1
              by_cases q7 : opVal .and .i64 a1 3 < 2
              ·
                by_cases q8 : opVal .and .i64 a1 3 < 1
                ·
                  have e1 : opVal .and .i64 a1 3 = 0 := by omega
                  exact at_ (rw := [(.bin .and .i64 (.var 0) (.lit 63), .lit (.ofNat (nat_lit 6))), (.bin .and .i64 (.var 1) (.lit 3), .lit (.ofNat (nat_lit 0)))]) (iv := []) (fun x y hm => by
                    simp only [List.mem_cons, List.not_mem_nil, or_false, Prod.mk.injEq] at hm
                    rcases hm with ⟨rfl, rfl⟩ | ⟨rfl, rfl⟩
                    · exact e0
                    · exact e1
                  ) (fun _ _ _ hm => by cases hm) r6_0 w
                ·
                  have e1 : opVal .and .i64 a1 3 = 1 := by omega
                  exact at_ (rw := [(.bin .and .i64 (.var 0) (.lit 63), .lit (.ofNat (nat_lit 6))), (.bin .and .i64 (.var 1) (.lit 3), .lit (.ofNat (nat_lit 1)))]) (iv := []) (fun x y hm => by
                    simp only [List.mem_cons, List.not_mem_nil, or_false, Prod.mk.injEq] at hm
                    rcases hm with ⟨rfl, rfl⟩ | ⟨rfl, rfl⟩
                    · exact e0
                    · exact e1
                  ) (fun _ _ _ hm => by cases hm) r6_1 w
              ·
                by_cases q8 : opVal .and .i64 a1 3 < 3
                ·
                  have e1 : opVal .and .i64 a1 3 = 2 := by omega
                  exact at_ (rw := [(.bin .and .i64 (.var 0) (.lit 63), .lit (.ofNat (nat_lit 6))), (.bin .and .i64 (.var 1) (.lit 3), .lit (.ofNat (nat_lit 2)))]) (iv := []) (fun x y hm => by
                    simp only [List.mem_cons, List.not_mem_nil, or_false, Prod.mk.injEq] at hm
                    rcases hm with ⟨rfl, rfl⟩ | ⟨rfl, rfl⟩
                    · exact e0
                    · exact e1
                  ) (fun _ _ _ hm => by cases hm) r6_2 w
                ·
                  have e1 : opVal .and .i64 a1 3 = 3 := by omega
                  exact at_ (rw := [(.bin .and .i64 (.var 0) (.lit 63), .lit (.ofNat (nat_lit 6))), (.bin .and .i64 (.var 1) (.lit 3), .lit (.ofNat (nat_lit 3)))]) (iv := []) (fun x y hm => by
                    simp only [List.mem_cons, List.not_mem_nil, or_false, Prod.mk.injEq] at hm
                    rcases hm with ⟨rfl, rfl⟩ | ⟨rfl, rfl⟩
                    · exact e0
                    · exact e1
                  ) (fun _ _ _ hm => by cases hm) r6_3 w
            ·
              have e0 : opVal .and .i64 a0 63 = 7 := by omega
              have g1 := rng1 a1
              by_cases q7 : opVal .and .i64 a1 3 < 2
              ·
                by_cases q8 : opVal .and .i64 a1 3 < 1
                ·
                  have e1 : opVal .and .i64 a1 3 = 0 := by omega
                  exact at_ (rw := [(.bin .and .i64 (.var 0) (.lit 63), .lit (.ofNat (nat_lit 7))), (.bin .and .i64 (.var 1) (.lit 3), .lit (.ofNat (nat_lit 0)))]) (iv := []) (fun x y hm => by
                    simp only [List.mem_cons, List.not_mem_nil, or_false, Prod.mk.injEq] at hm
                    rcases hm with ⟨rfl, rfl⟩ | ⟨rfl, rfl⟩
                    · exact e0
                    · exact e1
                  ) (fun _ _ _ hm => by cases hm) r7_0 w
                ·
                  have e1 : opVal .and .i64 a1 3 = 1 := by omega
                  exact at_ (rw := [(.bin .and .i64 (.var 0) (.lit 63), .lit (.ofNat (nat_lit 7))), (.bin .and .i64 (.var 1) (.lit 3), .lit (.ofNat (nat_lit 1)))]) (iv := []) (fun x y hm => by
                    simp only [List.mem_cons, List.not_mem_nil, or_false, Prod.mk.injEq] at hm
                    rcases hm with ⟨rfl, rfl⟩ | ⟨rfl, rfl⟩
                    · exact e0
                    · exact e1
                  ) (fun _ _ _ hm => by cases hm) r7_1 w
              ·
                by_cases q8 : opVal .and .i64 a1 3 < 3
                ·
                  have e1 : opVal .and .i64 a1 3 = 2 := by omega
                  exact at_ (rw := [(.bin .and .i64 (.var 0) (.lit 63), .lit (.ofNat (nat_lit 7))), (.bin .and .i64 (.var 1) (.lit 3), .lit (.ofNat (nat_lit 2)))]) (iv := []) (fun x y hm => by
                    simp only [List.mem_cons, List.not_mem_nil, or_false, Prod.mk.injEq] at hm
                    rcases hm with ⟨rfl, rfl⟩ | ⟨rfl, rfl⟩
                    · exact e0
                    · exact e1
                  ) (fun _ _ _ hm => by cases hm) r7_2 w
                ·
                  have e1 : opVal .and .i64 a1 3 = 3 := by omega
                  exact at_ (rw := [(.bin .and .i64 (.var 0) (.lit 63), .lit (.ofNat (nat_lit 7))), (.bin .and .i64 (.var 1) (.lit 3), .lit (.ofNat (nat_lit 3)))]) (iv := []) (fun x y hm => by
                    simp only [List.mem_cons, List.not_mem_nil, or_false, Prod.mk.injEq] at hm
                    rcases hm with ⟨rfl, rfl⟩ | ⟨rfl, rfl⟩
                    · exact e0
                    · exact e1
                  ) (fun _ _ _ hm => by cases hm) r7_3 w
      ·
        by_cases q4 : opVal .and .i64 a0 63 < 12
        ·
          by_cases q5 : opVal .and .i64 a0 63 < 10
          ·
            by_cases q6 : opVal .and .i64 a0 63 < 9
            ·
              have e0 : opVal .and .i64 a0 63 = 8 := by omega
              have g1 := rng1 a1
              by_cases q7 : opVal .and .i64 a1 3 < 2
              ·
                by_cases q8 : opVal .and .i64 a1 3 < 1
                ·
                  have e1 : opVal .and .i64 a1 3 = 0 := by omega
                  exact at_ (rw := [(.bin .and .i64 (.var 0) (.lit 63), .lit (.ofNat (nat_lit 8))), (.bin .and .i64 (.var 1) (.lit 3), .lit (.ofNat (nat_lit 0)))]) (iv := []) (fun x y hm => by
                    simp only [List.mem_cons, List.not_mem_nil, or_false, Prod.mk.injEq] at hm
                    rcases hm with ⟨rfl, rfl⟩ | ⟨rfl, rfl⟩
                    · exact e0
                    · exact e1
                  ) (fun _ _ _ hm => by cases hm) r8_0 w
                ·
                  have e1 : opVal .and .i64 a1 3 = 1 := by omega
                  exact at_ (rw := [(.bin .and .i64 (.var 0) (.lit 63), .lit (.ofNat (nat_lit 8))), (.bin .and .i64 (.var 1) (.lit 3), .lit (.ofNat (nat_lit 1)))]) (iv := []) (fun x y hm => by
                    simp only [List.mem_cons, List.not_mem_nil, or_false, Prod.mk.injEq] at hm
                    rcases hm with ⟨rfl, rfl⟩ | ⟨rfl, rfl⟩
                    · exact e0
                    · exact e1
                  ) (fun _ _ _ hm => by cases hm) r8_1 w
              ·
                by_cases q8 : opVal .and .i64 a1 3 < 3
                ·
                  have e1 : opVal .and .i64 a1 3 = 2 := by omega
                  exact at_ (rw := [(.bin .and .i64 (.var 0) (.lit 63), .lit (.ofNat (nat_lit 8))), (.bin .and .i64 (.var 1) (.lit 3), .lit (.ofNat (nat_lit 2)))]) (iv := []) (fun x y hm => by
                    simp only [List.mem_cons, List.not_mem_nil, or_false, Prod.mk.injEq] at hm
                    rcases hm with ⟨rfl, rfl⟩ | ⟨rfl, rfl⟩
                    · exact e0
                    · exact e1
                  ) (fun _ _ _ hm => by cases hm) r8_2 w
                ·
                  have e1 : opVal .and .i64 a1 3 = 3 := by omega
                  exact at_ (rw := [(.bin .and .i64 (.var 0) (.lit 63), .lit (.ofNat (nat_lit 8))), (.bin .and .i64 (.var 1) (.lit 3), .lit (.ofNat (nat_lit 3)))]) (iv := []) (fun x y hm => by
                    simp only [List.mem_cons, List.not_mem_nil, or_false, Prod.mk.injEq] at hm
                    rcases hm with ⟨rfl, rfl⟩ | ⟨rfl, rfl⟩
                    · exact e0
                    · exact e1
                  ) (fun _ _ _ hm => by cases hm) r8_3 w
            ·
              have e0 : opVal .and .i64 a0 63 = 9 := by omega
              have g1 := rng1 a1
              by_cases q7 : opVal .and .i64 a1 3 < 2
              ·
                by_cases q8 : opVal .and .i64 a1 3 < 1
                ·
                  have e1 : opVal .and .i64 a1 3 = 0 := by omega
                  exact at_ (rw := [(.bin .and .i64 (.var 0) (.lit 63), .lit (.ofNat (nat_lit 9))), (.bin .and .i64 (.var 1) (.lit 3), .lit (.ofNat (nat_lit 0)))]) (iv := []) (fun x y hm => by
                    simp only [List.mem_cons, List.not_mem_nil, or_false, Prod.mk.injEq] at hm
                    rcases hm with ⟨rfl, rfl⟩ | ⟨rfl, rfl⟩
                    · exact e0
                    · exact e1
                  ) (fun _ _ _ hm => by cases hm) r9_0 w
                ·
                  have e1 : opVal .and .i64 a1 3 = 1 := by omega
                  exact at_ (rw := [(.bin .and .i64 (.var 0) (.lit 63), .lit (.ofNat (nat_lit 9))), (.bin .and .i64 (.var 1) (.lit 3), .lit (.ofNat (nat_lit 1)))]) (iv := []) (fun x y hm => by
                    simp only [List.mem_cons, List.not_mem_nil, or_false, Prod.mk.injEq] at hm
                    rcases hm with ⟨rfl, rfl⟩ | ⟨rfl, rfl⟩
                    · exact e0
                    · exact e1
                  ) (fun _ _ _ hm => by cases hm) r9_1 w
              ·
                by_cases q8 : opVal .and .i64 a1 3 < 3
                ·
                  have e1 : opVal .and .i64 a1 3 = 2 := by omega
                  exact at_ (rw := [(.bin .and .i64 (.var 0) (.lit 63), .lit (.ofNat (nat_lit 9))), (.bin .and .i64 (.var 1) (.lit 3), .lit (.ofNat (nat_lit 2)))]) (iv := []) (fun x y hm => by
                    simp only [List.mem_cons, List.not_mem_nil, or_false, Prod.mk.injEq] at hm
                    rcases hm with ⟨rfl, rfl⟩ | ⟨rfl, rfl⟩
                    · exact e0
                    · exact e1
                  ) (fun _ _ _ hm => by cases hm) r9_2 w
                ·
                  have e1 : opVal .and .i64 a1 3 = 3 := by omega
                  exact at_ (rw := [(.bin .and .i64 (.var 0) (.lit 63), .lit (.ofNat (nat_lit 9))), (.bin .and .i64 (.var 1) (.lit 3), .lit (.ofNat (nat_lit 3)))]) (iv := []) (fun x y hm => by
                    simp only [List.mem_cons, List.not_mem_nil, or_false, Prod.mk.injEq] at hm
                    rcases hm with ⟨rfl, rfl⟩ | ⟨rfl, rfl⟩
                    · exact e0
                    · exact e1
                  ) (fun _ _ _ hm => by cases hm) r9_3 w
          ·
            by_cases q6 : opVal .and .i64 a0 63 < 11
            ·
              have e0 : opVal .and .i64 a0 63 = 10 := by omega
              have g1 := rng1 a1
              by_cases q7 : opVal .and .i64 a1 3 < 2
              ·
                by_cases q8 : opVal .and .i64 a1 3 < 1
                ·
                  have e1 : opVal .and .i64 a1 3 = 0 := by omega
                  exact at_ (rw := [(.bin .and .i64 (.var 0) (.lit 63), .lit (.ofNat (nat_lit 10))), (.bin .and .i64 (.var 1) (.lit 3), .lit (.ofNat (nat_lit 0)))]) (iv := []) (fun x y hm => by
                    simp only [List.mem_cons, List.not_mem_nil, or_false, Prod.mk.injEq] at hm
                    rcases hm with ⟨rfl, rfl⟩ | ⟨rfl, rfl⟩
                    · exact e0
                    · exact e1
                  ) (fun _ _ _ hm => by cases hm) r10_0 w
                ·
                  have e1 : opVal .and .i64 a1 3 = 1 := by omega
                  exact at_ (rw := [(.bin .and .i64 (.var 0) (.lit 63), .lit (.ofNat (nat_lit 10))), (.bin .and .i64 (.var 1) (.lit 3), .lit (.ofNat (nat_lit 1)))]) (iv := []) (fun x y hm => by
                    simp only [List.mem_cons, List.not_mem_nil, or_false, Prod.mk.injEq] at hm
                    rcases hm with ⟨rfl, rfl⟩ | ⟨rfl, rfl⟩
                    · exact e0
                    · exact e1
                  ) (fun _ _ _ hm => by cases hm) r10_1 w
              ·
                by_cases q8 : opVal .and .i64 a1 3 < 3
                ·
                  have e1 : opVal .and .i64 a1 3 = 2 := by omega
                  exact at_ (rw := [(.bin .and .i64 (.var 0) (.lit 63), .lit (.ofNat (nat_lit 10))), (.bin .and .i64 (.var 1) (.lit 3), .lit (.ofNat (nat_lit 2)))]) (iv := []) (fun x y hm => by
                    simp only [List.mem_cons, List.not_mem_nil, or_false, Prod.mk.injEq] at hm
                    rcases hm with ⟨rfl, rfl⟩ | ⟨rfl, rfl⟩
                    · exact e0
                    · exact e1
                  ) (fun _ _ _ hm => by cases hm) r10_2 w
                ·
                  have e1 : opVal .and .i64 a1 3 = 3 := by omega
                  exact at_ (rw := [(.bin .and .i64 (.var 0) (.lit 63), .lit (.ofNat (nat_lit 10))), (.bin .and .i64 (.var 1) (.lit 3), .lit (.ofNat (nat_lit 3)))]) (iv := []) (fun x y hm => by
                    simp only [List.mem_cons, List.not_mem_nil, or_false, Prod.mk.injEq] at hm
                    rcases hm with ⟨rfl, rfl⟩ | ⟨rfl, rfl⟩
                    · exact e0
                    · exact e1
                  ) (fun _ _ _ hm => by cases hm) r10_3 w
            ·
              have e0 : opVal .and .i64 a0 63 = 11 := by omega
              have g1 := rng1 a1
              by_cases q7 : opVal .and .i64 a1 3 < 2
              ·
                by_cases q8 : opVal .and .i64 a1 3 < 1
                ·
                  have e1 : opVal .and .i64 a1 3 = 0 := by omega
                  exact at_ (rw := [(.bin .and .i64 (.var 0) (.lit 63), .lit (.ofNat (nat_lit 11))), (.bin .and .i64 (.var 1) (.lit 3), .lit (.ofNat (nat_lit 0)))]) (iv := []) (fun x y hm => by
                    simp only [List.mem_cons, List.not_mem_nil, or_false, Prod.mk.injEq] at hm
                    rcases hm with ⟨rfl, rfl⟩ | ⟨rfl, rfl⟩
                    · exact e0
                    · exact e1
                  ) (fun _ _ _ hm => by cases hm) r11_0 w
                ·
                  have e1 : opVal .and .i64 a1 3 = 1 := by omega
                  exact at_ (rw := [(.bin .and .i64 (.var 0) (.lit 63), .lit (.ofNat (nat_lit 11))), (.bin .and .i64 (.var 1) (.lit 3), .lit (.ofNat (nat_lit 1)))]) (iv := []) (fun x y hm => by
                    simp only [List.mem_cons, List.not_mem_nil, or_false, Prod.mk.injEq] at hm
                    rcases hm with ⟨rfl, rfl⟩ | ⟨rfl, rfl⟩
                    · exact e0
                    · exact e1
                  ) (fun _ _ _ hm => by cases hm) r11_1 w
              ·
                by_cases q8 : opVal .and .i64 a1 3 < 3
                ·
                  have e1 : opVal .and .i64 a1 3 = 2 := by omega
                  exact at_ (rw := [(.bin .and .i64 (.var 0) (.lit 63), .lit (.ofNat (nat_lit 11))), (.bin .and .i64 (.var 1) (.lit 3), .lit (.ofNat (nat_lit 2)))]) (iv := []) (fun x y hm => by
                    simp only [List.mem_cons, List.not_mem_nil, or_false, Prod.mk.injEq] at hm
                    rcases hm with ⟨rfl, rfl⟩ | ⟨rfl, rfl⟩
                    · exact e0
                    · exact e1
                  ) (fun _ _ _ hm => by cases hm) r11_2 w
                ·
                  have e1 : opVal .and .i64 a1 3 = 3 := by omega
                  exact at_ (rw := [(.bin .and .i64 (.var 0) (.lit 63), .lit (.ofNat (nat_lit 11))), (.bin .and .i64 (.var 1) (.lit 3), .lit (.ofNat (nat_lit 3)))]) (iv := []) (fun x y hm => by
                    simp only [List.mem_cons, List.not_mem_nil, or_false, Prod.mk.injEq] at hm
                    rcases hm with ⟨rfl, rfl⟩ | ⟨rfl, rfl⟩
                    · exact e0
                    · exact e1
                  ) (fun _ _ _ hm => by cases hm) r11_3 w
        ·
          by_cases q5 : opVal .and .i64 a0 63 < 14
          ·
            by_cases q6 : opVal .and .i64 a0 63 < 13
            ·
              have e0 : opVal .and .i64 a0 63 = 12 := by omega
              have g1 := rng1 a1
              by_cases q7 : opVal .and .i64 a1 3 < 2
              ·
                by_cases q8 : opVal .and .i64 a1 3 < 1
                ·
                  have e1 : opVal .and .i64 a1 3 = 0 := by omega
                  exact at_ (rw := [(.bin .and .i64 (.var 0) (.lit 63), .lit (.ofNat (nat_lit 12))), (.bin .and .i64 (.var 1) (.lit 3), .lit (.ofNat (nat_lit 0)))]) (iv := []) (fun x y hm => by
                    simp only [List.mem_cons, List.not_mem_nil, or_false, Prod.mk.injEq] at hm
                    rcases hm with ⟨rfl, rfl⟩ | ⟨rfl, rfl⟩
                    · exact e0
                    · exact e1
                  ) (fun _ _ _ hm => by cases hm) r12_0 w
                ·
                  have e1 : opVal .and .i64 a1 3 = 1 := by omega
                  exact at_ (rw := [(.bin .and .i64 (.var 0) (.lit 63), .lit (.ofNat (nat_lit 12))), (.bin .and .i64 (.var 1) (.lit 3), .lit (.ofNat (nat_lit 1)))]) (iv := []) (fun x y hm => by
                    simp only [List.mem_cons, List.not_mem_nil, or_false, Prod.mk.injEq] at hm
                    rcases hm with ⟨rfl, rfl⟩ | ⟨rfl, rfl⟩
                    · exact e0
                    · exact e1
                  ) (fun _ _ _ hm => by cases hm) r12_1 w
              ·
                by_cases q8 : opVal .and .i64 a1 3 < 3
                ·
                  have e1 : opVal .and .i64 a1 3 = 2 := by omega
                  exact at_ (rw := [(.bin .and .i64 (.var 0) (.lit 63), .lit (.ofNat (nat_lit 12))), (.bin .and .i64 (.var 1) (.lit 3), .lit (.ofNat (nat_lit 2)))]) (iv := []) (fun x y hm => by
                    simp only [List.mem_cons, List.not_mem_nil, or_false, Prod.mk.injEq] at hm
                    rcases hm with ⟨rfl, rfl⟩ | ⟨rfl, rfl⟩
                    · exact e0
                    · exact e1
                  ) (fun _ _ _ hm => by cases hm) r12_2 w
                ·
                  have e1 : opVal .and .i64 a1 3 = 3 := by omega
                  exact at_ (rw := [(.bin .and .i64 (.var 0) (.lit 63), .lit (.ofNat (nat_lit 12))), (.bin .and .i64 (.var 1) (.lit 3), .lit (.ofNat (nat_lit 3)))]) (iv := []) (fun x y hm => by
                    simp only [List.mem_cons, List.not_mem_nil, or_false, Prod.mk.injEq] at hm
                    rcases hm with ⟨rfl, rfl⟩ | ⟨rfl, rfl⟩
                    · exact e0
                    · exact e1
                  ) (fun _ _ _ hm => by cases hm) r12_3 w
            ·
              have e0 : opVal .and .i64 a0 63 = 13 := by omega
              have g1 := rng1 a1
              by_cases q7 : opVal .and .i64 a1 3 < 2
              ·
                by_cases q8 : opVal .and .i64 a1 3 < 1
                ·
                  have e1 : opVal .and .i64 a1 3 = 0 := by omega
                  exact at_ (rw := [(.bin .and .i64 (.var 0) (.lit 63), .lit (.ofNat (nat_lit 13))), (.bin .and .i64 (.var 1) (.lit 3), .lit (.ofNat (nat_lit 0)))]) (iv := []) (fun x y hm => by
                    simp only [List.mem_cons, List.not_mem_nil, or_false, Prod.mk.injEq] at hm
                    rcases hm with ⟨rfl, rfl⟩ | ⟨rfl, rfl⟩
                    · exact e0
                    · exact e1
                  ) (fun _ _ _ hm => by cases hm) r13_0 w
                ·
                  have e1 : opVal .and .i64 a1 3 = 1 := by omega
                  exact at_ (rw := [(.bin .and .i64 (.var 0) (.lit 63), .lit (.ofNat (nat_lit 13))), (.bin .and .i64 (.var 1) (.lit 3), .lit (.ofNat (nat_lit 1)))]) (iv := []) (fun x y hm => by
                    simp only [List.mem_cons, List.not_mem_nil, or_false, Prod.mk.injEq] at hm
                    rcases hm with ⟨rfl, rfl⟩ | ⟨rfl, rfl⟩
                    · exact e0
                    · exact e1
                  ) (fun _ _ _ hm => by cases hm) r13_1 w
              ·
                by_cases q8 : opVal .and .i64 a1 3 < 3
                ·
                  have e1 : opVal .and .i64 a1 3 = 2 := by omega
                  exact at_ (rw := [(.bin .and .i64 (.var 0) (.lit 63), .lit (.ofNat (nat_lit 13))), (.bin .and .i64 (.var 1) (.lit 3), .lit (.ofNat (nat_lit 2)))]) (iv := []) (fun x y hm => by
                    simp only [List.mem_cons, List.not_mem_nil, or_false, Prod.mk.injEq] at hm
                    rcases hm with ⟨rfl, rfl⟩ | ⟨rfl, rfl⟩
                    · exact e0
                    · exact e1
                  ) (fun _ _ _ hm => by cases hm) r13_2 w
                ·
                  have e1 : opVal .and .i64 a1 3 = 3 := by omega
                  exact at_ (rw := [(.bin .and .i64 (.var 0) (.lit 63), .lit (.ofNat (nat_lit 13))), (.bin .and .i64 (.var 1) (.lit 3), .lit (.ofNat (nat_lit 3)))]) (iv := []) (fun x y hm => by
                    simp only [List.mem_cons, List.not_mem_nil, or_false, Prod.mk.injEq] at hm
                    rcases hm with ⟨rfl, rfl⟩ | ⟨rfl, rfl⟩
                    · exact e0
                    · exact e1
                  ) (fun _ _ _ hm => by cases hm) r13_3 w
          ·
            by_cases q6 : opVal .and .i64 a0 63 < 15
            ·
              have e0 : opVal .and .i64 a0 63 = 14 := by omega
              have g1 := rng1 a1
              by_cases q7 : opVal .and .i64 a1 3 < 2
              ·
                by_cases q8 : opVal .and .i64 a1 3 < 1
                ·
                  have e1 : opVal .and .i64 a1 3 = 0 := by omega
                  exact at_ (rw := [(.bin .and .i64 (.var 0) (.lit 63), .lit (.ofNat (nat_lit 14))), (.bin .and .i64 (.var 1) (.lit 3), .lit (.ofNat (nat_lit 0)))]) (iv := []) (fun x y hm => by
                    simp only [List.mem_cons, List.not_mem_nil, or_false, Prod.mk.injEq] at hm
                    rcases hm with ⟨rfl, rfl⟩ | ⟨rfl, rfl⟩
                    · exact e0
                    · exact e1
                  ) (fun _ _ _ hm => by cases hm) r14_0 w
                ·
                  have e1 : opVal .and .i64 a1 3 = 1 := by omega
                  exact at_ (rw := [(.bin .and .i64 (.var 0) (.lit 63), .lit (.ofNat (nat_lit 14))), (.bin .and .i64 (.var 1) (.lit 3), .lit (.ofNat (nat_lit 1)))]) (iv := []) (fun x y hm => by
                    simp only [List.mem_cons, List.not_mem_nil, or_false, Prod.mk.injEq] at hm
                    rcases hm with ⟨rfl, rfl⟩ | ⟨rfl, rfl⟩
                    · exact e0
                    · exact e1
                  ) (fun _ _ _ hm => by cases hm) r14_1 w
              ·
                by_cases q8 : opVal .and .i64 a1 3 < 3
                ·
                  have e1 : opVal .and .i64 a1 3 = 2 := by omega
                  exact at_ (rw := [(.bin .and .i64 (.var 0) (.lit 63), .lit (.ofNat (nat_lit 14))), (.bin .and .i64 (.var 1) (.lit 3), .lit (.ofNat (nat_lit 2)))]) (iv := []) (fun x y hm => by
                    simp only [List.mem_cons, List.not_mem_nil, or_false, Prod.mk.injEq] at hm
                    rcases hm with ⟨rfl, rfl⟩ | ⟨rfl, rfl⟩
                    · exact e0
                    · exact e1
                  ) (fun _ _ _ hm => by cases hm) r14_2 w
                ·
                  have e1 : opVal .and .i64 a1 3 = 3 := by omega
                  exact at_ (rw := [(.bin .and .i64 (.var 0) (.lit 63), .lit (.ofNat (nat_lit 14))), (.bin .and .i64 (.var 1) (.lit 3), .lit (.ofNat (nat_lit 3)))]) (iv := []) (fun x y hm => by
                    simp only [List.mem_cons, List.not_mem_nil, or_false, Prod.mk.injEq] at hm
                    rcases hm with ⟨rfl, rfl⟩ | ⟨rfl, rfl⟩
                    · exact e0
                    · exact e1
                  ) (fun _ _ _ hm => by cases hm) r14_3 w
            ·
              have e0 : opVal .and .i64 a0 63 = 15 := by omega
              have g1 := rng1 a1
              by_cases q7 : opVal .and .i64 a1 3 < 2
              ·
                by_cases q8 : opVal .and .i64 a1 3 < 1
                ·
                  have e1 : opVal .and .i64 a1 3 = 0 := by omega
                  exact at_ (rw := [(.bin .and .i64 (.var 0) (.lit 63), .lit (.ofNat (nat_lit 15))), (.bin .and .i64 (.var 1) (.lit 3), .lit (.ofNat (nat_lit 0)))]) (iv := []) (fun x y hm => by
                    simp only [List.mem_cons, List.not_mem_nil, or_false, Prod.mk.injEq] at hm
                    rcases hm with ⟨rfl, rfl⟩ | ⟨rfl, rfl⟩
                    · exact e0
                    · exact e1
                  ) (fun _ _ _ hm => by cases hm) r15_0 w
                ·
                  have e1 : opVal .and .i64 a1 3 = 1 := by omega
                  exact at_ (rw := [(.bin .and .i64 (.var 0) (.lit 63), .lit (.ofNat (nat_lit 15))), (.bin .and .i64 (.var 1) (.lit 3), .lit (.ofNat (nat_lit 1)))]) (iv := []) (fun x y hm => by
                    simp only [List.mem_cons, List.not_mem_nil, or_false, Prod.mk.injEq] at hm
                    rcases hm with ⟨rfl, rfl⟩ | ⟨rfl, rfl⟩
                    · exact e0
                    · exact e1
                  ) (fun _ _ _ hm => by cases hm) r15_1 w
              ·
                by_cases q8 : opVal .and .i64 a1 3 < 3
                ·
                  have e1 : opVal .and .i64 a1 3 = 2 := by omega
                  exact at_ (rw := [(.bin .and .i64 (.var 0) (.lit 63), .lit (.ofNat (nat_lit 15))), (.bin .and .i64 (.var 1) (.lit 3), .lit (.ofNat (nat_lit 2)))]) (iv := []) (fun x y hm => by
                    simp only [List.mem_cons, List.not_mem_nil, or_false, Prod.mk.injEq] at hm
                    rcases hm with ⟨rfl, rfl⟩ | ⟨rfl, rfl⟩
                    · exact e0
                    · exact e1
                  ) (fun _ _ _ hm => by cases hm) r15_2 w
                ·
                  have e1 : opVal .and .i64 a1 3 = 3 := by omega
                  exact at_ (rw := [(.bin .and .i64 (.var 0) (.lit 63), .lit (.ofNat (nat_lit 15))), (.bin .and .i64 (.var 1) (.lit 3), .lit (.ofNat (nat_lit 3)))]) (iv := []) (fun x y hm => by
                    simp only [List.mem_cons, List.not_mem_nil, or_false, Prod.mk.injEq] at hm
                    rcases hm with ⟨rfl, rfl⟩ | ⟨rfl, rfl⟩
                    · exact e0
                    · exact e1
                  ) (fun _ _ _ hm => by cases hm) r15_3 w
    ·
      by_cases q3 : opVal .and .i64 a0 63 < 24
      ·
        by_cases q4 : opVal .and .i64 a0 63 < 20
        ·
          by_cases q5 : opVal .and .i64 a0 63 < 18
          ·
            by_cases q6 : opVal .and .i64 a0 63 < 17
            ·
              have e0 : opVal .and .i64 a0 63 = 16 := by omega
              have g1 := rng1 a1
              by_cases q7 : opVal .and .i64 a1 3 < 2
              ·
                by_cases q8 : opVal .and .i64 a1 3 < 1
                ·
                  have e1 : opVal .and .i64 a1 3 = 0 := by omega
                  exact at_ (rw := [(.bin .and .i64 (.var 0) (.lit 63), .lit (.ofNat (nat_lit 16))), (.bin .and .i64 (.var 1) (.lit 3), .lit (.ofNat (nat_lit 0)))]) (iv := []) (fun x y hm => by
                    simp only [List.mem_cons, List.not_mem_nil, or_false, Prod.mk.injEq] at hm
                    rcases hm with ⟨rfl, rfl⟩ | ⟨rfl, rfl⟩
                    · exact e0
                    · exact e1
                  ) (fun _ _ _ hm => by cases hm) r16_0 w
                ·
                  have e1 : opVal .and .i64 a1 3 = 1 := by omega
                  exact at_ (rw := [(.bin .and .i64 (.var 0) (.lit 63), .lit (.ofNat (nat_lit 16))), (.bin .and .i64 (.var 1) (.lit 3), .lit (.ofNat (nat_lit 1)))]) (iv := []) (fun x y hm => by
                    simp only [List.mem_cons, List.not_mem_nil, or_false, Prod.mk.injEq] at hm
                    rcases hm with ⟨rfl, rfl⟩ | ⟨rfl, rfl⟩
                    · exact e0
                    · exact e1
                  ) (fun _ _ _ hm => by cases hm) r16_1 w
              ·
                by_cases q8 : opVal .and .i64 a1 3 < 3
                ·
                  have e1 : opVal .and .i64 a1 3 = 2 := by omega
                  exact at_ (rw := [(.bin .and .i64 (.var 0) (.lit 63), .lit (.ofNat (nat_lit 16))), (.bin .and .i64 (.var 1) (.lit 3), .lit (.ofNat (nat_lit 2)))]) (iv := []) (fun x y hm => by
                    simp only [List.mem_cons, List.not_mem_nil, or_false, Prod.mk.injEq] at hm
                    rcases hm with ⟨rfl, rfl⟩ | ⟨rfl, rfl⟩
                    · exact e0
                    · exact e1
                  ) (fun _ _ _ hm => by cases hm) r16_2 w
                ·
                  have e1 : opVal .and .i64 a1 3 = 3 := by omega
                  exact at_ (rw := [(.bin .and .i64 (.var 0) (.lit 63), .lit (.ofNat (nat_lit 16))), (.bin .and .i64 (.var 1) (.lit 3), .lit (.ofNat (nat_lit 3)))]) (iv := []) (fun x y hm => by
                    simp only [List.mem_cons, List.not_mem_nil, or_false, Prod.mk.injEq] at hm
                    rcases hm with ⟨rfl, rfl⟩ | ⟨rfl, rfl⟩
                    · exact e0
                    · exact e1
                  ) (fun _ _ _ hm => by cases hm) r16_3 w
            ·
              have e0 : opVal .and .i64 a0 63 = 17 := by omega
              have g1 := rng1 a1
              by_cases q7 : opVal .and .i64 a1 3 < 2
              ·
                by_cases q8 : opVal .and .i64 a1 3 < 1
                ·
                  have e1 : opVal .and .i64 a1 3 = 0 := by omega
                  exact at_ (rw := [(.bin .and .i64 (.var 0) (.lit 63), .lit (.ofNat (nat_lit 17))), (.bin .and .i64 (.var 1) (.lit 3), .lit (.ofNat (nat_lit 0)))]) (iv := []) (fun x y hm => by
                    simp only [List.mem_cons, List.not_mem_nil, or_false, Prod.mk.injEq] at hm
                    rcases hm with ⟨rfl, rfl⟩ | ⟨rfl, rfl⟩
                    · exact e0
                    · exact e1
                  ) (fun _ _ _ hm => by cases hm) r17_0 w
                ·
                  have e1 : opVal .and .i64 a1 3 = 1 := by omega
                  exact at_ (rw := [(.bin .and .i64 (.var 0) (.lit 63), .lit (.ofNat (nat_lit 17))), (.bin .and .i64 (.var 1) (.lit 3), .lit (.ofNat (nat_lit 1)))]) (iv := []) (fun x y hm => by
                    simp only [List.mem_cons, List.not_mem_nil, or_false, Prod.mk.injEq] at hm
                    rcases hm with ⟨rfl, rfl⟩ | ⟨rfl, rfl⟩
                    · exact e0
                    · exact e1
                  ) (fun _ _ _ hm => by cases hm) r17_1 w
              ·
                by_cases q8 : opVal .and .i64 a1 3 < 3
                ·
                  have e1 : opVal .and .i64 a1 3 = 2 := by omega
                  exact at_ (rw := [(.bin .and .i64 (.var 0) (.lit 63), .lit (.ofNat (nat_lit 17))), (.bin .and .i64 (.var 1) (.lit 3), .lit (.ofNat (nat_lit 2)))]) (iv := []) (fun x y hm => by
                    simp only [List.mem_cons, List.not_mem_nil, or_false, Prod.mk.injEq] at hm
                    rcases hm with ⟨rfl, rfl⟩ | ⟨rfl, rfl⟩
                    · exact e0
                    · exact e1
                  ) (fun _ _ _ hm => by cases hm) r17_2 w
                ·
                  have e1 : opVal .and .i64 a1 3 = 3 := by omega
                  exact at_ (rw := [(.bin .and .i64 (.var 0) (.lit 63), .lit (.ofNat (nat_lit 17))), (.bin .and .i64 (.var 1) (.lit 3), .lit (.ofNat (nat_lit 3)))]) (iv := []) (fun x y hm => by
                    simp only [List.mem_cons, List.not_mem_nil, or_false, Prod.mk.injEq] at hm
                    rcases hm with ⟨rfl, rfl⟩ | ⟨rfl, rfl⟩
                    · exact e0
                    · exact e1
                  ) (fun _ _ _ hm => by cases hm) r17_3 w
          ·
            by_cases q6 : opVal .and .i64 a0 63 < 19
            ·
              have e0 : opVal .and .i64 a0 63 = 18 := by omega
              have g1 := rng1 a1
              by_cases q7 : opVal .and .i64 a1 3 < 2
              ·
                by_cases q8 : opVal .and .i64 a1 3 < 1
                ·
                  have e1 : opVal .and .i64 a1 3 = 0 := by omega
                  exact at_ (rw := [(.bin .and .i64 (.var 0) (.lit 63), .lit (.ofNat (nat_lit 18))), (.bin .and .i64 (.var 1) (.lit 3), .lit (.ofNat (nat_lit 0)))]) (iv := []) (fun x y hm => by
                    simp only [List.mem_cons, List.not_mem_nil, or_false, Prod.mk.injEq] at hm
                    rcases hm with ⟨rfl, rfl⟩ | ⟨rfl, rfl⟩
                    · exact e0
                    · exact e1
                  ) (fun _ _ _ hm => by cases hm) r18_0 w
                ·
                  have e1 : opVal .and .i64 a1 3 = 1 := by omega
                  exact at_ (rw := [(.bin .and .i64 (.var 0) (.lit 63), .lit (.ofNat (nat_lit 18))), (.bin .and .i64 (.var 1) (.lit 3), .lit (.ofNat (nat_lit 1)))]) (iv := []) (fun x y hm => by
                    simp only [List.mem_cons, List.not_mem_nil, or_false, Prod.mk.injEq] at hm
                    rcases hm with ⟨rfl, rfl⟩ | ⟨rfl, rfl⟩
                    · exact e0
                    · exact e1
                  ) (fun _ _ _ hm => by cases hm) r18_1 w
              ·
                by_cases q8 : opVal .and .i64 a1 3 < 3
                ·
                  have e1 : opVal .and .i64 a1 3 = 2 := by omega
                  exact at_ (rw := [(.bin .and .i64 (.var 0) (.lit 63), .lit (.ofNat (nat_lit 18))), (.bin .and .i64 (.var 1) (.lit 3), .lit (.ofNat (nat_lit 2)))]) (iv := []) (fun x y hm => by
                    simp only [List.mem_cons, List.not_mem_nil, or_false, Prod.mk.injEq] at hm
                    rcases hm with ⟨rfl, rfl⟩ | ⟨rfl, rfl⟩
                    · exact e0
                    · exact e1
                  ) (fun _ _ _ hm => by cases hm) r18_2 w
                ·
                  have e1 : opVal .and .i64 a1 3 = 3 := by omega
                  exact at_ (rw := [(.bin .and .i64 (.var 0) (.lit 63), .lit (.ofNat (nat_lit 18))), (.bin .and .i64 (.var 1) (.lit 3), .lit (.ofNat (nat_lit 3)))]) (iv := []) (fun x y hm => by
                    simp only [List.mem_cons, List.not_mem_nil, or_false, Prod.mk.injEq] at hm
                    rcases hm with ⟨rfl, rfl⟩ | ⟨rfl, rfl⟩
                    · exact e0
                    · exact e1
                  ) (fun _ _ _ hm => by cases hm) r18_3 w
            ·
              have e0 : opVal .and .i64 a0 63 = 19 := by omega
              have g1 := rng1 a1
              by_cases q7 : opVal .and .i64 a1 3 < 2
              ·
                by_cases q8 : opVal .and .i64 a1 3 < 1
                ·
                  have e1 : opVal .and .i64 a1 3 = 0 := by omega
                  exact at_ (rw := [(.bin .and .i64 (.var 0) (.lit 63), .lit (.ofNat (nat_lit 19))), (.bin .and .i64 (.var 1) (.lit 3), .lit (.ofNat (nat_lit 0)))]) (iv := []) (fun x y hm => by
                    simp only [List.mem_cons, List.not_mem_nil, or_false, Prod.mk.injEq] at hm
                    rcases hm with ⟨rfl, rfl⟩ | ⟨rfl, rfl⟩
                    · exact e0
                    · exact e1
                  ) (fun _ _ _ hm => by cases hm) r19_0 w
                ·
                  have e1 : opVal .and .i64 a1 3 = 1 := by omega
                  exact at_ (rw := [(.bin .and .i64 (.var 0) (.lit 63), .lit (.ofNat (nat_lit 19))), (.bin .and .i64 (.var 1) (.lit 3), .lit (.ofNat (nat_lit 1)))]) (iv := []) (fun x y hm => by
                    simp only [List.mem_cons, List.not_mem_nil, or_false, Prod.mk.injEq] at hm
                    rcases hm with ⟨rfl, rfl⟩ | ⟨rfl, rfl⟩
                    · exact e0
                    · exact e1
                  ) (fun _ _ _ hm => by cases hm) r19_1 w
              ·
                by_cases q8 : opVal .and .i64 a1 3 < 3
                ·
                  have e1 : opVal .and .i64 a1 3 = 2 := by omega
                  exact at_ (rw := [(.bin .and .i64 (.var 0) (.lit 63), .lit (.ofNat (nat_lit 19))), (.bin .and .i64 (.var 1) (.lit 3), .lit (.ofNat (nat_lit 2)))]) (iv := []) (fun x y hm => by
                    simp only [List.mem_cons, List.not_mem_nil, or_false, Prod.mk.injEq] at hm
                    rcases hm with ⟨rfl, rfl⟩ | ⟨rfl, rfl⟩
                    · exact e0
                    · exact e1
                  ) (fun _ _ _ hm => by cases hm) r19_2 w
                ·
                  have e1 : opVal .and .i64 a1 3 = 3 := by omega
                  exact at_ (rw := [(.bin .and .i64 (.var 0) (.lit 63), .lit (.ofNat (nat_lit 19))), (.bin .and .i64 (.var 1) (.lit 3), .lit (.ofNat (nat_lit 3)))]) (iv := []) (fun x y hm => by
                    simp only [List.mem_cons, List.not_mem_nil, or_false, Prod.mk.injEq] at hm
                    rcases hm with ⟨rfl, rfl⟩ | ⟨rfl, rfl⟩
                    · exact e0
                    · exact e1
                  ) (fun _ _ _ hm => by cases hm) r19_3 w
        ·
          by_cases q5 : opVal .and .i64 a0 63 < 22
          ·
            by_cases q6 : opVal .and .i64 a0 63 < 21
            ·
              have e0 : opVal .and .i64 a0 63 = 20 := by omega
              have g1 := rng1 a1
              by_cases q7 : opVal .and .i64 a1 3 < 2
              ·
                by_cases q8 : opVal .and .i64 a1 3 < 1
                ·
                  have e1 : opVal .and .i64 a1 3 = 0 := by omega
                  exact at_ (rw := [(.bin .and .i64 (.var 0) (.lit 63), .lit (.ofNat (nat_lit 20))), (.bin .and .i64 (.var 1) (.lit 3), .lit (.ofNat (nat_lit 0)))]) (iv := []) (fun x y hm => by
                    simp only [List.mem_cons, List.not_mem_nil, or_false, Prod.mk.injEq] at hm
                    rcases hm with ⟨rfl, rfl⟩ | ⟨rfl, rfl⟩
                    · exact e0
                    · exact e1
                  ) (fun _ _ _ hm => by cases hm) r20_0 w
                ·
                  have e1 : opVal .and .i64 a1 3 = 1 := by omega
                  exact at_ (rw := [(.bin .and .i64 (.var 0) (.lit 63), .lit (.ofNat (nat_lit 20))), (.bin .and .i64 (.var 1) (.lit 3), .lit (.ofNat (nat_lit 1)))]) (iv := []) (fun x y hm => by
                    simp only [List.mem_cons, List.not_mem_nil, or_false, Prod.mk.injEq] at hm
                    rcases hm with ⟨rfl, rfl⟩ | ⟨rfl, rfl⟩
                    · exact e0
                    · exact e1
                  ) (fun _ _ _ hm => by cases hm) r20_1 w
              ·
                by_cases q8 : opVal .and .i64 a1 3 < 3
                ·
                  have e1 : opVal .and .i64 a1 3 = 2 := by omega
                  exact at_ (rw := [(.bin .and .i64 (.var 0) (.lit 63), .lit (.ofNat (nat_lit 20))), (.bin .and .i64 (.var 1) (.lit 3), .lit (.ofNat (nat_lit 2)))]) (iv := []) (fun x y hm => by
                    simp only [List.mem_cons, List.not_mem_nil, or_false, Prod.mk.injEq] at hm
                    rcases hm with ⟨rfl, rfl⟩ | ⟨rfl, rfl⟩
                    · exact e0
                    · exact e1
                  ) (fun _ _ _ hm => by cases hm) r20_2 w
                ·
                  have e1 : opVal .and .i64 a1 3 = 3 := by omega
                  exact at_ (rw := [(.bin .and .i64 (.var 0) (.lit 63), .lit (.ofNat (nat_lit 20))), (.bin .and .i64 (.var 1) (.lit 3), .lit (.ofNat (nat_lit 3)))]) (iv := []) (fun x y hm => by
                    simp only [List.mem_cons, List.not_mem_nil, or_false, Prod.mk.injEq] at hm
                    rcases hm with ⟨rfl, rfl⟩ | ⟨rfl, rfl⟩
                    · exact e0
                    · exact e1
                  ) (fun _ _ _ hm => by cases hm) r20_3 w
            ·
              have e0 : opVal .and .i64 a0 63 = 21 := by omega
              have g1 := rng1 a1
              by_cases q7 : opVal .and .i64 a1 3 < 2
              ·
                by_cases q8 : opVal .and .i64 a1 3 < 1
                ·
                  have e1 : opVal .and .i64 a1 3 = 0 := by omega
                  exact at_ (rw := [(.bin .and .i64 (.var 0) (.lit 63), .lit (.ofNat (nat_lit 21))), (.bin .and .i64 (.var 1) (.lit 3), .lit (.ofNat (nat_lit 0)))]) (iv := []) (fun x y hm => by
                    simp only [List.mem_cons, List.not_mem_nil, or_false, Prod.mk.injEq] at hm
                    rcases hm with ⟨rfl, rfl⟩ | ⟨rfl, rfl⟩
                    · exact e0
                    · exact e1
                  ) (fun _ _ _ hm => by cases hm) r21_0 w
                ·
                  have e1 : opVal .and .i64 a1 3 = 1 := by omega
                  exact at_ (rw := [(.bin .and .i64 (.var 0) (.lit 63), .lit (.ofNat (nat_lit 21))), (.bin .and .i64 (.var 1) (.lit 3), .lit (.ofNat (nat_lit 1)))]) (iv := []) (fun x y hm => by
                    simp only [List.mem_cons, List.not_mem_nil, or_false, Prod.mk.injEq] at hm
                    rcases hm with ⟨rfl, rfl⟩ | ⟨rfl, rfl⟩
                    · exact e0
                    · exact e1
                  ) (fun _ _ _ hm => by cases hm) r21_1 w
              ·
                by_cases q8 : opVal .and .i64 a1 3 < 3
                ·
                  have e1 : opVal .and .i64 a1 3 = 2 := by omega
                  exact at_ (rw := [(.bin .and .i64 (.var 0) (.lit 63), .lit (.ofNat (nat_lit 21))), (.bin .and .i64 (.var 1) (.lit 3), .lit (.ofNat (nat_lit 2)))]) (iv := []) (fun x y hm => by
                    simp only [List.mem_cons, List.not_mem_nil, or_false, Prod.mk.injEq] at hm
                    rcases hm with ⟨rfl, rfl⟩ | ⟨rfl, rfl⟩
                    · exact e0
                    · exact e1
                  ) (fun _ _ _ hm => by cases hm) r21_2 w
                ·
                  have e1 : opVal .and .i64 a1 3 = 3 := by omega
                  exact at_ (rw := [(.bin .and .i64 (.var 0) (.lit 63), .lit (.ofNat (nat_lit 21))), (.bin .and .i64 (.var 1) (.lit 3), .lit (.ofNat (nat_lit 3)))]) (iv := []) (fun x y hm => by
                    simp only [List.mem_cons, List.not_mem_nil, or_false, Prod.mk.injEq] at hm
                    rcases hm with ⟨rfl, rfl⟩ | ⟨rfl, rfl⟩
                    · exact e0
                    · exact e1
                  ) (fun _ _ _ hm => by cases hm) r21_3 w
          ·
            by_cases q6 : opVal .and .i64 a0 63 < 23
            ·
              have e0 : opVal .and .i64 a0 63 = 22 := by omega
              have g1 := rng1 a1
              by_cases q7 : opVal .and .i64 a1 3 < 2
              ·
                by_cases q8 : opVal .and .i64 a1 3 < 1
                ·
                  have e1 : opVal .and .i64 a1 3 = 0 := by omega
                  exact at_ (rw := [(.bin .and .i64 (.var 0) (.lit 63), .lit (.ofNat (nat_lit 22))), (.bin .and .i64 (.var 1) (.lit 3), .lit (.ofNat (nat_lit 0)))]) (iv := []) (fun x y hm => by
                    simp only [List.mem_cons, List.not_mem_nil, or_false, Prod.mk.injEq] at hm
                    rcases hm with ⟨rfl, rfl⟩ | ⟨rfl, rfl⟩
                    · exact e0
                    · exact e1
                  ) (fun _ _ _ hm => by cases hm) r22_0 w
                ·
                  have e1 : opVal .and .i64 a1 3 = 1 := by omega
                  exact at_ (rw := [(.bin .and .i64 (.var 0) (.lit 63), .lit (.ofNat (nat_lit 22))), (.bin .and .i64 (.var 1) (.lit 3), .lit (.ofNat (nat_lit 1)))]) (iv := []) (fun x y hm => by
                    simp only [List.mem_cons, List.not_mem_nil, or_false, Prod.mk.injEq] at hm
                    rcases hm with ⟨rfl, rfl⟩ | ⟨rfl, rfl⟩
                    · exact e0
                    · exact e1
                  ) (fun _ _ _ hm => by cases hm) r22_1 w
              ·
                by_cases q8 : opVal .and .i64 a1 3 < 3
                ·
                  have e1 : opVal .and .i64 a1 3 = 2 := by omega
                  exact at_ (rw := [(.bin .and .i64 (.var 0) (.lit 63), .lit (.ofNat (nat_lit 22))), (.bin .and .i64 (.var 1) (.lit 3), .lit (.ofNat (nat_lit 2)))]) (iv := []) (fun x y hm => by
                    simp only [List.mem_cons, List.not_mem_nil, or_false, Prod.mk.injEq] at hm
                    rcases hm with ⟨rfl, rfl⟩ | ⟨rfl, rfl⟩
                    · exact e0
                    · exact e1
                  ) (fun _ _ _ hm => by cases hm) r22_2 w
                ·
                  have e1 : opVal .and .i64 a1 3 = 3 := by omega
                  exact at_ (rw := [(.bin .and .i64 (.var 0) (.lit 63), .lit (.ofNat (nat_lit 22))), (.bin .and .i64 (.var 1) (.lit 3), .lit (.ofNat (nat_lit 3)))]) (iv := []) (fun x y hm => by
                    simp only [List.mem_cons, List.not_mem_nil, or_false, Prod.mk.injEq] at hm
                    rcases hm with ⟨rfl, rfl⟩ | ⟨rfl, rfl⟩
                    · exact e0
                    · exact e1
                  ) (fun _ _ _ hm => by cases hm) r22_3 w
            ·
              have e0 : opVal .and .i64 a0 63 = 23 := by omega
              have g1 := rng1 a1
              by_cases q7 : opVal .and .i64 a1 3 < 2
              ·
                by_cases q8 : opVal .and .i64 a1 3 < 1
                ·
                  have e1 : opVal .and .i64 a1 3 = 0 := by omega
                  exact at_ (rw := [(.bin .and .i64 (.var 0) (.lit 63), .lit (.ofNat (nat_lit 23))), (.bin .and .i64 (.var 1) (.lit 3), .lit (.ofNat (nat_lit 0)))]) (iv := []) (fun x y hm => by
                    simp only [List.mem_cons, List.not_mem_nil, or_false, Prod.mk.injEq] at hm
                    rcases hm with ⟨rfl, rfl⟩ | ⟨rfl, rfl⟩
                    · exact e0
                    · exact e1
                  ) (fun _ _ _ hm => by cases hm) r23_0 w
                ·
                  have e1 : opVal .and .i64 a1 3 = 1 := by omega
                  exact at_ (rw := [(.bin .and .i64 (.var 0) (.lit 63), .lit (.ofNat (nat_lit 23))), (.bin .and .i64 (.var 1) (.lit 3), .lit (.ofNat (nat_lit 1)))]) (iv := []) (fun x y hm => by
                    simp only [List.mem_cons, List.not_mem_nil, or_false, Prod.mk.injEq] at hm
                    rcases hm with ⟨rfl, rfl⟩ | ⟨rfl, rfl⟩
                    · exact e0
                    · exact e1
                  ) (fun _ _ _ hm => by cases hm) r23_1 w
              ·
                by_cases q8 : opVal .and .i64 a1 3 < 3
                ·
                  have e1 : opVal .and .i64 a1 3 = 2 := by omega
                  exact at_ (rw := [(.bin .and .i64 (.var 0) (.lit 63), .lit (.ofNat (nat_lit 23))), (.bin .and .i64 (.var 1) (.lit 3), .lit (.ofNat (nat_lit 2)))]) (iv := []) (fun x y hm => by
                    simp only [List.mem_cons, List.not_mem_nil, or_false, Prod.mk.injEq] at hm
                    rcases hm with ⟨rfl, rfl⟩ | ⟨rfl, rfl⟩
                    · exact e0
                    · exact e1
                  ) (fun _ _ _ hm => by cases hm) r23_2 w
                ·
                  have e1 : opVal .and .i64 a1 3 = 3 := by omega
                  exact at_ (rw := [(.bin .and .i64 (.var 0) (.lit 63), .lit (.ofNat (nat_lit 23))), (.bin .and .i64 (.var 1) (.lit 3), .lit (.ofNat (nat_lit 3)))]) (iv := []) (fun x y hm => by
                    simp only [List.mem_cons, List.not_mem_nil, or_false, Prod.mk.injEq] at hm
                    rcases hm with ⟨rfl, rfl⟩ | ⟨rfl, rfl⟩
                    · exact e0
                    · exact e1
                  ) (fun _ _ _ hm => by cases hm) r23_3 w
      ·
        by_cases q4 : opVal .and .i64 a0 63 < 28
        ·
          by_cases q5 : opVal .and .i64 a0 63 < 26
          ·
            by_cases q6 : opVal .and .i64 a0 63 < 25
            ·
              have e0 : opVal .and .i64 a0 63 = 24 := by omega
              have g1 := rng1 a1
              by_cases q7 : opVal .and .i64 a1 3 < 2
              ·
                by_cases q8 : opVal .and .i64 a1 3 < 1
                ·
                  have e1 : opVal .and .i64 a1 3 = 0 := by omega
                  exact at_ (rw := [(.bin .and .i64 (.var 0) (.lit 63), .lit (.ofNat (nat_lit 24))), (.bin .and .i64 (.var 1) (.lit 3), .lit (.ofNat (nat_lit 0)))]) (iv := []) (fun x y hm => by
                    simp only [List.mem_cons, List.not_mem_nil, or_false, Prod.mk.injEq] at hm
                    rcases hm with ⟨rfl, rfl⟩ | ⟨rfl, rfl⟩
                    · exact e0
                    · exact e1
                  ) (fun _ _ _ hm => by cases hm) r24_0 w
                ·
                  have e1 : opVal .and .i64 a1 3 = 1 := by omega
                  exact at_ (rw := [(.bin .and .i64 (.var 0) (.lit 63), .lit (.ofNat (nat_lit 24))), (.bin .and .i64 (.var 1) (.lit 3), .lit (.ofNat (nat_lit 1)))]) (iv := []) (fun x y hm => by
                    simp only [List.mem_cons, List.not_mem_nil, or_false, Prod.mk.injEq] at hm
                    rcases hm with ⟨rfl, rfl⟩ | ⟨rfl, rfl⟩
                    · exact e0
                    · exact e1
                  ) (fun _ _ _ hm => by cases hm) r24_1 w
              ·
                by_cases q8 : opVal .and .i64 a1 3 < 3
                ·
                  have e1 : opVal .and .i64 a1 3 = 2 := by omega
                  exact at_ (rw := [(.bin .and .i64 (.var 0) (.lit 63), .lit (.ofNat (nat_lit 24))), (.bin .and .i64 (.var 1) (.lit 3), .lit (.ofNat (nat_lit 2)))]) (iv := []) (fun x y hm => by
                    simp only [List.mem_cons, List.not_mem_nil, or_false, Prod.mk.injEq] at hm
                    rcases hm with ⟨rfl, rfl⟩ | ⟨rfl, rfl⟩
                    · exact e0
                    · exact e1
                  ) (fun _ _ _ hm => by cases hm) r24_2 w
                ·
                  have e1 : opVal .and .i64 a1 3 = 3 := by omega
                  exact at_ (rw := [(.bin .and .i64 (.var 0) (.lit 63), .lit (.ofNat (nat_lit 24))), (.bin .and .i64 (.var 1) (.lit 3), .lit (.ofNat (nat_lit 3)))]) (iv := []) (fun x y hm => by
                    simp only [List.mem_cons, List.not_mem_nil, or_false, Prod.mk.injEq] at hm
                    rcases hm with ⟨rfl, rfl⟩ | ⟨rfl, rfl⟩
                    · exact e0
                    · exact e1
                  ) (fun _ _ _ hm => by cases hm) r24_3 w
            ·
              have e0 : opVal .and .i64 a0 63 = 25 := by omega
              have g1 := rng1 a1
              by_cases q7 : opVal .and .i64 a1 3 < 2
              ·
                by_cases q8 : opVal .and .i64 a1 3 < 1
                ·
                  have e1 : opVal .and .i64 a1 3 = 0 := by omega
                  exact at_ (rw := [(.bin .and .i64 (.var 0) (.lit 63), .lit (.ofNat (nat_lit 25))), (.bin .and .i64 (.var 1) (.lit 3), .lit (.ofNat (nat_lit 0)))]) (iv := []) (fun x y hm => by
                    simp only [List.mem_cons, List.not_mem_nil, or_false, Prod.mk.injEq] at hm
                    rcases hm with ⟨rfl, rfl⟩ | ⟨rfl, rfl⟩
                    · exact e0
                    · exact e1
                  ) (fun _ _ _ hm => by cases hm) r25_0 w
                ·
                  have e1 : opVal .and .i64 a1 3 = 1 := by omega
                  exact at_ (rw := [(.bin .and .i64 (.var 0) (.lit 63), .lit (.ofNat (nat_lit 25))), (.bin .and .i64 (.var 1) (.lit 3), .lit (.ofNat (nat_lit 1)))]) (iv := []) (fun x y hm => by
                    simp only [List.mem_cons, List.not_mem_nil, or_false, Prod.mk.injEq] at hm
                    rcases hm with ⟨rfl, rfl⟩ | ⟨rfl, rfl⟩
                    · exact e0
                    · exact e1
                  ) (fun _ _ _ hm => by cases hm) r25_1 w
              ·
                by_cases q8 : opVal .and .i64 a1 3 < 3
                ·
                  have e1 : opVal .and .i64 a1 3 = 2 := by omega
                  exact at_ (rw := [(.bin .and .i64 (.var 0) (.lit 63), .lit (.ofNat (nat_lit 25))), (.bin .and .i64 (.var 1) (.lit 3), .lit (.ofNat (nat_lit 2)))]) (iv := []) (fun x y hm => by
                    simp only [List.mem_cons, List.not_mem_nil, or_false, Prod.mk.injEq] at hm
                    rcases hm with ⟨rfl, rfl⟩ | ⟨rfl, rfl⟩
                    · exact e0
                    · exact e1
                  ) (fun _ _ _ hm => by cases hm) r25_2 w
                ·
                  have e1 : opVal .and .i64 a1 3 = 3 := by omega
                  exact at_ (rw := [(.bin .and .i64 (.var 0) (.lit 63), .lit (.ofNat (nat_lit 25))), (.bin .and .i64 (.var 1) (.lit 3), .lit (.ofNat (nat_lit 3)))]) (iv := []) (fun x y hm => by
                    simp only [List.mem_cons, List.not_mem_nil, or_false, Prod.mk.injEq] at hm
                    rcases hm with ⟨rfl, rfl⟩ | ⟨rfl, rfl⟩
                    · exact e0
                    · exact e1
                  ) (fun _ _ _ hm => by cases hm) r25_3 w
          ·
            by_cases q6 : opVal .and .i64 a0 63 < 27
            ·
              have e0 : opVal .and .i64 a0 63 = 26 := by omega
              have g1 := rng1 a1
              by_cases q7 : opVal .and .i64 a1 3 < 2
              ·
                by_cases q8 : opVal .and .i64 a1 3 < 1
                ·
                  have e1 : opVal .and .i64 a1 3 = 0 := by omega
                  exact at_ (rw := [(.bin .and .i64 (.var 0) (.lit 63), .lit (.ofNat (nat_lit 26))), (.bin .and .i64 (.var 1) (.lit 3), .lit (.ofNat (nat_lit 0)))]) (iv := []) (fun x y hm => by
                    simp only [List.mem_cons, List.not_mem_nil, or_false, Prod.mk.injEq] at hm
                    rcases hm with ⟨rfl, rfl⟩ | ⟨rfl, rfl⟩
                    · exact e0
                    · exact e1
                  ) (fun _ _ _ hm => by cases hm) r26_0 w
                ·
                  have e1 : opVal .and .i64 a1 3 = 1 := by omega
                  exact at_ (rw := [(.bin .and .i64 (.var 0) (.lit 63), .lit (.ofNat (nat_lit 26))), (.bin .and .i64 (.var 1) (.lit 3), .lit (.ofNat (nat_lit 1)))]) (iv := []) (fun x y hm => by
                    simp only [List.mem_cons, List.not_mem_nil, or_false, Prod.mk.injEq] at hm
                    rcases hm with ⟨rfl, rfl⟩ | ⟨rfl, rfl⟩
                    · exact e0
                    · exact e1
                  ) (fun _ _ _ hm => by cases hm) r26_1 w
              ·
                by_cases q8 : opVal .and .i64 a1 3 < 3
                ·
                  have e1 : opVal .and .i64 a1 3 = 2 := by omega
                  exact at_ (rw := [(.bin .and .i64 (.var 0) (.lit 63), .lit (.ofNat (nat_lit 26))), (.bin .and .i64 (.var 1) (.lit 3), .lit (.ofNat (nat_lit 2)))]) (iv := []) (fun x y hm => by
                    simp only [List.mem_cons, List.not_mem_nil, or_false, Prod.mk.injEq] at hm
                    rcases hm with ⟨rfl, rfl⟩ | ⟨rfl, rfl⟩
                    · exact e0
                    · exact e1
                  ) (fun _ _ _ hm => by cases hm) r26_2 w
                ·
                  have e1 : opVal .and .i64 a1 3 = 3 := by omega
                  exact at_ (rw := [(.bin .and .i64 (.var 0) (.lit 63), .lit (.ofNat (nat_lit 26))), (.bin .and .i64 (.var 1) (.lit 3), .lit (.ofNat (nat_lit 3)))]) (iv := []) (fun x y hm => by
                    simp only [List.mem_cons, List.not_mem_nil, or_false, Prod.mk.injEq] at hm
                    rcases hm with ⟨rfl, rfl⟩ | ⟨rfl, rfl⟩
                    · exact e0
                    · exact e1
                  ) (fun _ _ _ hm => by cases hm) r26_3 w
            ·
              have e0 : opVal .and .i64 a0 63 = 27 := by omega
              have g1 := rng1 a1
              by_cases q7 : opVal .and .i64 a1 3 < 2
              ·
                by_cases q8 : opVal .and .i64 a1 3 < 1
                ·
                  have e1 : opVal .and .i64 a1 3 = 0 := by omega
                  exact at_ (rw := [(.bin .and .i64 (.var 0) (.lit 63), .lit (.ofNat (nat_lit 27))), (.bin .and .i64 (.var 1) (.lit 3), .lit (.ofNat (nat_lit 0)))]) (iv := []) (fun x y hm => by
                    simp only [List.mem_cons, List.not_mem_nil, or_false, Prod.mk.injEq] at hm
                    rcases hm with ⟨rfl, rfl⟩ | ⟨rfl, rfl⟩
                    · exact e0
                    · exact e1
                  ) (fun _ _ _ hm => by cases hm) r27_0 w
                ·
                  have e1 : opVal .and .i64 a1 3 = 1 := by omega
                  exact at_ (rw := [(.bin .and .i64 (.var 0) (.lit 63), .lit (.ofNat (nat_lit 27))), (.bin .and .i64 (.var 1) (.lit 3), .lit (.ofNat (nat_lit 1)))]) (iv := []) (fun x y hm => by
                    simp only [List.mem_cons, List.not_mem_nil, or_false, Prod.mk.injEq] at hm
                    rcases hm with ⟨rfl, rfl⟩ | ⟨rfl, rfl⟩
                    · exact e0
                    · exact e1
                  ) (fun _ _ _ hm => by cases hm) r27_1 w
              ·
                by_cases q8 : opVal .and .i64 a1 3 < 3
                ·
                  have e1 : opVal .and .i64 a1 3 = 2 := by omega
                  exact at_ (rw := [(.bin .and .i64 (.var 0) (.lit 63), .lit (.ofNat (nat_lit 27))), (.bin .and .i64 (.var 1) (.lit 3), .lit (.ofNat (nat_lit 2)))]) (iv := []) (fun x y hm => by
                    simp only [List.mem_cons, List.not_mem_nil, or_false, Prod.mk.injEq] at hm
                    rcases hm with ⟨rfl, rfl⟩ | ⟨rfl, rfl⟩
                    · exact e0
                    · exact e1
                  ) (fun _ _ _ hm => by cases hm) r27_2 w
                ·
                  have e1 : opVal .and .i64 a1 3 = 3 := by omega
                  exact at_ (rw := [(.bin .and .i64 (.var 0) (.lit 63), .lit (.ofNat (nat_lit 27))), (.bin .and .i64 (.var 1) (.lit 3), .lit (.ofNat (nat_lit 3)))]) (iv := []) (fun x y hm => by
                    simp only [List.mem_cons, List.not_mem_nil, or_false, Prod.mk.injEq] at hm
                    rcases hm with ⟨rfl, rfl⟩ | ⟨rfl, rfl⟩
                    · exact e0
                    · exact e1
                  ) (fun _ _ _ hm => by cases hm) r27_3 w
        ·
          by_cases q5 : opVal .and .i64 a0 63 < 30
          ·
            by_cases q6 : opVal .and .i64 a0 63 < 29
            ·
              have e0 : opVal .and .i64 a0 63 = 28 := by omega
              have g1 := rng1 a1
              by_cases q7 : opVal .and .i64 a1 3 < 2
              ·
                by_cases q8 : opVal .and .i64 a1 3 < 1
                ·
                  have e1 : opVal .and .i64 a1 3 = 0 := by omega
                  exact at_ (rw := [(.bin .and .i64 (.var 0) (.lit 63), .lit (.ofNat (nat_lit 28))), (.bin .and .i64 (.var 1) (.lit 3), .lit (.ofNat (nat_lit 0)))]) (iv := []) (fun x y hm => by
                    simp only [List.mem_cons, List.not_mem_nil, or_false, Prod.mk.injEq] at hm
                    rcases hm with ⟨rfl, rfl⟩ | ⟨rfl, rfl⟩
                    · exact e0
                    · exact e1
                  ) (fun _ _ _ hm => by cases hm) r28_0 w
                ·
                  have e1 : opVal .and .i64 a1 3 = 1 := by omega
                  exact at_ (rw := [(.bin .and .i64 (.var 0) (.lit 63), .lit (.ofNat (nat_lit 28))), (.bin .and .i64 (.var 1) (.lit 3), .lit (.ofNat (nat_lit 1)))]) (iv := []) (fun x y hm => by
                    simp only [List.mem_cons, List.not_mem_nil, or_false, Prod.mk.injEq] at hm
                    rcases hm with ⟨rfl, rfl⟩ | ⟨rfl, rfl⟩
                    · exact e0
                    · exact e1
                  ) (fun _ _ _ hm => by cases hm) r28_1 w
              ·
                by_cases q8 : opVal .and .i64 a1 3 < 3
                ·
                  have e1 : opVal .and .i64 a1 3 = 2 := by omega
                  exact at_ (rw := [(.bin .and .i64 (.var 0) (.lit 63), .lit (.ofNat (nat_lit 28))), (.bin .and .i64 (.var 1) (.lit 3), .lit (.ofNat (nat_lit 2)))]) (iv := []) (fun x y hm => by
                    simp only [List.mem_cons, List.not_mem_nil, or_false, Prod.mk.injEq] at hm
                    rcases hm with ⟨rfl, rfl⟩ | ⟨rfl, rfl⟩
                    · exact e0
                    · exact e1
                  ) (fun _ _ _ hm => by cases hm) r28_2 w
                ·
                  have e1 : opVal .and .i64 a1 3 = 3 := by omega
                  exact at_ (rw := [(.bin .and .i64 (.var 0) (.lit 63), .lit (.ofNat (nat_lit 28))), (.bin .and .i64 (.var 1) (.lit 3), .lit (.ofNat (nat_lit 3)))]) (iv := []) (fun x y hm => by
                    simp only [List.mem_cons, List.not_mem_nil, or_false, Prod.mk.injEq] at hm
                    rcases hm with ⟨rfl, rfl⟩ | ⟨rfl, rfl⟩
                    · exact e0
                    · exact e1
                  ) (fun _ _ _ hm => by cases hm) r28_3 w
            ·
              have e0 : opVal .and .i64 a0 63 = 29 := by omega
              have g1 := rng1 a1
              by_cases q7 : opVal .and .i64 a1 3 < 2
              ·
                by_cases q8 : opVal .and .i64 a1 3 < 1
                ·
                  have e1 : opVal .and .i64 a1 3 = 0 := by omega
                  exact at_ (rw := [(.bin .and .i64 (.var 0) (.lit 63), .lit (.ofNat (nat_lit 29))), (.bin .and .i64 (.var 1) (.lit 3), .lit (.ofNat (nat_lit 0)))]) (iv := []) (fun x y hm => by
                    simp only [List.mem_cons, List.not_mem_nil, or_false, Prod.mk.injEq] at hm
                    rcases hm with ⟨rfl, rfl⟩ | ⟨rfl, rfl⟩
                    · exact e0
                    · exact e1
                  ) (fun _ _ _ hm => by cases hm) r29_0 w
                ·
                  have e1 : opVal .and .i64 a1 3 = 1 := by omega
                  exact at_ (rw := [(.bin .and .i64 (.var 0) (.lit 63), .lit (.ofNat (nat_lit 29))), (.bin .and .i64 (.var 1) (.lit 3), .lit (.ofNat (nat_lit 1)))]) (iv := []) (fun x y hm => by
                    simp only [List.mem_cons, List.not_mem_nil, or_false, Prod.mk.injEq] at hm
                    rcases hm with ⟨rfl, rfl⟩ | ⟨rfl, rfl⟩
                    · exact e0
                    · exact e1
                  ) (fun _ _ _ hm => by cases hm) r29_1 w
              ·
                by_cases q8 : opVal .and .i64 a1 3 < 3
                ·
                  have e1 : opVal .and .i64 a1 3 = 2 := by omega
                  exact at_ (rw := [(.bin .and .i64 (.var 0) (.lit 63), .lit (.ofNat (nat_lit 29))), (.bin .and .i64 (.var 1) (.lit 3), .lit (.ofNat (nat_lit 2)))]) (iv := []) (fun x y hm => by
                    simp only [List.mem_cons, List.not_mem_nil, or_false, Prod.mk.injEq] at hm
                    rcases hm with ⟨rfl, rfl⟩ | ⟨rfl, rfl⟩
                    · exact e0
                    · exact e1
                  ) (fun _ _ _ hm => by cases hm) r29_2 w
                ·
                  have e1 : opVal .and .i64 a1 3 = 3 := by omega
                  exact at_ (rw := [(.bin .and .i64 (.var 0) (.lit 63), .lit (.ofNat (nat_lit 29))), (.bin .and .i64 (.var 1) (.lit 3), .lit (.ofNat (nat_lit 3)))]) (iv := []) (fun x y hm => by
                    simp only [List.mem_cons, List.not_mem_nil, or_false, Prod.mk.injEq] at hm
                    rcases hm with ⟨rfl, rfl⟩ | ⟨rfl, rfl⟩
                    · exact e0
                    · exact e1
                  ) (fun _ _ _ hm => by cases hm) r29_3 w
          ·
            by_cases q6 : opVal .and .i64 a0 63 < 31
            ·
              have e0 : opVal .and .i64 a0 63 = 30 := by omega
              have g1 := rng1 a1
              by_cases q7 : opVal .and .i64 a1 3 < 2
              ·
                by_cases q8 : opVal .and .i64 a1 3 < 1
                ·
                  have e1 : opVal .and .i64 a1 3 = 0 := by omega
                  exact at_ (rw := [(.bin .and .i64 (.var 0) (.lit 63), .lit (.ofNat (nat_lit 30))), (.bin .and .i64 (.var 1) (.lit 3), .lit (.ofNat (nat_lit 0)))]) (iv := []) (fun x y hm => by
                    simp only [List.mem_cons, List.not_mem_nil, or_false, Prod.mk.injEq] at hm
                    rcases hm with ⟨rfl, rfl⟩ | ⟨rfl, rfl⟩
                    · exact e0
                    · exact e1
                  ) (fun _ _ _ hm => by cases hm) r30_0 w
                ·
                  have e1 : opVal .and .i64 a1 3 = 1 := by omega
                  exact at_ (rw := [(.bin .and .i64 (.var 0) (.lit 63), .lit (.ofNat (nat_lit 30))), (.bin .and .i64 (.var 1) (.lit 3), .lit (.ofNat (nat_lit 1)))]) (iv := []) (fun x y hm => by
                    simp only [List.mem_cons, List.not_mem_nil, or_false, Prod.mk.injEq] at hm
                    rcases hm with ⟨rfl, rfl⟩ | ⟨rfl, rfl⟩
                    · exact e0
                    · exact e1
                  ) (fun _ _ _ hm => by cases hm) r30_1 w
              ·
                by_cases q8 : opVal .and .i64 a1 3 < 3
                ·
                  have e1 : opVal .and .i64 a1 3 = 2 := by omega
                  exact at_ (rw := [(.bin .and .i64 (.var 0) (.lit 63), .lit (.ofNat (nat_lit 30))), (.bin .and .i64 (.var 1) (.lit 3), .lit (.ofNat (nat_lit 2)))]) (iv := []) (fun x y hm => by
                    simp only [List.mem_cons, List.not_mem_nil, or_false, Prod.mk.injEq] at hm
                    rcases hm with ⟨rfl, rfl⟩ | ⟨rfl, rfl⟩
                    · exact e0
                    · exact e1
                  ) (fun _ _ _ hm => by cases hm) r30_2 w
                ·
                  have e1 : opVal .and .i64 a1 3 = 3 := by omega
                  exact at_ (rw := [(.bin .and .i64 (.var 0) (.lit 63), .lit (.ofNat (nat_lit 30))), (.bin .and .i64 (.var 1) (.lit 3), .lit (.ofNat (nat_lit 3)))]) (iv := []) (fun x y hm => by
                    simp only [List.mem_cons, List.not_mem_nil, or_false, Prod.mk.injEq] at hm
                    rcases hm with ⟨rfl, rfl⟩ | ⟨rfl, rfl⟩
                    · exact e0
                    · exact e1
                  ) (fun _ _ _ hm => by cases hm) r30_3 w
            ·
              have e0 : opVal .and .i64 a0 63 = 31 := by omega
              have g1 := rng1 a1
              by_cases q7 : opVal .and .i64 a1 3 < 2
              ·
                by_cases q8 : opVal .and .i64 a1 3 < 1
                ·
                  have e1 : opVal .and .i64 a1 3 = 0 := by omega
                  exact at_ (rw := [(.bin .and .i64 (.var 0) (.lit 63), .lit (.ofNat (nat_lit 31))), (.bin .and .i64 (.var 1) (.lit 3), .lit (.ofNat (nat_lit 0)))]) (iv := []) (fun x y hm => by
                    simp only [List.mem_cons, List.not_mem_nil, or_false, Prod.mk.injEq] at hm
                    rcases hm with ⟨rfl, rfl⟩ | ⟨rfl, rfl⟩
                    · exact e0
                    · exact e1
                  ) (fun _ _ _ hm => by cases hm) r31_0 w
                ·
                  have e1 : opVal .and .i64 a1 3 = 1 := by omega
                  exact at_ (rw := [(.bin .and .i64 (.var 0) (.lit 63), .lit (.ofNat (nat_lit 31))), (.bin .and .i64 (.var 1) (.lit 3), .lit (.ofNat (nat_lit 1)))]) (iv := []) (fun x y hm => by
                    simp only [List.mem_cons, List.not_mem_nil, or_false, Prod.mk.injEq] at hm
                    rcases hm with ⟨rfl, rfl⟩ | ⟨rfl, rfl⟩
                    · exact e0
                    · exact e1
                  ) (fun _ _ _ hm => by cases hm) r31_1 w
              ·
                by_cases q8 : opVal .and .i64 a1 3 < 3
                ·
                  have e1 : opVal .and .i64 a1 3 = 2 := by omega
                  exact at_ (rw := [(.bin .and .i64 (.var 0) (.lit 63), .lit (.ofNat (nat_lit 31))), (.bin .and .i64 (.var 1) (.lit 3), .lit (.ofNat (nat_lit 2)))]) (iv := []) (fun x y hm => by
                    simp only [List.mem_cons, List.not_mem_nil, or_false, Prod.mk.injEq] at hm
                    rcases hm with ⟨rfl, rfl⟩ | ⟨rfl, rfl⟩
                    · exact e0
                    · exact e1
                  ) (fun _ _ _ hm => by cases hm) r31_2 w
                ·
                  have e1 : opVal .and .i64 a1 3 = 3 := by omega
                  exact at_ (rw := [(.bin .and .i64 (.var 0) (.lit 63), .lit (.ofNat (nat_lit 31))), (.bin .and .i64 (.var 1) (.lit 3), .lit (.ofNat (nat_lit 3)))]) (iv := []) (fun x y hm => by
                    simp only [List.mem_cons, List.not_mem_nil, or_false, Prod.mk.injEq] at hm
                    rcases hm with ⟨rfl, rfl⟩ | ⟨rfl, rfl⟩
                    · exact e0
                    · exact e1
                  ) (fun _ _ _ hm => by cases hm) r31_3 w
  ·
    by_cases q2 : opVal .and .i64 a0 63 < 48
    ·
      by_cases q3 : opVal .and .i64 a0 63 < 40
      ·
        by_cases q4 : opVal .and .i64 a0 63 < 36
        ·
          by_cases q5 : opVal .and .i64 a0 63 < 34
          ·
            by_cases q6 : opVal .and .i64 a0 63 < 33
            ·
              have e0 : opVal .and .i64 a0 63 = 32 := by omega
              have g1 := rng1 a1
              by_cases q7 : opVal .and .i64 a1 3 < 2
              ·
                by_cases q8 : opVal .and .i64 a1 3 < 1
                ·
                  have e1 : opVal .and .i64 a1 3 = 0 := by omega
                  exact at_ (rw := [(.bin .and .i64 (.var 0) (.lit 63), .lit (.ofNat (nat_lit 32))), (.bin .and .i64 (.var 1) (.lit 3), .lit (.ofNat (nat_lit 0)))]) (iv := []) (fun x y hm => by
                    simp only [List.mem_cons, List.not_mem_nil, or_false, Prod.mk.injEq] at hm
                    rcases hm with ⟨rfl, rfl⟩ | ⟨rfl, rfl⟩
                    · exact e0
                    · exact e1
                  ) (fun _ _ _ hm => by cases hm) r32_0 w
                ·
                  have e1 : opVal .and .i64 a1 3 = 1 := by omega
                  exact at_ (rw := [(.bin .and .i64 (.var 0) (.lit 63), .lit (.ofNat (nat_lit 32))), (.bin .and .i64 (.var 1) (.lit 3), .lit (.ofNat (nat_lit 1)))]) (iv := []) (fun x y hm => by
                    simp only [List.mem_cons, List.not_mem_nil, or_false, Prod.mk.injEq] at hm
                    rcases hm with ⟨rfl, rfl⟩ | ⟨rfl, rfl⟩
                    · exact e0
                    · exact e1
                  ) (fun _ _ _ hm => by cases hm) r32_1 w
              ·
                by_cases q8 : opVal .and .i64 a1 3 < 3
                ·
                  have e1 : opVal .and .i64 a1 3 = 2 := by omega
                  exact at_ (rw := [(.bin .and .i64 (.var 0) (.lit 63), .lit (.ofNat (nat_lit 32))), (.bin .and .i64 (.var 1) (.lit 3), .lit (.ofNat (nat_lit 2)))]) (iv := []) (fun x y hm => by
                    simp only [List.mem_cons, List.not_mem_nil, or_false, Prod.mk.injEq] at hm
                    rcases hm with ⟨rfl, rfl⟩ | ⟨rfl, rfl⟩
                    · exact e0
                    · exact e1
                  ) (fun _ _ _ hm => by cases hm) r32_2 w
                ·
                  have e1 : opVal .and .i64 a1 3 = 3 := by omega
                  exact at_ (rw := [(.bin .and .i64 (.var 0) (.lit 63), .lit (.ofNat (nat_lit 32))), (.bin .and .i64 (.var 1) (.lit 3), .lit (.ofNat (nat_lit 3)))]) (iv := []) (fun x y hm => by
                    simp only [List.mem_cons, List.not_mem_nil, or_false, Prod.mk.injEq] at hm
                    rcases hm with ⟨rfl, rfl⟩ | ⟨rfl, rfl⟩
                    · exact e0
                    · exact e1
                  ) (fun _ _ _ hm => by cases hm) r32_3 w
            ·
              have e0 : opVal .and .i64 a0 63 = 33 := by omega
              have g1 := rng1 a1
              by_cases q7 : opVal .and .i64 a1 3 < 2
              ·
                by_cases q8 : opVal .and .i64 a1 3 < 1
                ·
                  have e1 : opVal .and .i64 a1 3 = 0 := by omega
                  exact at_ (rw := [(.bin .and .i64 (.var 0) (.lit 63), .lit (.ofNat (nat_lit 33))), (.bin .and .i64 (.var 1) (.lit 3), .lit (.ofNat (nat_lit 0)))]) (iv := []) (fun x y hm => by
                    simp only [List.mem_cons, List.not_mem_nil, or_false, Prod.mk.injEq] at hm
                    rcases hm with ⟨rfl, rfl⟩ | ⟨rfl, rfl⟩
                    · exact e0
                    · exact e1
                  ) (fun _ _ _ hm => by cases hm) r33_0 w
                ·
                  have e1 : opVal .and .i64 a1 3 = 1 := by omega
                  exact at_ (rw := [(.bin .and .i64 (.var 0) (.lit 63), .lit (.ofNat (nat_lit 33))), (.bin .and .i64 (.var 1) (.lit 3), .lit (.ofNat (nat_lit 1)))]) (iv := []) (fun x y hm => by
                    simp only [List.mem_cons, List.not_mem_nil, or_false, Prod.mk.injEq] at hm
                    rcases hm with ⟨rfl, rfl⟩ | ⟨rfl, rfl⟩
                    · exact e0
                    · exact e1
                  ) (fun _ _ _ hm => by cases hm) r33_1 w
              ·
                by_cases q8 : opVal .and .i64 a1 3 < 3
                ·
                  have e1 : opVal .and .i64 a1 3 = 2 := by omega
                  exact at_ (rw := [(.bin .and .i64 (.var 0) (.lit 63), .lit (.ofNat (nat_lit 33))), (.bin .and .i64 (.var 1) (.lit 3), .lit (.ofNat (nat_lit 2)))]) (iv := []) (fun x y hm => by
                    simp only [List.mem_cons, List.not_mem_nil, or_false, Prod.mk.injEq] at hm
                    rcases hm with ⟨rfl, rfl⟩ | ⟨rfl, rfl⟩
                    · exact e0
                    · exact e1
                  ) (fun _ _ _ hm => by cases hm) r33_2 w
                ·
                  have e1 : opVal .and .i64 a1 3 = 3 := by omega
                  exact at_ (rw := [(.bin .and .i64 (.var 0) (.lit 63), .lit (.ofNat (nat_lit 33))), (.bin .and .i64 (.var 1) (.lit 3), .lit (.ofNat (nat_lit 3)))]) (iv := []) (fun x y hm => by
                    simp only [List.mem_cons, List.not_mem_nil, or_false, Prod.mk.injEq] at hm
                    rcases hm with ⟨rfl, rfl⟩ | ⟨rfl, rfl⟩
                    · exact e0
                    · exact e1
                  ) (fun _ _ _ hm => by cases hm) r33_3 w
          ·
            by_cases q6 : opVal .and .i64 a0 63 < 35
            ·
              have e0 : opVal .and .i64 a0 63 = 34 := by omega
              have g1 := rng1 a1
              by_cases q7 : opVal .and .i64 a1 3 < 2
              ·
                by_cases q8 : opVal .and .i64 a1 3 < 1
                ·
                  have e1 : opVal .and .i64 a1 3 = 0 := by omega
                  exact at_ (rw := [(.bin .and .i64 (.var 0) (.lit 63), .lit (.ofNat (nat_lit 34))), (.bin .and .i64 (.var 1) (.lit 3), .lit (.ofNat (nat_lit 0)))]) (iv := []) (fun x y hm => by
                    simp only [List.mem_cons, List.not_mem_nil, or_false, Prod.mk.injEq] at hm
                    rcases hm with ⟨rfl, rfl⟩ | ⟨rfl, rfl⟩
                    · exact e0
                    · exact e1
                  ) (fun _ _ _ hm => by cases hm) r34_0 w
                ·
                  have e1 : opVal .and .i64 a1 3 = 1 := by omega
                  exact at_ (rw := [(.bin .and .i64 (.var 0) (.lit 63), .lit (.ofNat (nat_lit 34))), (.bin .and .i64 (.var 1) (.lit 3), .lit (.ofNat (nat_lit 1)))]) (iv := []) (fun x y hm => by
                    simp only [List.mem_cons, List.not_mem_nil, or_false, Prod.mk.injEq] at hm
                    rcases hm with ⟨rfl, rfl⟩ | ⟨rfl, rfl⟩
                    · exact e0
                    · exact e1
                  ) (fun _ _ _ hm => by cases hm) r34_1 w
              ·
                by_cases q8 : opVal .and .i64 a1 3 < 3
                ·
                  have e1 : opVal .and .i64 a1 3 = 2 := by omega
                  exact at_ (rw := [(.bin .and .i64 (.var 0) (.lit 63), .lit (.ofNat (nat_lit 34))), (.bin .and .i64 (.var 1) (.lit 3), .lit (.ofNat (nat_lit 2)))]) (iv := []) (fun x y hm => by
                    simp only [List.mem_cons, List.not_mem_nil, or_false, Prod.mk.injEq] at hm
                    rcases hm with ⟨rfl, rfl⟩ | ⟨rfl, rfl⟩
                    · exact e0
                    · exact e1
                  ) (fun _ _ _ hm => by cases hm) r34_2 w
                ·
                  have e1 : opVal .and .i64 a1 3 = 3 := by omega
                  exact at_ (rw := [(.bin .and .i64 (.var 0) (.lit 63), .lit (.ofNat (nat_lit 34))), (.bin .and .i64 (.var 1) (.lit 3), .lit (.ofNat (nat_lit 3)))]) (iv := []) (fun x y hm => by
                    simp only [List.mem_cons, List.not_mem_nil, or_false, Prod.mk.injEq] at hm
                    rcases hm with ⟨rfl, rfl⟩ | ⟨rfl, rfl⟩
                    · exact e0
                    · exact e1
                  ) (fun _ _ _ hm => by cases hm) r34_3 w
            ·
              have e0 : opVal .and .i64 a0 63 = 35 := by omega
              have g1 := rng1 a1
              by_cases q7 : opVal .and .i64 a1 3 < 2
              ·
                by_cases q8 : opVal .and .i64 a1 3 < 1
                ·
                  have e1 : opVal .and .i64 a1 3 = 0 := by omega
                  exact at_ (rw := [(.bin .and .i64 (.var 0) (.lit 63), .lit (.ofNat (nat_lit 35))), (.bin .and .i64 (.var 1) (.lit 3), .lit (.ofNat (nat_lit 0)))]) (iv := []) (fun x y hm => by
                    simp only [List.mem_cons, List.not_mem_nil, or_false, Prod.mk.injEq] at hm
                    rcases hm with ⟨rfl, rfl⟩ | ⟨rfl, rfl⟩
                    · exact e0
                    · exact e1
                  ) (fun _ _ _ hm => by cases hm) r35_0 w
                ·
                  have e1 : opVal .and .i64 a1 3 = 1 := by omega
                  exact at_ (rw := [(.bin .and .i64 (.var 0) (.lit 63), .lit (.ofNat (nat_lit 35))), (.bin .and .i64 (.var 1) (.lit 3), .lit (.ofNat (nat_lit 1)))]) (iv := []) (fun x y hm => by
                    simp only [List.mem_cons, List.not_mem_nil, or_false, Prod.mk.injEq] at hm
                    rcases hm with ⟨rfl, rfl⟩ | ⟨rfl, rfl⟩
                    · exact e0
                    · exact e1
                  ) (fun _ _ _ hm => by cases hm) r35_1 w
              ·
                by_cases q8 : opVal .and .i64 a1 3 < 3
                ·
                  have e1 : opVal .and .i64 a1 3 = 2 := by omega
                  exact at_ (rw := [(.bin .and .i64 (.var 0) (.lit 63), .lit (.ofNat (nat_lit 35))), (.bin .and .i64 (.var 1) (.lit 3), .lit (.ofNat (nat_lit 2)))]) (iv := []) (fun x y hm => by
                    simp only [List.mem_cons, List.not_mem_nil, or_false, Prod.mk.injEq] at hm
                    rcases hm with ⟨rfl, rfl⟩ | ⟨rfl, rfl⟩
                    · exact e0
                    · exact e1
                  ) (fun _ _ _ hm => by cases hm) r35_2 w
                ·
                  have e1 : opVal .and .i64 a1 3 = 3 := by omega
                  exact at_ (rw := [(.bin .and .i64 (.var 0) (.lit 63), .lit (.ofNat (nat_lit 35))), (.bin .and .i64 (.var 1) (.lit 3), .lit (.ofNat (nat_lit 3)))]) (iv := []) (fun x y hm => by
                    simp only [List.mem_cons, List.not_mem_nil, or_false, Prod.mk.injEq] at hm
                    rcases hm with ⟨rfl, rfl⟩ | ⟨rfl, rfl⟩
                    · exact e0
                    · exact e1
                  ) (fun _ _ _ hm => by cases hm) r35_3 w
        ·
          by_cases q5 : opVal .and .i64 a0 63 < 38
          ·
            by_cases q6 : opVal .and .i64 a0 63 < 37
            ·
              have e0 : opVal .and .i64 a0 63 = 36 := by omega
              have g1 := rng1 a1
              by_cases q7 : opVal .and .i64 a1 3 < 2
              ·
                by_cases q8 : opVal .and .i64 a1 3 < 1
                ·
                  have e1 : opVal .and .i64 a1 3 = 0 := by omega
                  exact at_ (rw := [(.bin .and .i64 (.var 0) (.lit 63), .lit (.ofNat (nat_lit 36))), (.bin .and .i64 (.var 1) (.lit 3), .lit (.ofNat (nat_lit 0)))]) (iv := []) (fun x y hm => by
                    simp only [List.mem_cons, List.not_mem_nil, or_false, Prod.mk.injEq] at hm
                    rcases hm with ⟨rfl, rfl⟩ | ⟨rfl, rfl⟩
                    · exact e0
                    · exact e1
                  ) (fun _ _ _ hm => by cases hm) r36_0 w
                ·
                  have e1 : opVal .and .i64 a1 3 = 1 := by omega
                  exact at_ (rw := [(.bin .and .i64 (.var 0) (.lit 63), .lit (.ofNat (nat_lit 36))), (.bin .and .i64 (.var 1) (.lit 3), .lit (.ofNat (nat_lit 1)))]) (iv := []) (fun x y hm => by
                    simp only [List.mem_cons, List.not_mem_nil, or_false, Prod.mk.injEq] at hm
                    rcases hm with ⟨rfl, rfl⟩ | ⟨rfl, rfl⟩
                    · exact e0
                    · exact e1
                  ) (fun _ _ _ hm => by cases hm) r36_1 w
              ·
                by_cases q8 : opVal .and .i64 a1 3 < 3
                ·
                  have e1 : opVal .and .i64 a1 3 = 2 := by omega
                  exact at_ (rw := [(.bin .and .i64 (.var 0) (.lit 63), .lit (.ofNat (nat_lit 36))), (.bin .and .i64 (.var 1) (.lit 3), .lit (.ofNat (nat_lit 2)))]) (iv := []) (fun x y hm => by
                    simp only [List.mem_cons, List.not_mem_nil, or_false, Prod.mk.injEq] at hm
                    rcases hm with ⟨rfl, rfl⟩ | ⟨rfl, rfl⟩
                    · exact e0
                    · exact e1
                  ) (fun _ _ _ hm => by cases hm) r36_2 w
                ·
                  have e1 : opVal .and .i64 a1 3 = 3 := by omega
                  exact at_ (rw := [(.bin .and .i64 (.var 0) (.lit 63), .lit (.ofNat (nat_lit 36))), (.bin .and .i64 (.var 1) (.lit 3), .lit (.ofNat (nat_lit 3)))]) (iv := []) (fun x y hm => by
                    simp only [List.mem_cons, List.not_mem_nil, or_false, Prod.mk.injEq] at hm
                    rcases hm with ⟨rfl, rfl⟩ | ⟨rfl, rfl⟩
                    · exact e0
                    · exact e1
                  ) (fun _ _ _ hm => by cases hm) r36_3 w
            ·
              have e0 : opVal .and .i64 a0 63 = 37 := by omega
              have g1 := rng1 a1
              by_cases q7 : opVal .and .i64 a1 3 < 2
              ·
                by_cases q8 : opVal .and .i64 a1 3 < 1
                ·
                  have e1 : opVal .and .i64 a1 3 = 0 := by omega
                  exact at_ (rw := [(.bin .and .i64 (.var 0) (.lit 63), .lit (.ofNat (nat_lit 37))), (.bin .and .i64 (.var 1) (.lit 3), .lit (.ofNat (nat_lit 0)))]) (iv := []) (fun x y hm => by
                    simp only [List.mem_cons, List.not_mem_nil, or_false, Prod.mk.injEq] at hm
                    rcases hm with ⟨rfl, rfl⟩ | ⟨rfl, rfl⟩
                    · exact e0
                    · exact e1
                  ) (fun _ _ _ hm => by cases hm) r37_0 w
                ·
                  have e1 : opVal .and .i64 a1 3 = 1 := by omega
                  exact at_ (rw := [(.bin .and .i64 (.var 0) (.lit 63), .lit (.ofNat (nat_lit 37))), (.bin .and .i64 (.var 1) (.lit 3), .lit (.ofNat (nat_lit 1)))]) (iv := []) (fun x y hm => by
                    simp only [List.mem_cons, List.not_mem_nil, or_false, Prod.mk.injEq] at hm
                    rcases hm with ⟨rfl, rfl⟩ | ⟨rfl, rfl⟩
                    · exact e0
                    · exact e1
                  ) (fun _ _ _ hm => by cases hm) r37_1 w
              ·
                by_cases q8 : opVal .and .i64 a1 3 < 3
                ·
                  have e1 : opVal .and .i64 a1 3 = 2 := by omega
                  exact at_ (rw := [(.bin .and .i64 (.var 0) (.lit 63), .lit (.ofNat (nat_lit 37))), (.bin .and .i64 (.var 1) (.lit 3), .lit (.ofNat (nat_lit 2)))]) (iv := []) (fun x y hm => by
                    simp only [List.mem_cons, List.not_mem_nil, or_false, Prod.mk.injEq] at hm
                    rcases hm with ⟨rfl, rfl⟩ | ⟨rfl, rfl⟩
                    · exact e0
                    · exact e1
                  ) (fun _ _ _ hm => by cases hm) r37_2 w
                ·
                  have e1 : opVal .and .i64 a1 3 = 3 := by omega
                  exact at_ (rw := [(.bin .and .i64 (.var 0) (.lit 63), .lit (.ofNat (nat_lit 37))), (.bin .and .i64 (.var 1) (.lit 3), .lit (.ofNat (nat_lit 3)))]) (iv := []) (fun x y hm => by
                    simp only [List.mem_cons, List.not_mem_nil, or_false, Prod.mk.injEq] at hm
                    rcases hm with ⟨rfl, rfl⟩ | ⟨rfl, rfl⟩
                    · exact e0
                    · exact e1
                  ) (fun _ _ _ hm => by cases hm) r37_3 w
          ·
            by_cases q6 : opVal .and .i64 a0 63 < 39
            ·
              have e0 : opVal .and .i64 a0 63 = 38 := by omega
              have g1 := rng1 a1
              by_cases q7 : opVal .and .i64 a1 3 < 2
              ·
                by_cases q8 : opVal .and .i64 a1 3 < 1
                ·
                  have e1 : opVal .and .i64 a1 3 = 0 := by omega
                  exact at_ (rw := [(.bin .and .i64 (.var 0) (.lit 63), .lit (.ofNat (nat_lit 38))), (.bin .and .i64 (.var 1) (.lit 3), .lit (.ofNat (nat_lit 0)))]) (iv := []) (fun x y hm => by
                    simp only [List.mem_cons, List.not_mem_nil, or_false, Prod.mk.injEq] at hm
                    rcases hm with ⟨rfl, rfl⟩ | ⟨rfl, rfl⟩
                    · exact e0
                    · exact e1
                  ) (fun _ _ _ hm => by cases hm) r38_0 w
                ·
                  have e1 : opVal .and .i64 a1 3 = 1 := by omega
                  exact at_ (rw := [(.bin .and .i64 (.var 0) (.lit 63), .lit (.ofNat (nat_lit 38))), (.bin .and .i64 (.var 1) (.lit 3), .lit (.ofNat (nat_lit 1)))]) (iv := []) (fun x y hm => by
                    simp only [List.mem_cons, List.not_mem_nil, or_false, Prod.mk.injEq] at hm
                    rcases hm with ⟨rfl, rfl⟩ | ⟨rfl, rfl⟩
                    · exact e0
                    · exact e1
                  ) (fun _ _ _ hm => by cases hm) r38_1 w
              ·
                by_cases q8 : opVal .and .i64 a1 3 < 3
                ·
                  have e1 : opVal .and .i64 a1 3 = 2 := by omega
                  exact at_ (rw := [(.bin .and .i64 (.var 0) (.lit 63), .lit (.ofNat (nat_lit 38))), (.bin .and .i64 (.var 1) (.lit 3), .lit (.ofNat (nat_lit 2)))]) (iv := []) (fun x y hm => by
                    simp only [List.mem_cons, List.not_mem_nil, or_false, Prod.mk.injEq] at hm
                    rcases hm with ⟨rfl, rfl⟩ | ⟨rfl, rfl⟩
                    · exact e0
                    · exact e1
                  ) (fun _ _ _ hm => by cases hm) r38_2 w
                ·
                  have e1 : opVal .and .i64 a1 3 = 3 := by omega
                  exact at_ (rw := [(.bin .and .i64 (.var 0) (.lit 63), .lit (.ofNat (nat_lit 38))), (.bin .and .i64 (.var 1) (.lit 3), .lit (.ofNat (nat_lit 3)))]) (iv := []) (fun x y hm => by
                    simp only [List.mem_cons, List.not_mem_nil, or_false, Prod.mk.injEq] at hm
                    rcases hm with ⟨rfl, rfl⟩ | ⟨rfl, rfl⟩
                    · exact e0
                    · exact e1
                  ) (fun _ _ _ hm => by cases hm) r38_3 w
            ·
              have e0 : opVal .and .i64 a0 63 = 39 := by omega
              have g1 := rng1 a1
              by_cases q7 : opVal .and .i64 a1 3 < 2
              ·
                by_cases q8 : opVal .and .i64 a1 3 < 1
                ·
                  have e1 : opVal .and .i64 a1 3 = 0 := by omega
                  exact at_ (rw := [(.bin .and .i64 (.var 0) (.lit 63), .lit (.ofNat (nat_lit 39))), (.bin .and .i64 (.var 1) (.lit 3), .lit (.ofNat (nat_lit 0)))]) (iv := []) (fun x y hm => by
                    simp only [List.mem_cons, List.not_mem_nil, or_false, Prod.mk.injEq] at hm
                    rcases hm with ⟨rfl, rfl⟩ | ⟨rfl, rfl⟩
                    · exact e0
                    · exact e1
                  ) (fun _ _ _ hm => by cases hm) r39_0 w
                ·
                  have e1 : opVal .and .i64 a1 3 = 1 := by omega
                  exact at_ (rw := [(.bin .and .i64 (.var 0) (.lit 63), .lit (.ofNat (nat_lit 39))), (.bin .and .i64 (.var 1) (.lit 3), .lit (.ofNat (nat_lit 1)))]) (iv := []) (fun x y hm => by
                    simp only [List.mem_cons, List.not_mem_nil, or_false, Prod.mk.injEq] at hm
                    rcases hm with ⟨rfl, rfl⟩ | ⟨rfl, rfl⟩
                    · exact e0
                    · exact e1
                  ) (fun _ _ _ hm => by cases hm) r39_1 w
              ·
                by_cases q8 : opVal .and .i64 a1 3 < 3
                ·
                  have e1 : opVal .and .i64 a1 3 = 2 := by omega
                  exact at_ (rw := [(.bin .and .i64 (.var 0) (.lit 63), .lit (.ofNat (nat_lit 39))), (.bin .and .i64 (.var 1) (.lit 3), .lit (.ofNat (nat_lit 2)))]) (iv := []) (fun x y hm => by
                    simp only [List.mem_cons, List.not_mem_nil, or_false, Prod.mk.injEq] at hm
                    rcases hm with ⟨rfl, rfl⟩ | ⟨rfl, rfl⟩
                    · exact e0
                    · exact e1
                  ) (fun _ _ _ hm => by cases hm) r39_2 w
                ·
                  have e1 : opVal .and .i64 a1 3 = 3 := by omega
                  exact at_ (rw := [(.bin .and .i64 (.var 0) (.lit 63), .lit (.ofNat (nat_lit 39))), (.bin .and .i64 (.var 1) (.lit 3), .lit (.ofNat (nat_lit 3)))]) (iv := []) (fun x y hm => by
                    simp only [List.mem_cons, List.not_mem_nil, or_false, Prod.mk.injEq] at hm
                    rcases hm with ⟨rfl, rfl⟩ | ⟨rfl, rfl⟩
                    · exact e0
                    · exact e1
                  ) (fun _ _ _ hm => by cases hm) r39_3 w
      ·
        by_cases q4 : opVal .and .i64 a0 63 < 44
        ·
          by_cases q5 : opVal .and .i64 a0 63 < 42
          ·
            by_cases q6 : opVal .and .i64 a0 63 < 41
            ·
              have e0 : opVal .and .i64 a0 63 = 40 := by omega
              have g1 := rng1 a1
              by_cases q7 : opVal .and .i64 a1 3 < 2
              ·
                by_cases q8 : opVal .and .i64 a1 3 < 1
                ·
                  have e1 : opVal .and .i64 a1 3 = 0 := by omega
                  exact at_ (rw := [(.bin .and .i64 (.var 0) (.lit 63), .lit (.ofNat (nat_lit 40))), (.bin .and .i64 (.var 1) (.lit 3), .lit (.ofNat (nat_lit 0)))]) (iv := []) (fun x y hm => by
                    simp only [List.mem_cons, List.not_mem_nil, or_false, Prod.mk.injEq] at hm
                    rcases hm with ⟨rfl, rfl⟩ | ⟨rfl, rfl⟩
                    · exact e0
                    · exact e1
                  ) (fun _ _ _ hm => by cases hm) r40_0 w
                ·
                  have e1 : opVal .and .i64 a1 3 = 1 := by omega
                  exact at_ (rw := [(.bin .and .i64 (.var 0) (.lit 63), .lit (.ofNat (nat_lit 40))), (.bin .and .i64 (.var 1) (.lit 3), .lit (.ofNat (nat_lit 1)))]) (iv := []) (fun x y hm => by
                    simp only [List.mem_cons, List.not_mem_nil, or_false, Prod.mk.injEq] at hm
                    rcases hm with ⟨rfl, rfl⟩ | ⟨rfl, rfl⟩
                    · exact e0
                    · exact e1
                  ) (fun _ _ _ hm => by cases hm) r40_1 w
              ·
                by_cases q8 : opVal .and .i64 a1 3 < 3
                ·
                  have e1 : opVal .and .i64 a1 3 = 2 := by omega
                  exact at_ (rw := [(.bin .and .i64 (.var 0) (.lit 63), .lit (.ofNat (nat_lit 40))), (.bin .and .i64 (.var 1) (.lit 3), .lit (.ofNat (nat_lit 2)))]) (iv := []) (fun x y hm => by
                    simp only [List.mem_cons, List.not_mem_nil, or_false, Prod.mk.injEq] at hm
                    rcases hm with ⟨rfl, rfl⟩ | ⟨rfl, rfl⟩
                    · exact e0
                    · exact e1
                  ) (fun _ _ _ hm => by cases hm) r40_2 w
                ·
                  have e1 : opVal .and .i64 a1 3 = 3 := by omega
                  exact at_ (rw := [(.bin .and .i64 (.var 0) (.lit 63), .lit (.ofNat (nat_lit 40))), (.bin .and .i64 (.var 1) (.lit 3), .lit (.ofNat (nat_lit 3)))]) (iv := []) (fun x y hm => by
                    simp only [List.mem_cons, List.not_mem_nil, or_false, Prod.mk.injEq] at hm
                    rcases hm with ⟨rfl, rfl⟩ | ⟨rfl, rfl⟩
                    · exact e0
                    · exact e1
                  ) (fun _ _ _ hm => by cases hm) r40_3 w
            ·
              have e0 : opVal .and .i64 a0 63 = 41 := by omega
              have g1 := rng1 a1
              by_cases q7 : opVal .and .i64 a1 3 < 2
              ·
                by_cases q8 : opVal .and .i64 a1 3 < 1
                ·
                  have e1 : opVal .and .i64 a1 3 = 0 := by omega
                  exact at_ (rw := [(.bin .and .i64 (.var 0) (.lit 63), .lit (.ofNat (nat_lit 41))), (.bin .and .i64 (.var 1) (.lit 3), .lit (.ofNat (nat_lit 0)))]) (iv := []) (fun x y hm => by
                    simp only [List.mem_cons, List.not_mem_nil, or_false, Prod.mk.injEq] at hm
                    rcases hm with ⟨rfl, rfl⟩ | ⟨rfl, rfl⟩
                    · exact e0
                    · exact e1
                  ) (fun _ _ _ hm => by cases hm) r41_0 w
                ·
                  have e1 : opVal .and .i64 a1 3 = 1 := by omega
                  exact at_ (rw := [(.bin .and .i64 (.var 0) (.lit 63), .lit (.ofNat (nat_lit 41))), (.bin .and .i64 (.var 1) (.lit 3), .lit (.ofNat (nat_lit 1)))]) (iv := []) (fun x y hm => by
                    simp only [List.mem_cons, List.not_mem_nil, or_false, Prod.mk.injEq] at hm
                    rcases hm with ⟨rfl, rfl⟩ | ⟨rfl, rfl⟩
                    · exact e0
                    · exact e1
                  ) (fun _ _ _ hm => by cases hm) r41_1 w
              ·
                by_cases q8 : opVal .and .i64 a1 3 < 3
                ·
                  have e1 : opVal .and .i64 a1 3 = 2 := by omega
                  exact at_ (rw := [(.bin .and .i64 (.var 0) (.lit 63), .lit (.ofNat (nat_lit 41))), (.bin .and .i64 (.var 1) (.lit 3), .lit (.ofNat (nat_lit 2)))]) (iv := []) (fun x y hm => by
                    simp only [List.mem_cons, List.not_mem_nil, or_false, Prod.mk.injEq] at hm
                    rcases hm with ⟨rfl, rfl⟩ | ⟨rfl, rfl⟩
                    · exact e0
                    · exact e1
                  ) (fun _ _ _ hm => by cases hm) r41_2 w
                ·
                  have e1 : opVal .and .i64 a1 3 = 3 := by omega
                  exact at_ (rw := [(.bin .and .i64 (.var 0) (.lit 63), .lit (.ofNat (nat_lit 41))), (.bin .and .i64 (.var 1) (.lit 3), .lit (.ofNat (nat_lit 3)))]) (iv := []) (fun x y hm => by
                    simp only [List.mem_cons, List.not_mem_nil, or_false, Prod.mk.injEq] at hm
                    rcases hm with ⟨rfl, rfl⟩ | ⟨rfl, rfl⟩
                    · exact e0
                    · exact e1
                  ) (fun _ _ _ hm => by cases hm) r41_3 w
          ·
            by_cases q6 : opVal .and .i64 a0 63 < 43
            ·
              have e0 : opVal .and .i64 a0 63 = 42 := by omega
              have g1 := rng1 a1
              by_cases q7 : opVal .and .i64 a1 3 < 2
              ·
                by_cases q8 : opVal .and .i64 a1 3 < 1
                ·
                  have e1 : opVal .and .i64 a1 3 = 0 := by omega
                  exact at_ (rw := [(.bin .and .i64 (.var 0) (.lit 63), .lit (.ofNat (nat_lit 42))), (.bin .and .i64 (.var 1) (.lit 3), .lit (.ofNat (nat_lit 0)))]) (iv := []) (fun x y hm => by
                    simp only [List.mem_cons, List.not_mem_nil, or_false, Prod.mk.injEq] at hm
                    rcases hm with ⟨rfl, rfl⟩ | ⟨rfl, rfl⟩
                    · exact e0
                    · exact e1
                  ) (fun _ _ _ hm => by cases hm) r42_0 w
                ·
                  have e1 : opVal .and .i64 a1 3 = 1 := by omega
                  exact at_ (rw := [(.bin .and .i64 (.var 0) (.lit 63), .lit (.ofNat (nat_lit 42))), (.bin .and .i64 (.var 1) (.lit 3), .lit (.ofNat (nat_lit 1)))]) (iv := []) (fun x y hm => by
                    simp only [List.mem_cons, List.not_mem_nil, or_false, Prod.mk.injEq] at hm
                    rcases hm with ⟨rfl, rfl⟩ | ⟨rfl, rfl⟩
                    · exact e0
                    · exact e1
                  ) (fun _ _ _ hm => by cases hm) r42_1 w
              ·
                by_cases q8 : opVal .and .i64 a1 3 < 3
                ·
                  have e1 : opVal .and .i64 a1 3 = 2 := by omega
                  exact at_ (rw := [(.bin .and .i64 (.var 0) (.lit 63), .lit (.ofNat (nat_lit 42))), (.bin .and .i64 (.var 1) (.lit 3), .lit (.ofNat (nat_lit 2)))]) (iv := []) (fun x y hm => by
                    simp only [List.mem_cons, List.not_mem_nil, or_false, Prod.mk.injEq] at hm
                    rcases hm with ⟨rfl, rfl⟩ | ⟨rfl, rfl⟩
                    · exact e0
                    · exact e1
                  ) (fun _ _ _ hm => by cases hm) r42_2 w
                ·
                  have e1 : opVal .and .i64 a1 3 = 3 := by omega
                  exact at_ (rw := [(.bin .and .i64 (.var 0) (.lit 63), .lit (.ofNat (nat_lit 42))), (.bin .and .i64 (.var 1) (.lit 3), .lit (.ofNat (nat_lit 3)))]) (iv := []) (fun x y hm => by
                    simp only [List.mem_cons, List.not_mem_nil, or_false, Prod.mk.injEq] at hm
                    rcases hm with ⟨rfl, rfl⟩ | ⟨rfl, rfl⟩
                    · exact e0
                    · exact e1
                  ) (fun _ _ _ hm => by cases hm) r42_3 w
            ·
              have e0 : opVal .and .i64 a0 63 = 43 := by omega
              have g1 := rng1 a1
              by_cases q7 : opVal .and .i64 a1 3 < 2
              ·
                by_cases q8 : opVal .and .i64 a1 3 < 1
                ·
                  have e1 : opVal .and .i64 a1 3 = 0 := by omega
                  exact at_ (rw := [(.bin .and .i64 (.var 0) (.lit 63), .lit (.ofNat (nat_lit 43))), (.bin .and .i64 (.var 1) (.lit 3), .lit (.ofNat (nat_lit 0)))]) (iv := []) (fun x y hm => by
                    simp only [List.mem_cons, List.not_mem_nil, or_false, Prod.mk.injEq] at hm
                    rcases hm with ⟨rfl, rfl⟩ | ⟨rfl, rfl⟩
                    · exact e0
                    · exact e1
                  ) (fun _ _ _ hm => by cases hm) r43_0 w
                ·
                  have e1 : opVal .and .i64 a1 3 = 1 := by omega
                  exact at_ (rw := [(.bin .and .i64 (.var 0) (.lit 63), .lit (.ofNat (nat_lit 43))), (.bin .and .i64 (.var 1) (.lit 3), .lit (.ofNat (nat_lit 1)))]) (iv := []) (fun x y hm => by
                    simp only [List.mem_cons, List.not_mem_nil, or_false, Prod.mk.injEq] at hm
                    rcases hm with ⟨rfl, rfl⟩ | ⟨rfl, rfl⟩
                    · exact e0
                    · exact e1
                  ) (fun _ _ _ hm => by cases hm) r43_1 w
              ·
                by_cases q8 : opVal .and .i64 a1 3 < 3
                ·
                  have e1 : opVal .and .i64 a1 3 = 2 := by omega
                  exact at_ (rw := [(.bin .and .i64 (.var 0) (.lit 63), .lit (.ofNat (nat_lit 43))), (.bin .and .i64 (.var 1) (.lit 3), .lit (.ofNat (nat_lit 2)))]) (iv := []) (fun x y hm => by
                    simp only [List.mem_cons, List.not_mem_nil, or_false, Prod.mk.injEq] at hm
                    rcases hm with ⟨rfl, rfl⟩ | ⟨rfl, rfl⟩
                    · exact e0
                    · exact e1
                  ) (fun _ _ _ hm => by cases hm) r43_2 w
                ·
                  have e1 : opVal .and .i64 a1 3 = 3 := by omega
                  exact at_ (rw := [(.bin .and .i64 (.var 0) (.lit 63), .lit (.ofNat (nat_lit 43))), (.bin .and .i64 (.var 1) (.lit 3), .lit (.ofNat (nat_lit 3)))]) (iv := []) (fun x y hm => by
                    simp only [List.mem_cons, List.not_mem_nil, or_false, Prod.mk.injEq] at hm
                    rcases hm with ⟨rfl, rfl⟩ | ⟨rfl, rfl⟩
                    · exact e0
                    · exact e1
                  ) (fun _ _ _ hm => by cases hm) r43_3 w
        ·
          by_cases q5 : opVal .and .i64 a0 63 < 46
          ·
            by_cases q6 : opVal .and .i64 a0 63 < 45
            ·
              have e0 : opVal .and .i64 a0 63 = 44 := by omega
              have g1 := rng1 a1
              by_cases q7 : opVal .and .i64 a1 3 < 2
              ·
                by_cases q8 : opVal .and .i64 a1 3 < 1
                ·
                  have e1 : opVal .and .i64 a1 3 = 0 := by omega
                  exact at_ (rw := [(.bin .and .i64 (.var 0) (.lit 63), .lit (.ofNat (nat_lit 44))), (.bin .and .i64 (.var 1) (.lit 3), .lit (.ofNat (nat_lit 0)))]) (iv := []) (fun x y hm => by
                    simp only [List.mem_cons, List.not_mem_nil, or_false, Prod.mk.injEq] at hm
                    rcases hm with ⟨rfl, rfl⟩ | ⟨rfl, rfl⟩
                    · exact e0
                    · exact e1
                  ) (fun _ _ _ hm => by cases hm) r44_0 w
                ·
                  have e1 : opVal .and .i64 a1 3 = 1 := by omega
                  exact at_ (rw := [(.bin .and .i64 (.var 0) (.lit 63), .lit (.ofNat (nat_lit 44))), (.bin .and .i64 (.var 1) (.lit 3), .lit (.ofNat (nat_lit 1)))]) (iv := []) (fun x y hm => by
                    simp only [List.mem_cons, List.not_mem_nil, or_false, Prod.mk.injEq] at hm
                    rcases hm with ⟨rfl, rfl⟩ | ⟨rfl, rfl⟩
                    · exact e0
                    · exact e1
                  ) (fun _ _ _ hm => by cases hm) r44_1 w
              ·
                by_cases q8 : opVal .and .i64 a1 3 < 3
                ·
                  have e1 : opVal .and .i64 a1 3 = 2 := by omega
                  exact at_ (rw := [(.bin .and .i64 (.var 0) (.lit 63), .lit (.ofNat (nat_lit 44))), (.bin .and .i64 (.var 1) (.lit 3), .lit (.ofNat (nat_lit 2)))]) (iv := []) (fun x y hm => by
                    simp only [List.mem_cons, List.not_mem_nil, or_false, Prod.mk.injEq] at hm
                    rcases hm with ⟨rfl, rfl⟩ | ⟨rfl, rfl⟩
                    · exact e0
                    · exact e1
                  ) (fun _ _ _ hm => by cases hm) r44_2 w
                ·
                  have e1 : opVal .and .i64 a1 3 = 3 := by omega
                  exact at_ (rw := [(.bin .and .i64 (.var 0) (.lit 63), .lit (.ofNat (nat_lit 44))), (.bin .and .i64 (.var 1) (.lit 3), .lit (.ofNat (nat_lit 3)))]) (iv := []) (fun x y hm => by
                    simp only [List.mem_cons, List.not_mem_nil, or_false, Prod.mk.injEq] at hm
                    rcases hm with ⟨rfl, rfl⟩ | ⟨rfl, rfl⟩
                    · exact e0
                    · exact e1
                  ) (fun _ _ _ hm => by cases hm) r44_3 w
            ·
              have e0 : opVal .and .i64 a0 63 = 45 := by omega
              have g1 := rng1 a1
              by_cases q7 : opVal .and .i64 a1 3 < 2
              ·
                by_cases q8 : opVal .and .i64 a1 3 < 1
                ·
                  have e1 : opVal .and .i64 a1 3 = 0 := by omega
                  exact at_ (rw := [(.bin .and .i64 (.var 0) (.lit 63), .lit (.ofNat (nat_lit 45))), (.bin .and .i64 (.var 1) (.lit 3), .lit (.ofNat (nat_lit 0)))]) (iv := []) (fun x y hm => by
                    simp only [List.mem_cons, List.not_mem_nil, or_false, Prod.mk.injEq] at hm
                    rcases hm with ⟨rfl, rfl⟩ | ⟨rfl, rfl⟩
                    · exact e0
                    · exact e1
                  ) (fun _ _ _ hm => by cases hm) r45_0 w
                ·
                  have e1 : opVal .and .i64 a1 3 = 1 := by omega
                  exact at_ (rw := [(.bin .and .i64 (.var 0) (.lit 63), .lit (.ofNat (nat_lit 45))), (.bin .and .i64 (.var 1) (.lit 3), .lit (.ofNat (nat_lit 1)))]) (iv := []) (fun x y hm => by
                    simp only [List.mem_cons, List.not_mem_nil, or_false, Prod.mk.injEq] at hm
                    rcases hm with ⟨rfl, rfl⟩ | ⟨rfl, rfl⟩
                    · exact e0
                    · exact e1
                  ) (fun _ _ _ hm => by cases hm) r45_1 w
              ·
                by_cases q8 : opVal .and .i64 a1 3 < 3
                ·
                  have e1 : opVal .and .i64 a1 3 = 2 := by omega
                  exact at_ (rw := [(.bin .and .i64 (.var 0) (.lit 63), .lit (.ofNat (nat_lit 45))), (.bin .and .i64 (.var 1) (.lit 3), .lit (.ofNat (nat_lit 2)))]) (iv := []) (fun x y hm => by
                    simp only [List.mem_cons, List.not_mem_nil, or_false, Prod.mk.injEq] at hm
                    rcases hm with ⟨rfl, rfl⟩ | ⟨rfl, rfl⟩
                    · exact e0
                    · exact e1
                  ) (fun _ _ _ hm => by cases hm) r45_2 w
                ·
                  have e1 : opVal .and .i64 a1 3 = 3 := by omega
                  exact at_ (rw := [(.bin .and .i64 (.var 0) (.lit 63), .lit (.ofNat (nat_lit 45))), (.bin .and .i64 (.var 1) (.lit 3), .lit (.ofNat (nat_lit 3)))]) (iv := []) (fun x y hm => by
                    simp only [List.mem_cons, List.not_mem_nil, or_false, Prod.mk.injEq] at hm
                    rcases hm with ⟨rfl, rfl⟩ | ⟨rfl, rfl⟩
                    · exact e0
                    · exact e1
                  ) (fun _ _ _ hm => by cases hm) r45_3 w
          ·
            by_cases q6 : opVal .and .i64 a0 63 < 47
            ·
              have e0 : opVal .and .i64 a0 63 = 46 := by omega
              have g1 := rng1 a1
              by_cases q7 : opVal .and .i64 a1 3 < 2
              ·
                by_cases q8 : opVal .and .i64 a1 3 < 1
                ·
                  have e1 : opVal .and .i64 a1 3 = 0 := by omega
                  exact at_ (rw := [(.bin .and .i64 (.var 0) (.lit 63), .lit (.ofNat (nat_lit 46))), (.bin .and .i64 (.var 1) (.lit 3), .lit (.ofNat (nat_lit 0)))]) (iv := []) (fun x y hm => by
                    simp only [List.mem_cons, List.not_mem_nil, or_false, Prod.mk.injEq] at hm
                    rcases hm with ⟨rfl, rfl⟩ | ⟨rfl, rfl⟩
                    · exact e0
                    · exact e1
                  ) (fun _ _ _ hm => by cases hm) r46_0 w
                ·
                  have e1 : opVal .and .i64 a1 3 = 1 := by omega
                  exact at_ (rw := [(.bin .and .i64 (.var 0) (.lit 63), .lit (.ofNat (nat_lit 46))), (.bin .and .i64 (.var 1) (.lit 3), .lit (.ofNat (nat_lit 1)))]) (iv := []) (fun x y hm => by
                    simp only [List.mem_cons, List.not_mem_nil, or_false, Prod.mk.injEq] at hm
                    rcases hm with ⟨rfl, rfl⟩ | ⟨rfl, rfl⟩
                    · exact e0
                    · exact e1
                  ) (fun _ _ _ hm => by cases hm) r46_1 w
              ·
                by_cases q8 : opVal .and .i64 a1 3 < 3
                ·
                  have e1 : opVal .and .i64 a1 3 = 2 := by omega
                  exact at_ (rw := [(.bin .and .i64 (.var 0) (.lit 63), .lit (.ofNat (nat_lit 46))), (.bin .and .i64 (.var 1) (.lit 3), .lit (.ofNat (nat_lit 2)))]) (iv := []) (fun x y hm => by
                    simp only [List.mem_cons, List.not_mem_nil, or_false, Prod.mk.injEq] at hm
                    rcases hm with ⟨rfl, rfl⟩ | ⟨rfl, rfl⟩
                    · exact e0
                    · exact e1
                  ) (fun _ _ _ hm => by cases hm) r46_2 w
                ·
                  have e1 : opVal .and .i64 a1 3 = 3 := by omega
                  exact at_ (rw := [(.bin .and .i64 (.var 0) (.lit 63), .lit (.ofNat (nat_lit 46))), (.bin .and .i64 (.var 1) (.lit 3), .lit (.ofNat (nat_lit 3)))]) (iv := []) (fun x y hm => by
                    simp only [List.mem_cons, List.not_mem_nil, or_false, Prod.mk.injEq] at hm
                    rcases hm with ⟨rfl, rfl⟩ | ⟨rfl, rfl⟩
                    · exact e0
                    · exact e1
                  ) (fun _ _ _ hm => by cases hm) r46_3 w
            ·
              have e0 : opVal .and .i64 a0 63 = 47 := by omega
              have g1 := rng1 a1
              by_cases q7 : opVal .and .i64 a1 3 < 2
              ·
                by_cases q8 : opVal .and .i64 a1 3 < 1
                ·
                  have e1 : opVal .and .i64 a1 3 = 0 := by omega
                  exact at_ (rw := [(.bin .and .i64 (.var 0) (.lit 63), .lit (.ofNat (nat_lit 47))), (.bin .and .i64 (.var 1) (.lit 3), .lit (.ofNat (nat_lit 0)))]) (iv := []) (fun x y hm => by
                    simp only [List.mem_cons, List.not_mem_nil, or_false, Prod.mk.injEq] at hm
                    rcases hm with ⟨rfl, rfl⟩ | ⟨rfl, rfl⟩
                    · exact e0
                    · exact e1
                  ) (fun _ _ _ hm => by cases hm) r47_0 w
                ·
                  have e1 : opVal .and .i64 a1 3 = 1 := by omega
                  exact at_ (rw := [(.bin .and .i64 (.var 0) (.lit 63), .lit (.ofNat (nat_lit 47))), (.bin .and .i64 (.var 1) (.lit 3), .lit (.ofNat (nat_lit 1)))]) (iv := []) (fun x y hm => by
                    simp only [List.mem_cons, List.not_mem_nil, or_false, Prod.mk.injEq] at hm
                    rcases hm with ⟨rfl, rfl⟩ | ⟨rfl, rfl⟩
                    · exact e0
                    · exact e1
                  ) (fun _ _ _ hm => by cases hm) r47_1 w
              ·
                by_cases q8 : opVal .and .i64 a1 3 < 3
                ·
                  have e1 : opVal .and .i64 a1 3 = 2 := by omega
                  exact at_ (rw := [(.bin .and .i64 (.var 0) (.lit 63), .lit (.ofNat (nat_lit 47))), (.bin .and .i64 (.var 1) (.lit 3), .lit (.ofNat (nat_lit 2)))]) (iv := []) (fun x y hm => by
                    simp only [List.mem_cons, List.not_mem_nil, or_false, Prod.mk.injEq] at hm
                    rcases hm with ⟨rfl, rfl⟩ | ⟨rfl, rfl⟩
                    · exact e0
                    · exact e1
                  ) (fun _ _ _ hm => by cases hm) r47_2 w
                ·
                  have e1 : opVal .and .i64 a1 3 = 3 := by omega
                  exact at_ (rw := [(.bin .and .i64 (.var 0) (.lit 63), .lit (.ofNat (nat_lit 47))), (.bin .and .i64 (.var 1) (.lit 3), .lit (.ofNat (nat_lit 3)))]) (iv := []) (fun x y hm => by
                    simp only [List.mem_cons, List.not_mem_nil, or_false, Prod.mk.injEq] at hm
                    rcases hm with ⟨rfl, rfl⟩ | ⟨rfl, rfl⟩
                    · exact e0
                    · exact e1
                  ) (fun _ _ _ hm => by cases hm) r47_3 w
    ·
      by_cases q3 : opVal .and .i64 a0 63 < 56
      ·
        by_cases q4 : opVal .and .i64 a0 63 < 52
        ·
          by_cases q5 : opVal .and .i64 a0 63 < 50
          ·
            by_cases q6 : opVal .and .i64 a0 63 < 49
            ·
              have e0 : opVal .and .i64 a0 63 = 48 := by omega
              have g1 := rng1 a1
              by_cases q7 : opVal .and .i64 a1 3 < 2
              ·
                by_cases q8 : opVal .and .i64 a1 3 < 1
                ·
                  have e1 : opVal .and .i64 a1 3 = 0 := by omega
                  exact at_ (rw := [(.bin .and .i64 (.var 0) (.lit 63), .lit (.ofNat (nat_lit 48))), (.bin .and .i64 (.var 1) (.lit 3), .lit (.ofNat (nat_lit 0)))]) (iv := []) (fun x y hm => by
                    simp only [List.mem_cons, List.not_mem_nil, or_false, Prod.mk.injEq] at hm
                    rcases hm with ⟨rfl, rfl⟩ | ⟨rfl, rfl⟩
                    · exact e0
                    · exact e1
                  ) (fun _ _ _ hm => by cases hm) r48_0 w
                ·
                  have e1 : opVal .and .i64 a1 3 = 1 := by omega
                  exact at_ (rw := [(.bin .and .i64 (.var 0) (.lit 63), .lit (.ofNat (nat_lit 48))), (.bin .and .i64 (.var 1) (.lit 3), .lit (.ofNat (nat_lit 1)))]) (iv := []) (fun x y hm => by
                    simp only [List.mem_cons, List.not_mem_nil, or_false, Prod.mk.injEq] at hm
                    rcases hm with ⟨rfl, rfl⟩ | ⟨rfl, rfl⟩
                    · exact e0
                    · exact e1
                  ) (fun _ _ _ hm => by cases hm) r48_1 w
              ·
                by_cases q8 : opVal .and .i64 a1 3 < 3
                ·
                  have e1 : opVal .and .i64 a1 3 = 2 := by omega
                  exact at_ (rw := [(.bin .and .i64 (.var 0) (.lit 63), .lit (.ofNat (nat_lit 48))), (.bin .and .i64 (.var 1) (.lit 3), .lit (.ofNat (nat_lit 2)))]) (iv := []) (fun x y hm => by
                    simp only [List.mem_cons, List.not_mem_nil, or_false, Prod.mk.injEq] at hm
                    rcases hm with ⟨rfl, rfl⟩ | ⟨rfl, rfl⟩
                    · exact e0
                    · exact e1
                  ) (fun _ _ _ hm => by cases hm) r48_2 w
                ·
                  have e1 : opVal .and .i64 a1 3 = 3 := by omega
                  exact at_ (rw := [(.bin .and .i64 (.var 0) (.lit 63), .lit (.ofNat (nat_lit 48))), (.bin .and .i64 (.var 1) (.lit 3), .lit (.ofNat (nat_lit 3)))]) (iv := []) (fun x y hm => by
                    simp only [List.mem_cons, List.not_mem_nil, or_false, Prod.mk.injEq] at hm
                    rcases hm with ⟨rfl, rfl⟩ | ⟨rfl, rfl⟩
                    · exact e0
                    · exact e1
                  ) (fun _ _ _ hm => by cases hm) r48_3 w
            ·
              have e0 : opVal .and .i64 a0 63 = 49 := by omega
              have g1 := rng1 a1
              by_cases q7 : opVal .and .i64 a1 3 < 2
              ·
                by_cases q8 : opVal .and .i64 a1 3 < 1
                ·
                  have e1 : opVal .and .i64 a1 3 = 0 := by omega
                  exact at_ (rw := [(.bin .and .i64 (.var 0) (.lit 63), .lit (.ofNat (nat_lit 49))), (.bin .and .i64 (.var 1) (.lit 3), .lit (.ofNat (nat_lit 0)))]) (iv := []) (fun x y hm => by
                    simp only [List.mem_cons, List.not_mem_nil, or_false, Prod.mk.injEq] at hm
                    rcases hm with ⟨rfl, rfl⟩ | ⟨rfl, rfl⟩
                    · exact e0
                    · exact e1
                  ) (fun _ _ _ hm => by cases hm) r49_0 w
                ·
                  have e1 : opVal .and .i64 a1 3 = 1 := by omega
                  exact at_ (rw := [(.bin .and .i64 (.var 0) (.lit 63), .lit (.ofNat (nat_lit 49))), (.bin .and .i64 (.var 1) (.lit 3), .lit (.ofNat (nat_lit 1)))]) (iv := []) (fun x y hm => by
                    simp only [List.mem_cons, List.not_mem_nil, or_false, Prod.mk.injEq] at hm
                    rcases hm with ⟨rfl, rfl⟩ | ⟨rfl, rfl⟩
                    · exact e0
                    · exact e1
                  ) (fun _ _ _ hm => by cases hm) r49_1 w
              ·
                by_cases q8 : opVal .and .i64 a1 3 < 3
                ·
                  have e1 : opVal .and .i64 a1 3 = 2 := by omega
                  exact at_ (rw := [(.bin .and .i64 (.var 0) (.lit 63), .lit (.ofNat (nat_lit 49))), (.bin .and .i64 (.var 1) (.lit 3), .lit (.ofNat (nat_lit 2)))]) (iv := []) (fun x y hm => by
                    simp only [List.mem_cons, List.not_mem_nil, or_false, Prod.mk.injEq] at hm
                    rcases hm with ⟨rfl, rfl⟩ | ⟨rfl, rfl⟩
                    · exact e0
                    · exact e1
                  ) (fun _ _ _ hm => by cases hm) r49_2 w
                ·
                  have e1 : opVal .and .i64 a1 3 = 3 := by omega
                  exact at_ (rw := [(.bin .and .i64 (.var 0) (.lit 63), .lit (.ofNat (nat_lit 49))), (.bin .and .i64 (.var 1) (.lit 3), .lit (.ofNat (nat_lit 3)))]) (iv := []) (fun x y hm => by
                    simp only [List.mem_cons, List.not_mem_nil, or_false, Prod.mk.injEq] at hm
                    rcases hm with ⟨rfl, rfl⟩ | ⟨rfl, rfl⟩
                    · exact e0
                    · exact e1
                  ) (fun _ _ _ hm => by cases hm) r49_3 w
          ·
            by_cases q6 : opVal .and .i64 a0 63 < 51
            ·
              have e0 : opVal .and .i64 a0 63 = 50 := by omega
              have g1 := rng1 a1
              by_cases q7 : opVal .and .i64 a1 3 < 2
              ·
                by_cases q8 : opVal .and .i64 a1 3 < 1
                ·
                  have e1 : opVal .and .i64 a1 3 = 0 := by omega
                  exact at_ (rw := [(.bin .and .i64 (.var 0) (.lit 63), .lit (.ofNat (nat_lit 50))), (.bin .and .i64 (.var 1) (.lit 3), .lit (.ofNat (nat_lit 0)))]) (iv := []) (fun x y hm => by
                    simp only [List.mem_cons, List.not_mem_nil, or_false, Prod.mk.injEq] at hm
                    rcases hm with ⟨rfl, rfl⟩ | ⟨rfl, rfl⟩
                    · exact e0
                    · exact e1
                  ) (fun _ _ _ hm => by cases hm) r50_0 w
                ·
                  have e1 : opVal .and .i64 a1 3 = 1 := by omega
                  exact at_ (rw := [(.bin .and .i64 (.var 0) (.lit 63), .lit (.ofNat (nat_lit 50))), (.bin .and .i64 (.var 1) (.lit 3), .lit (.ofNat (nat_lit 1)))]) (iv := []) (fun x y hm => by
                    simp only [List.mem_cons, List.not_mem_nil, or_false, Prod.mk.injEq] at hm
                    rcases hm with ⟨rfl, rfl⟩ | ⟨rfl, rfl⟩
                    · exact e0
                    · exact e1
                  ) (fun _ _ _ hm => by cases hm) r50_1 w
              ·
                by_cases q8 : opVal .and .i64 a1 3 < 3
                ·
                  have e1 : opVal .and .i64 a1 3 = 2 := by omega
                  exact at_ (rw := [(.bin .and .i64 (.var 0) (.lit 63), .lit (.ofNat (nat_lit 50))), (.bin .and .i64 (.var 1) (.lit 3), .lit (.ofNat (nat_lit 2)))]) (iv := []) (fun x y hm => by
                    simp only [List.mem_cons, List.not_mem_nil, or_false, Prod.mk.injEq] at hm
                    rcases hm with ⟨rfl, rfl⟩ | ⟨rfl, rfl⟩
                    · exact e0
                    · exact e1
                  ) (fun _ _ _ hm => by cases hm) r50_2 w
                ·
                  have e1 : opVal .and .i64 a1 3 = 3 := by omega
                  exact at_ (rw := [(.bin .and .i64 (.var 0) (.lit 63), .lit (.ofNat (nat_lit 50))), (.bin .and .i64 (.var 1) (.lit 3), .lit (.ofNat (nat_lit 3)))]) (iv := []) (fun x y hm => by
                    simp only [List.mem_cons, List.not_mem_nil, or_false, Prod.mk.injEq] at hm
                    rcases hm with ⟨rfl, rfl⟩ | ⟨rfl, rfl⟩
                    · exact e0
                    · exact e1
                  ) (fun _ _ _ hm => by cases hm) r50_3 w
            ·
              have e0 : opVal .and .i64 a0 63 = 51 := by omega
              have g1 := rng1 a1
              by_cases q7 : opVal .and .i64 a1 3 < 2
              ·
                by_cases q8 : opVal .and .i64 a1 3 < 1
                ·
                  have e1 : opVal .and .i64 a1 3 = 0 := by omega
                  exact at_ (rw := [(.bin .and .i64 (.var 0) (.lit 63), .lit (.ofNat (nat_lit 51))), (.bin .and .i64 (.var 1) (.lit 3), .lit (.ofNat (nat_lit 0)))]) (iv := []) (fun x y hm => by
                    simp only [List.mem_cons, List.not_mem_nil, or_false, Prod.mk.injEq] at hm
                    rcases hm with ⟨rfl, rfl⟩ | ⟨rfl, rfl⟩
                    · exact e0
                    · exact e1
                  ) (fun _ _ _ hm => by cases hm) r51_0 w
                ·
                  have e1 : opVal .and .i64 a1 3 = 1 := by omega
                  exact at_ (rw := [(.bin .and .i64 (.var 0) (.lit 63), .lit (.ofNat (nat_lit 51))), (.bin .and .i64 (.var 1) (.lit 3), .lit (.ofNat (nat_lit 1)))]) (iv := []) (fun x y hm => by
                    simp only [List.mem_cons, List.not_mem_nil, or_false, Prod.mk.injEq] at hm
                    rcases hm with ⟨rfl, rfl⟩ | ⟨rfl, rfl⟩
                    · exact e0
                    · exact e1
                  ) (fun _ _ _ hm => by cases hm) r51_1 w
              ·
                by_cases q8 : opVal .and .i64 a1 3 < 3
                ·
                  have e1 : opVal .and .i64 a1 3 = 2 := by omega
                  exact at_ (rw := [(.bin .and .i64 (.var 0) (.lit 63), .lit (.ofNat (nat_lit 51))), (.bin .and .i64 (.var 1) (.lit 3), .lit (.ofNat (nat_lit 2)))]) (iv := []) (fun x y hm => by
                    simp only [List.mem_cons, List.not_mem_nil, or_false, Prod.mk.injEq] at hm
                    rcases hm with ⟨rfl, rfl⟩ | ⟨rfl, rfl⟩
                    · exact e0
                    · exact e1
                  ) (fun _ _ _ hm => by cases hm) r51_2 w
                ·
                  have e1 : opVal .and .i64 a1 3 = 3 := by omega
                  exact at_ (rw := [(.bin .and .i64 (.var 0) (.lit 63), .lit (.ofNat (nat_lit 51))), (.bin .and .i64 (.var 1) (.lit 3), .lit (.ofNat (nat_lit 3)))]) (iv := []) (fun x y hm => by
                    simp only [List.mem_cons, List.not_mem_nil, or_false, Prod.mk.injEq] at hm
                    rcases hm with ⟨rfl, rfl⟩ | ⟨rfl, rfl⟩
                    · exact e0
                    · exact e1
                  ) (fun _ _ _ hm => by cases hm) r51_3 w
        ·
          by_cases q5 : opVal .and .i64 a0 63 < 54
          ·
            by_cases q6 : opVal .and .i64 a0 63 < 53
            ·
              have e0 : opVal .and .i64 a0 63 = 52 := by omega
              have g1 := rng1 a1
              by_cases q7 : opVal .and .i64 a1 3 < 2
              ·
                by_cases q8 : opVal .and .i64 a1 3 < 1
                ·
                  have e1 : opVal .and .i64 a1 3 = 0 := by omega
                  exact at_ (rw := [(.bin .and .i64 (.var 0) (.lit 63), .lit (.ofNat (nat_lit 52))), (.bin .and .i64 (.var 1) (.lit 3), .lit (.ofNat (nat_lit 0)))]) (iv := []) (fun x y hm => by
                    simp only [List.mem_cons, List.not_mem_nil, or_false, Prod.mk.injEq] at hm
                    rcases hm with ⟨rfl, rfl⟩ | ⟨rfl, rfl⟩
                    · exact e0
                    · exact e1
                  ) (fun _ _ _ hm => by cases hm) r52_0 w
                ·
                  have e1 : opVal .and .i64 a1 3 = 1 := by omega
                  exact at_ (rw := [(.bin .and .i64 (.var 0) (.lit 63), .lit (.ofNat (nat_lit 52))), (.bin .and .i64 (.var 1) (.lit 3), .lit (.ofNat (nat_lit 1)))]) (iv := []) (fun x y hm => by
                    simp only [List.mem_cons, List.not_mem_nil, or_false, Prod.mk.injEq] at hm
                    rcases hm with ⟨rfl, rfl⟩ | ⟨rfl, rfl⟩
                    · exact e0
                    · exact e1
                  ) (fun _ _ _ hm => by cases hm) r52_1 w
              ·
                by_cases q8 : opVal .and .i64 a1 3 < 3
                ·
                  have e1 : opVal .and .i64 a1 3 = 2 := by omega
                  exact at_ (rw := [(.bin .and .i64 (.var 0) (.lit 63), .lit (.ofNat (nat_lit 52))), (.bin .and .i64 (.var 1) (.lit 3), .lit (.ofNat (nat_lit 2)))]) (iv := []) (fun x y hm => by
                    simp only [List.mem_cons, List.not_mem_nil, or_false, Prod.mk.injEq] at hm
                    rcases hm with ⟨rfl, rfl⟩ | ⟨rfl, rfl⟩
                    · exact e0
                    · exact e1
                  ) (fun _ _ _ hm => by cases hm) r52_2 w
                ·
                  have e1 : opVal .and .i64 a1 3 = 3 := by omega
                  exact at_ (rw := [(.bin .and .i64 (.var 0) (.lit 63), .lit (.ofNat (nat_lit 52))), (.bin .and .i64 (.var 1) (.lit 3), .lit (.ofNat (nat_lit 3)))]) (iv := []) (fun x y hm => by
                    simp only [List.mem_cons, List.not_mem_nil, or_false, Prod.mk.injEq] at hm
                    rcases hm with ⟨rfl, rfl⟩ | ⟨rfl, rfl⟩
                    · exact e0
                    · exact e1
                  ) (fun _ _ _ hm => by cases hm) r52_3 w
            ·
              have e0 : opVal .and .i64 a0 63 = 53 := by omega
              have g1 := rng1 a1
              by_cases q7 : opVal .and .i64 a1 3 < 2
              ·
                by_cases q8 : opVal .and .i64 a1 3 < 1
                ·
                  have e1 : opVal .and .i64 a1 3 = 0 := by omega
                  exact at_ (rw := [(.bin .and .i64 (.var 0) (.lit 63), .lit (.ofNat (nat_lit 53))), (.bin .and .i64 (.var 1) (.lit 3), .lit (.ofNat (nat_lit 0)))]) (iv := []) (fun x y hm => by
                    simp only [List.mem_cons, List.not_mem_nil, or_false, Prod.mk.injEq] at hm
                    rcases hm with ⟨rfl, rfl⟩ | ⟨rfl, rfl⟩
                    · exact e0
                    · exact e1
                  ) (fun _ _ _ hm => by cases hm) r53_0 w
                ·
                  have e1 : opVal .and .i64 a1 3 = 1 := by omega
                  exact at_ (rw := [(.bin .and .i64 (.var 0) (.lit 63), .lit (.ofNat (nat_lit 53))), (.bin .and .i64 (.var 1) (.lit 3), .lit (.ofNat (nat_lit 1)))]) (iv := []) (fun x y hm => by
                    simp only [List.mem_cons, List.not_mem_nil, or_false, Prod.mk.injEq] at hm
                    rcases hm with ⟨rfl, rfl⟩ | ⟨rfl, rfl⟩
                    · exact e0
                    · exact e1
                  ) (fun _ _ _ hm => by cases hm) r53_1 w
              ·
                by_cases q8 : opVal .and .i64 a1 3 < 3
                ·
                  have e1 : opVal .and .i64 a1 3 = 2 := by omega
                  exact at_ (rw := [(.bin .and .i64 (.var 0) (.lit 63), .lit (.ofNat (nat_lit 53))), (.bin .and .i64 (.var 1) (.lit 3), .lit (.ofNat (nat_lit 2)))]) (iv := []) (fun x y hm => by
                    simp only [List.mem_cons, List.not_mem_nil, or_false, Prod.mk.injEq] at hm
                    rcases hm with ⟨rfl, rfl⟩ | ⟨rfl, rfl⟩
                    · exact e0
                    · exact e1
                  ) (fun _ _ _ hm => by cases hm) r53_2 w
                ·
                  have e1 : opVal .and .i64 a1 3 = 3 := by omega
                  exact at_ (rw := [(.bin .and .i64 (.var 0) (.lit 63), .lit (.ofNat (nat_lit 53))), (.bin .and .i64 (.var 1) (.lit 3), .lit (.ofNat (nat_lit 3)))]) (iv := []) (fun x y hm => by
                    simp only [List.mem_cons, List.not_mem_nil, or_false, Prod.mk.injEq] at hm
                    rcases hm with ⟨rfl, rfl⟩ | ⟨rfl, rfl⟩
                    · exact e0
                    · exact e1
                  ) (fun _ _ _ hm => by cases hm) r53_3 w
          ·
            by_cases q6 : opVal .and .i64 a0 63 < 55
            ·
              have e0 : opVal .and .i64 a0 63 = 54 := by omega
              have g1 := rng1 a1
              by_cases q7 : opVal .and .i64 a1 3 < 2
              ·
                by_cases q8 : opVal .and .i64 a1 3 < 1
                ·
                  have e1 : opVal .and .i64 a1 3 = 0 := by omega
                  exact at_ (rw := [(.bin .and .i64 (.var 0) (.lit 63), .lit (.ofNat (nat_lit 54))), (.bin .and .i64 (.var 1) (.lit 3), .lit (.ofNat (nat_lit 0)))]) (iv := []) (fun x y hm => by
                    simp only [List.mem_cons, List.not_mem_nil, or_false, Prod.mk.injEq] at hm
                    rcases hm with ⟨rfl, rfl⟩ | ⟨rfl, rfl⟩
                    · exact e0
                    · exact e1
                  ) (fun _ _ _ hm => by cases hm) r54_0 w
                ·
                  have e1 : opVal .and .i64 a1 3 = 1 := by omega
                  exact at_ (rw := [(.bin .and .i64 (.var 0) (.lit 63), .lit (.ofNat (nat_lit 54))), (.bin .and .i64 (.var 1) (.lit 3), .lit (.ofNat (nat_lit 1)))]) (iv := []) (fun x y hm => by
                    simp only [List.mem_cons, List.not_mem_nil, or_false, Prod.mk.injEq] at hm
                    rcases hm with ⟨rfl, rfl⟩ | ⟨rfl, rfl⟩
                    · exact e0
                    · exact e1
                  ) (fun _ _ _ hm => by cases hm) r54_1 w
              ·
                by_cases q8 : opVal .and .i64 a1 3 < 3
                ·
                  have e1 : opVal .and .i64 a1 3 = 2 := by omega
                  exact at_ (rw := [(.bin .and .i64 (.var 0) (.lit 63), .lit (.ofNat (nat_lit 54))), (.bin .and .i64 (.var 1) (.lit 3), .lit (.ofNat (nat_lit 2)))]) (iv := []) (fun x y hm => by
                    simp only [List.mem_cons, List.not_mem_nil, or_false, Prod.mk.injEq] at hm
                    rcases hm with ⟨rfl, rfl⟩ | ⟨rfl, rfl⟩
                    · exact e0
                    · exact e1
                  ) (fun _ _ _ hm => by cases hm) r54_2 w
                ·
                  have e1 : opVal .and .i64 a1 3 = 3 := by omega
                  exact at_ (rw := [(.bin .and .i64 (.var 0) (.lit 63), .lit (.ofNat (nat_lit 54))), (.bin .and .i64 (.var 1) (.lit 3), .lit (.ofNat (nat_lit 3)))]) (iv := []) (fun x y hm => by
                    simp only [List.mem_cons, List.not_mem_nil, or_false, Prod.mk.injEq] at hm
                    rcases hm with ⟨rfl, rfl⟩ | ⟨rfl, rfl⟩
                    · exact e0
                    · exact e1
                  ) (fun _ _ _ hm => by cases hm) r54_3 w
            ·
              have e0 : opVal .and .i64 a0 63 = 55 := by omega
              have g1 := rng1 a1
              by_cases q7 : opVal .and .i64 a1 3 < 2
              ·
                by_cases q8 : opVal .and .i64 a1 3 < 1
                ·
                  have e1 : opVal .and .i64 a1 3 = 0 := by omega
                  exact at_ (rw := [(.bin .and .i64 (.var 0) (.lit 63), .lit (.ofNat (nat_lit 55))), (.bin .and .i64 (.var 1) (.lit 3), .lit (.ofNat (nat_lit 0)))]) (iv := []) (fun x y hm => by
                    simp only [List.mem_cons, List.not_mem_nil, or_false, Prod.mk.injEq] at hm
                    rcases hm with ⟨rfl, rfl⟩ | ⟨rfl, rfl⟩
                    · exact e0
                    · exact e1
                  ) (fun _ _ _ hm => by cases hm) r55_0 w
                ·
                  have e1 : opVal .and .i64 a1 3 = 1 := by omega
                  exact at_ (rw := [(.bin .and .i64 (.var 0) (.lit 63), .lit (.ofNat (nat_lit 55))), (.bin .and .i64 (.var 1) (.lit 3), .lit (.ofNat (nat_lit 1)))]) (iv := []) (fun x y hm => by
                    simp only [List.mem_cons, List.not_mem_nil, or_false, Prod.mk.injEq] at hm
                    rcases hm with ⟨rfl, rfl⟩ | ⟨rfl, rfl⟩
                    · exact e0
                    · exact e1
                  ) (fun _ _ _ hm => by cases hm) r55_1 w
              ·
                by_cases q8 : opVal .and .i64 a1 3 < 3
                ·
                  have e1 : opVal .and .i64 a1 3 = 2 := by omega
                  exact at_ (rw := [(.bin .and .i64 (.var 0) (.lit 63), .lit (.ofNat (nat_lit 55))), (.bin .and .i64 (.var 1) (.lit 3), .lit (.ofNat (nat_lit 2)))]) (iv := []) (fun x y hm => by
                    simp only [List.mem_cons, List.not_mem_nil, or_false, Prod.mk.injEq] at hm
                    rcases hm with ⟨rfl, rfl⟩ | ⟨rfl, rfl⟩
                    · exact e0
                    · exact e1
                  ) (fun _ _ _ hm => by cases hm) r55_2 w
                ·
                  have e1 : opVal .and .i64 a1 3 = 3 := by omega
                  exact at_ (rw := [(.bin .and .i64 (.var 0) (.lit 63), .lit (.ofNat (nat_lit 55))), (.bin .and .i64 (.var 1) (.lit 3), .lit (.ofNat (nat_lit 3)))]) (iv := []) (fun x y hm => by
                    simp only [List.mem_cons, List.not_mem_nil, or_false, Prod.mk.injEq] at hm
                    rcases hm with ⟨rfl, rfl⟩ | ⟨rfl, rfl⟩
                    · exact e0
                    · exact e1
                  ) (fun _ _ _ hm => by cases hm) r55_3 w
      ·
        by_cases q4 : opVal .and .i64 a0 63 < 60
        ·
          by_cases q5 : opVal .and .i64 a0 63 < 58
          ·
            by_cases q6 : opVal .and .i64 a0 63 < 57
            ·
              have e0 : opVal .and .i64 a0 63 = 56 := by omega
              have g1 := rng1 a1
              by_cases q7 : opVal .and .i64 a1 3 < 2
              ·
                by_cases q8 : opVal .and .i64 a1 3 < 1
                ·
                  have e1 : opVal .and .i64 a1 3 = 0 := by omega
                  exact at_ (rw := [(.bin .and .i64 (.var 0) (.lit 63), .lit (.ofNat (nat_lit 56))), (.bin .and .i64 (.var 1) (.lit 3), .lit (.ofNat (nat_lit 0)))]) (iv := []) (fun x y hm => by
                    simp only [List.mem_cons, List.not_mem_nil, or_false, Prod.mk.injEq] at hm
                    rcases hm with ⟨rfl, rfl⟩ | ⟨rfl, rfl⟩
                    · exact e0
                    · exact e1
                  ) (fun _ _ _ hm => by cases hm) r56_0 w
                ·
                  have e1 : opVal .and .i64 a1 3 = 1 := by omega
                  exact at_ (rw := [(.bin .and .i64 (.var 0) (.lit 63), .lit (.ofNat (nat_lit 56))), (.bin .and .i64 (.var 1) (.lit 3), .lit (.ofNat (nat_lit 1)))]) (iv := []) (fun x y hm => by
                    simp only [List.mem_cons, List.not_mem_nil, or_false, Prod.mk.injEq] at hm
                    rcases hm with ⟨rfl, rfl⟩ | ⟨rfl, rfl⟩
                    · exact e0
                    · exact e1
                  ) (fun _ _ _ hm => by cases hm) r56_1 w
              ·
                by_cases q8 : opVal .and .i64 a1 3 < 3
                ·
                  have e1 : opVal .and .i64 a1 3 = 2 := by omega
                  exact at_ (rw := [(.bin .and .i64 (.var 0) (.lit 63), .lit (.ofNat (nat_lit 56))), (.bin .and .i64 (.var 1) (.lit 3), .lit (.ofNat (nat_lit 2)))]) (iv := []) (fun x y hm => by
                    simp only [List.mem_cons, List.not_mem_nil, or_false, Prod.mk.injEq] at hm
                    rcases hm with ⟨rfl, rfl⟩ | ⟨rfl, rfl⟩
                    · exact e0
                    · exact e1
                  ) (fun _ _ _ hm => by cases hm) r56_2 w
                ·
                  have e1 : opVal .and .i64 a1 3 = 3 := by omega
                  exact at_ (rw := [(.bin .and .i64 (.var 0) (.lit 63), .lit (.ofNat (nat_lit 56))), (.bin .and .i64 (.var 1) (.lit 3), .lit (.ofNat (nat_lit 3)))]) (iv := []) (fun x y hm => by
                    simp only [List.mem_cons, List.not_mem_nil, or_false, Prod.mk.injEq] at hm
                    rcases hm with ⟨rfl, rfl⟩ | ⟨rfl, rfl⟩
                    · exact e0
                    · exact e1
                  ) (fun _ _ _ hm => by cases hm) r56_3 w
            ·
              have e0 : opVal .and .i64 a0 63 = 57 := by omega
              have g1 := rng1 a1
              by_cases q7 : opVal .and .i64 a1 3 < 2
              ·
                by_cases q8 : opVal .and .i64 a1 3 < 1
                ·
                  have e1 : opVal .and .i64 a1 3 = 0 := by omega
                  exact at_ (rw := [(.bin .and .i64 (.var 0) (.lit 63), .lit (.ofNat (nat_lit 57))), (.bin .and .i64 (.var 1) (.lit 3), .lit (.ofNat (nat_lit 0)))]) (iv := []) (fun x y hm => by
                    simp only [List.mem_cons, List.not_mem_nil, or_false, Prod.mk.injEq] at hm
                    rcases hm with ⟨rfl, rfl⟩ | ⟨rfl, rfl⟩
                    · exact e0
                    · exact e1
                  ) (fun _ _ _ hm => by cases hm) r57_0 w
                ·
                  have e1 : opVal .and .i64 a1 3 = 1 := by omega
                  exact at_ (rw := [(.bin .and .i64 (.var 0) (.lit 63), .lit (.ofNat (nat_lit 57))), (.bin .and .i64 (.var 1) (.lit 3), .lit (.ofNat (nat_lit 1)))]) (iv := []) (fun x y hm => by
                    simp only [List.mem_cons, List.not_mem_nil, or_false, Prod.mk.injEq] at hm
                    rcases hm with ⟨rfl, rfl⟩ | ⟨rfl, rfl⟩
                    · exact e0
                    · exact e1
                  ) (fun _ _ _ hm => by cases hm) r57_1 w
              ·
                by_cases q8 : opVal .and .i64 a1 3 < 3
                ·
                  have e1 : opVal .and .i64 a1 3 = 2 := by omega
                  exact at_ (rw := [(.bin .and .i64 (.var 0) (.lit 63), .lit (.ofNat (nat_lit 57))), (.bin .and .i64 (.var 1) (.lit 3), .lit (.ofNat (nat_lit 2)))]) (iv := []) (fun x y hm => by
                    simp only [List.mem_cons, List.not_mem_nil, or_false, Prod.mk.injEq] at hm
                    rcases hm with ⟨rfl, rfl⟩ | ⟨rfl, rfl⟩
                    · exact e0
                    · exact e1
                  ) (fun _ _ _ hm => by cases hm) r57_2 w
                ·
                  have e1 : opVal .and .i64 a1 3 = 3 := by omega
                  exact at_ (rw := [(.bin .and .i64 (.var 0) (.lit 63), .lit (.ofNat (nat_lit 57))), (.bin .and .i64 (.var 1) (.lit 3), .lit (.ofNat (nat_lit 3)))]) (iv := []) (fun x y hm => by
                    simp only [List.mem_cons, List.not_mem_nil, or_false, Prod.mk.injEq] at hm
                    rcases hm with ⟨rfl, rfl⟩ | ⟨rfl, rfl⟩
                    · exact e0
                    · exact e1
                  ) (fun _ _ _ hm => by cases hm) r57_3 w
          ·
            by_cases q6 : opVal .and .i64 a0 63 < 59
            ·
              have e0 : opVal .and .i64 a0 63 = 58 := by omega
              have g1 := rng1 a1
              by_cases q7 : opVal .and .i64 a1 3 < 2
              ·
                by_cases q8 : opVal .and .i64 a1 3 < 1
                ·
                  have e1 : opVal .and .i64 a1 3 = 0 := by omega
                  exact at_ (rw := [(.bin .and .i64 (.var 0) (.lit 63), .lit (.ofNat (nat_lit 58))), (.bin .and .i64 (.var 1) (.lit 3), .lit (.ofNat (nat_lit 0)))]) (iv := []) (fun x y hm => by
                    simp only [List.mem_cons, List.not_mem_nil, or_false, Prod.mk.injEq] at hm
                    rcases hm with ⟨rfl, rfl⟩ | ⟨rfl, rfl⟩
                    · exact e0
                    · exact e1
                  ) (fun _ _ _ hm => by cases hm) r58_0 w
                ·
                  have e1 : opVal .and .i64 a1 3 = 1 := by omega
                  exact at_ (rw := [(.bin .and .i64 (.var 0) (.lit 63), .lit (.ofNat (nat_lit 58))), (.bin .and .i64 (.var 1) (.lit 3), .lit (.ofNat (nat_lit 1)))]) (iv := []) (fun x y hm => by
                    simp only [List.mem_cons, List.not_mem_nil, or_false, Prod.mk.injEq] at hm
                    rcases hm with ⟨rfl, rfl⟩ | ⟨rfl, rfl⟩
                    · exact e0
                    · exact e1
                  ) (fun _ _ _ hm => by cases hm) r58_1 w
              ·
                by_cases q8 : opVal .and .i64 a1 3 < 3
                ·
                  have e1 : opVal .and .i64 a1 3 = 2 := by omega
                  exact at_ (rw := [(.bin .and .i64 (.var 0) (.lit 63), .lit (.ofNat (nat_lit 58))), (.bin .and .i64 (.var 1) (.lit 3), .lit (.ofNat (nat_lit 2)))]) (iv := []) (fun x y hm => by
                    simp only [List.mem_cons, List.not_mem_nil, or_false, Prod.mk.injEq] at hm
                    rcases hm with ⟨rfl, rfl⟩ | ⟨rfl, rfl⟩
                    · exact e0
                    · exact e1
                  ) (fun _ _ _ hm => by cases hm) r58_2 w
                ·
                  have e1 : opVal .and .i64 a1 3 = 3 := by omega
                  exact at_ (rw := [(.bin .and .i64 (.var 0) (.lit 63), .lit (.ofNat (nat_lit 58))), (.bin .and .i64 (.var 1) (.lit 3), .lit (.ofNat (nat_lit 3)))]) (iv := []) (fun x y hm => by
                    simp only [List.mem_cons, List.not_mem_nil, or_false, Prod.mk.injEq] at hm
                    rcases hm with ⟨rfl, rfl⟩ | ⟨rfl, rfl⟩
                    · exact e0
                    · exact e1
                  ) (fun _ _ _ hm => by cases hm) r58_3 w
            ·
              have e0 : opVal .and .i64 a0 63 = 59 := by omega
              have g1 := rng1 a1
              by_cases q7 : opVal .and .i64 a1 3 < 2
              ·
                by_cases q8 : opVal .and .i64 a1 3 < 1
                ·
                  have e1 : opVal .and .i64 a1 3 = 0 := by omega
                  exact at_ (rw := [(.bin .and .i64 (.var 0) (.lit 63), .lit (.ofNat (nat_lit 59))), (.bin .and .i64 (.var 1) (.lit 3), .lit (.ofNat (nat_lit 0)))]) (iv := []) (fun x y hm => by
                    simp only [List.mem_cons, List.not_mem_nil, or_false, Prod.mk.injEq] at hm
                    rcases hm with ⟨rfl, rfl⟩ | ⟨rfl, rfl⟩
                    · exact e0
                    · exact e1
                  ) (fun _ _ _ hm => by cases hm) r59_0 w
                ·
                  have e1 : opVal .and .i64 a1 3 = 1 := by omega
                  exact at_ (rw := [(.bin .and .i64 (.var 0) (.lit 63), .lit (.ofNat (nat_lit 59))), (.bin .and .i64 (.var 1) (.lit 3), .lit (.ofNat (nat_lit 1)))]) (iv := []) (fun x y hm => by
                    simp only [List.mem_cons, List.not_mem_nil, or_false, Prod.mk.injEq] at hm
                    rcases hm with ⟨rfl, rfl⟩ | ⟨rfl, rfl⟩
                    · exact e0
                    · exact e1
                  ) (fun _ _ _ hm => by cases hm) r59_1 w
              ·
                by_cases q8 : opVal .and .i64 a1 3 < 3
                ·
                  have e1 : opVal .and .i64 a1 3 = 2 := by omega
                  exact at_ (rw := [(.bin .and .i64 (.var 0) (.lit 63), .lit (.ofNat (nat_lit 59))), (.bin .and .i64 (.var 1) (.lit 3), .lit (.ofNat (nat_lit 2)))]) (iv := []) (fun x y hm => by
                    simp only [List.mem_cons, List.not_mem_nil, or_false, Prod.mk.injEq] at hm
                    rcases hm with ⟨rfl, rfl⟩ | ⟨rfl, rfl⟩
                    · exact e0
                    · exact e1
                  ) (fun _ _ _ hm => by cases hm) r59_2 w
                ·
                  have e1 : opVal .and .i64 a1 3 = 3 := by omega
                  exact at_ (rw := [(.bin .and .i64 (.var 0) (.lit 63), .lit (.ofNat (nat_lit 59))), (.bin .and .i64 (.var 1) (.lit 3), .lit (.ofNat (nat_lit 3)))]) (iv := []) (fun x y hm => by
                    simp only [List.mem_cons, List.not_mem_nil, or_false, Prod.mk.injEq] at hm
                    rcases hm with ⟨rfl, rfl⟩ | ⟨rfl, rfl⟩
                    · exact e0
                    · exact e1
                  ) (fun _ _ _ hm => by cases hm) r59_3 w
        ·
          by_cases q5 : opVal .and .i64 a0 63 < 62
          ·
            by_cases q6 : opVal .and .i64 a0 63 < 61
            ·
              have e0 : opVal .and .i64 a0 63 = 60 := by omega
              have g1 := rng1 a1
              by_cases q7 : opVal .and .i64 a1 3 < 2
              ·
                by_cases q8 : opVal .and .i64 a1 3 < 1
                ·
                  have e1 : opVal .and .i64 a1 3 = 0 := by omega
                  exact at_ (rw := [(.bin .and .i64 (.var 0) (.lit 63), .lit (.ofNat (nat_lit 60))), (.bin .and .i64 (.var 1) (.lit 3), .lit (.ofNat (nat_lit 0)))]) (iv := []) (fun x y hm => by
                    simp only [List.mem_cons, List.not_mem_nil, or_false, Prod.mk.injEq] at hm
                    rcases hm with ⟨rfl, rfl⟩ | ⟨rfl, rfl⟩
                    · exact e0
                    · exact e1
                  ) (fun _ _ _ hm => by cases hm) r60_0 w
                ·
                  have e1 : opVal .and .i64 a1 3 = 1 := by omega
                  exact at_ (rw := [(.bin .and .i64 (.var 0) (.lit 63), .lit (.ofNat (nat_lit 60))), (.bin .and .i64 (.var 1) (.lit 3), .lit (.ofNat (nat_lit 1)))]) (iv := []) (fun x y hm => by
                    simp only [List.mem_cons, List.not_mem_nil, or_false, Prod.mk.injEq] at hm
                    rcases hm with ⟨rfl, rfl⟩ | ⟨rfl, rfl⟩
                    · exact e0
                    · exact e1
                  ) (fun _ _ _ hm => by cases hm) r60_1 w
              ·
                by_cases q8 : opVal .and .i64 a1 3 < 3
                ·
                  have e1 : opVal .and .i64 a1 3 = 2 := by omega
                  exact at_ (rw := [(.bin .and .i64 (.var 0) (.lit 63), .lit (.ofNat (nat_lit 60))), (.bin .and .i64 (.var 1) (.lit 3), .lit (.ofNat (nat_lit 2)))]) (iv := []) (fun x y hm => by
                    simp only [List.mem_cons, List.not_mem_nil, or_false, Prod.mk.injEq] at hm
                    rcases hm with ⟨rfl, rfl⟩ | ⟨rfl, rfl⟩
                    · exact e0
                    · exact e1
                  ) (fun _ _ _ hm => by cases hm) r60_2 w
                ·
                  have e1 : opVal .and .i64 a1 3 = 3 := by omega
                  exact at_ (rw := [(.bin .and .i64 (.var 0) (.lit 63), .lit (.ofNat (nat_lit 60))), (.bin .and .i64 (.var 1) (.lit 3), .lit (.ofNat (nat_lit 3)))]) (iv := []) (fun x y hm => by
                    simp only [List.mem_cons, List.not_mem_nil, or_false, Prod.mk.injEq] at hm
                    rcases hm with ⟨rfl, rfl⟩ | ⟨rfl, rfl⟩
                    · exact e0
                    · exact e1
                  ) (fun _ _ _ hm => by cases hm) r60_3 w
            ·
              have e0 : opVal .and .i64 a0 63 = 61 := by omega
              have g1 := rng1 a1
              by_cases q7 : opVal .and .i64 a1 3 < 2
              ·
                by_cases q8 : opVal .and .i64 a1 3 < 1
                ·
                  have e1 : opVal .and .i64 a1 3 = 0 := by omega
                  exact at_ (rw := [(.bin .and .i64 (.var 0) (.lit 63), .lit (.ofNat (nat_lit 61))), (.bin .and .i64 (.var 1) (.lit 3), .lit (.ofNat (nat_lit 0)))]) (iv := []) (fun x y hm => by
                    simp only [List.mem_cons, List.not_mem_nil, or_false, Prod.mk.injEq] at hm
                    rcases hm with ⟨rfl, rfl⟩ | ⟨rfl, rfl⟩
                    · exact e0
                    · exact e1
                  ) (fun _ _ _ hm => by cases hm) r61_0 w
                ·
                  have e1 : opVal .and .i64 a1 3 = 1 := by omega
                  exact at_ (rw := [(.bin .and .i64 (.var 0) (.lit 63), .lit (.ofNat (nat_lit 61))), (.bin .and .i64 (.var 1) (.lit 3), .lit (.ofNat (nat_lit 1)))]) (iv := []) (fun x y hm => by
                    simp only [List.mem_cons, List.not_mem_nil, or_false, Prod.mk.injEq] at hm
                    rcases hm with ⟨rfl, rfl⟩ | ⟨rfl, rfl⟩
                    · exact e0
                    · exact e1
                  ) (fun _ _ _ hm => by cases hm) r61_1 w
              ·
                by_cases q8 : opVal .and .i64 a1 3 < 3
                ·
                  have e1 : opVal .and .i64 a1 3 = 2 := by omega
                  exact at_ (rw := [(.bin .and .i64 (.var 0) (.lit 63), .lit (.ofNat (nat_lit 61))), (.bin .and .i64 (.var 1) (.lit 3), .lit (.ofNat (nat_lit 2)))]) (iv := []) (fun x y hm => by
                    simp only [List.mem_cons, List.not_mem_nil, or_false, Prod.mk.injEq] at hm
                    rcases hm with ⟨rfl, rfl⟩ | ⟨rfl, rfl⟩
                    · exact e0
                    · exact e1
                  ) (fun _ _ _ hm => by cases hm) r61_2 w
                ·
                  have e1 : opVal .and .i64 a1 3 = 3 := by omega
                  exact at_ (rw := [(.bin .and .i64 (.var 0) (.lit 63), .lit (.ofNat (nat_lit 61))), (.bin .and .i64 (.var 1) (.lit 3), .lit (.ofNat (nat_lit 3)))]) (iv := []) (fun x y hm => by
                    simp only [List.mem_cons, List.not_mem_nil, or_false, Prod.mk.injEq] at hm
                    rcases hm with ⟨rfl, rfl⟩ | ⟨rfl, rfl⟩
                    · exact e0
                    · exact e1
                  ) (fun _ _ _ hm => by cases hm) r61_3 w
          ·
            by_cases q6 : opVal .and .i64 a0 63 < 63
            ·
              have e0 : opVal .and .i64 a0 63 = 62 := by omega
              have g1 := rng1 a1
              by_cases q7 : opVal .and .i64 a1 3 < 2
              ·
                by_cases q8 : opVal .and .i64 a1 3 < 1
                ·
                  have e1 : opVal .and .i64 a1 3 = 0 := by omega
                  exact at_ (rw := [(.bin .and .i64 (.var 0) (.lit 63), .lit (.ofNat (nat_lit 62))), (.bin .and .i64 (.var 1) (.lit 3), .lit (.ofNat (nat_lit 0)))]) (iv := []) (fun x y hm => by
                    simp only [List.mem_cons, List.not_mem_nil, or_false, Prod.mk.injEq] at hm
                    rcases hm with ⟨rfl, rfl⟩ | ⟨rfl, rfl⟩
                    · exact e0
                    · exact e1
                  ) (fun _ _ _ hm => by cases hm) r62_0 w
                ·
                  have e1 : opVal .and .i64 a1 3 = 1 := by omega
                  exact at_ (rw := [(.bin .and .i64 (.var 0) (.lit 63), .lit (.ofNat (nat_lit 62))), (.bin .and .i64 (.var 1) (.lit 3), .lit (.ofNat (nat_lit 1)))]) (iv := []) (fun x y hm => by
                    simp only [List.mem_cons, List.not_mem_nil, or_false, Prod.mk.injEq] at hm
                    rcases hm with ⟨rfl, rfl⟩ | ⟨rfl, rfl⟩
                    · exact e0
                    · exact e1
                  ) (fun _ _ _ hm => by cases hm) r62_1 w
              ·
                by_cases q8 : opVal .and .i64 a1 3 < 3
                ·
                  have e1 : opVal .and .i64 a1 3 = 2 := by omega
                  exact at_ (rw := [(.bin .and .i64 (.var 0) (.lit 63), .lit (.ofNat (nat_lit 62))), (.bin .and .i64 (.var 1) (.lit 3), .lit (.ofNat (nat_lit 2)))]) (iv := []) (fun x y hm => by
                    simp only [List.mem_cons, List.not_mem_nil, or_false, Prod.mk.injEq] at hm
                    rcases hm with ⟨rfl, rfl⟩ | ⟨rfl, rfl⟩
                    · exact e0
                    · exact e1
                  ) (fun _ _ _ hm => by cases hm) r62_2 w
                ·
                  have e1 : opVal .and .i64 a1 3 = 3 := by omega
                  exact at_ (rw := [(.bin .and .i64 (.var 0) (.lit 63), .lit (.ofNat (nat_lit 62))), (.bin .and .i64 (.var 1) (.lit 3), .lit (.ofNat (nat_lit 3)))]) (iv := []) (fun x y hm => by
                    simp only [List.mem_cons, List.not_mem_nil, or_false, Prod.mk.injEq] at hm
                    rcases hm with ⟨rfl, rfl⟩ | ⟨rfl, rfl⟩
                    · exact e0
                    · exact e1
                  ) (fun _ _ _ hm => by cases hm) r62_3 w
            ·
              have e0 : opVal .and .i64 a0 63 = 63 := by omega
              have g1 := rng1 a1
              by_cases q7 : opVal .and .i64 a1 3 < 2
              ·
                by_cases q8 : opVal .and .i64 a1 3 < 1
                ·
                  have e1 : opVal .and .i64 a1 3 = 0 := by omega
                  exact at_ (rw := [(.bin .and .i64 (.var 0) (.lit 63), .lit (.ofNat (nat_lit 63))), (.bin .and .i64 (.var 1) (.lit 3), .lit (.ofNat (nat_lit 0)))]) (iv := []) (fun x y hm => by
                    simp only [List.mem_cons, List.not_mem_nil, or_false, Prod.mk.injEq] at hm
                    rcases hm with ⟨rfl, rfl⟩ | ⟨rfl, rfl⟩
                    · exact e0
                    · exact e1
                  ) (fun _ _ _ hm => by cases hm) r63_0 w
                ·
                  have e1 : opVal .and .i64 a1 3 = 1 := by omega
                  exact at_ (rw := [(.bin .and .i64 (.var 0) (.lit 63), .lit (.ofNat (nat_lit 63))), (.bin .and .i64 (.var 1) (.lit 3), .lit (.ofNat (nat_lit 1)))]) (iv := []) (fun x y hm => by
                    simp only [List.mem_cons, List.not_mem_nil, or_false, Prod.mk.injEq] at hm
                    rcases hm with ⟨rfl, rfl⟩ | ⟨rfl, rfl⟩
                    · exact e0
                    · exact e1
                  ) (fun _ _ _ hm => by cases hm) r63_1 w
              ·
                by_cases q8 : opVal .and .i64 a1 3 < 3
                ·
                  have e1 : opVal .and .i64 a1 3 = 2 := by omega
                  exact at_ (rw := [(.bin .and .i64 (.var 0) (.lit 63), .lit (.ofNat (nat_lit 63))), (.bin .and .i64 (.var 1) (.lit 3), .lit (.ofNat (nat_lit 2)))]) (iv := []) (fun x y hm => by
                    simp only [List.mem_cons, List.not_mem_nil, or_false, Prod.mk.injEq] at hm
                    rcases hm with ⟨rfl, rfl⟩ | ⟨rfl, rfl⟩
                    · exact e0
                    · exact e1
                  ) (fun _ _ _ hm => by cases hm) r63_2 w
                ·
                  have e1 : opVal .and .i64 a1 3 = 3 := by omega
                  exact at_ (rw := [(.bin .and .i64 (.var 0) (.lit 63), .lit (.ofNat (nat_lit 63))), (.bin .and .i64 (.var 1) (.lit 3), .lit (.ofNat (nat_lit 3)))]) (iv := []) (fun x y hm => by
                    simp only [List.mem_cons, List.not_mem_nil, or_false, Prod.mk.injEq] at hm
                    rcases hm with ⟨rfl, rfl⟩ | ⟨rfl, rfl⟩
                    · exact e0
                    · exact e1
                  ) (fun _ _ _ hm => by cases hm) r63_3 w

/-! ### THE ROW's STEP: WRITTEN OUT: LEAVE IT -/
set_option maxRecDepth 100000 in
theorem lifted (os : Os) (started : os.Started) (H : Type) (enc : TypeId × Value → H) :
    ReturnsInHanded {} Try.checked os 3 .any (Rows.monitorDeepSpec.pre6 enc Try.prog Try.f3 Rows.monitorDeepRow.domain false) (Rows.monitorDeepSpec.post enc Try.prog Try.f3 false true false false) := by
  refine returnsInHanded_of_change (C := Try.checked) own started (by kernel_rfl) Try.func3
    (ChangeSpec.witness6 (enc := enc) (C := Try.checked) false ⟨#[], #[.int .i64 0, .int .i64 0], []⟩ 8 (by kernel_rfl) (by kernel_rfl) (by kernel_rfl) (by kernel_rfl)) ?_
  intro W base args ds gs before hval0 hW hcnd _
  have hval : ∀ (j : Nat) t v, Try.f3.params[j]? = some t → args[j]? = some v → Value.okWide Try.prog W .any base t v := hval0
  have hW' := hW
  obtain ⟨p, q, hA0, hV, rfl, hfz, hnd⟩ := hW
  have hA : DataW.TrodAll enc Try.prog W 0 (fun _ => true) true Try.f3.params.toList args.toList ds p := hA0
  rw [Try.params3] at hA hval
  obtain ⟨v0, vs0, d0, ds0, p0, q0, hargs, rfl, rfl, h0, r0⟩ := trodAll_cons hA
  obtain ⟨v1, vs1, d1, ds1, p1, q1, rfl, rfl, rfl, h1, r1⟩ := trodAll_cons r0
  obtain ⟨rfl, rfl, rfl⟩ := trodAll_nil r1
  obtain rfl : args = #[v0, v1] := by cases args; simp_all
  obtain ⟨rfl, rfl⟩ := trodVars_none hV
  obtain ⟨a0, rfl, rfl, rfl, w0⟩ := open_int Try.underlying3 (hval 0 3 v0 rfl rfl) h0
  obtain ⟨a1, rfl, rfl, rfl, w1⟩ := open_int Try.underlying3 (hval 1 3 v1 rfl rfl) h1
  clear hA0 hval0
  simp only [List.append_nil] at hW'
  refine (walk a0 a1 w0 w1 W).mono fun e W' ⟨he, hg⟩ => ?_
  subst he
  exact ⟨_, rfl, post_of_below (pa := []) (pv := []) hW' (fun _ _ _ => (trodAll_cons_mk (shut_bool Try.underlying4 _) trodAll_mk0)) (fun sp _ => (trodAll_cons_mk (shut_int Try.underlying3 w0) (trodAll_cons_mk (shut_int Try.underlying3 w1) trodAll_mk0))) (fun _ _ => rfl) rfl
    hg (ok_one (by kernel_rfl) rfl (okWide_bool_mk Try.underlying4 _))⟩

theorem over : Rows.monitorDeepRow.holds Try.pinned (OpenSpec.ofChange Rows.monitorDeepSpec) :=
  OpenClaim.holds_of_wide 3 Try.f3 rfl rfl rfl rfl rfl rfl rfl ⟨rfl, rfl, rfl, rfl, rfl⟩ rfl rfl rfl rfl rfl (by kernel_rfl) Try.func3 (by kernel_rfl)
    (of_decide_eq_true (by kernel_rfl)) (by unfold Func.isWrapper; first | (rw [if_pos (by decide +kernel)]; kernel_rfl) | (rw [if_neg (by decide +kernel)]; exact ⟨rfl, rfl⟩))
    (fun os started H enc _ => lifted os started H enc)

/-- ████ THE STATEMENT ████ -/
theorem proved : Rows.MonitorDeepSaid :=
  over
#print axioms proved
end Go.Proofs.Ytmibmfaepddklaa.monitorDeep
