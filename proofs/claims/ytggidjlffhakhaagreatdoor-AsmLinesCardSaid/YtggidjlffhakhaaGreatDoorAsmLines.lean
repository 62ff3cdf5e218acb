/- gneiss/gneisslaw19.AsmLines answers true at every input, and leaves its arguments as they were. No conditions. -/
import Derived.Test.YtggidjlffhakhaaGreatDoorRows
import Derived.WalkKit
import Derived.ProofKit
import Derived.OpenShut
import Derived.Below
import Derived.ChangeSame
import Derived.Test.YtggidjlffhakhaaGreatDoorAsmLinesR0
import Derived.Test.YtggidjlffhakhaaGreatDoorAsmLinesR1
import Derived.Test.YtggidjlffhakhaaGreatDoorAsmLinesR2
import Derived.Test.YtggidjlffhakhaaGreatDoorAsmLinesR3
import Derived.Test.YtggidjlffhakhaaGreatDoorLaid
import Derived.Test.YtggidjlffhakhaaGreatDoorTie
import Derived.Test.YtggidjlffhakhaaGreatDoorAsmLinesJ
import Derived.Test.YtggidjlffhakhaaGreatDoorCards
import Derived.SevenTiedAt
namespace Go.Proofs.YtggidjlffhakhaaGreatDoor.asmLines
open Go.Ai Go.ChangeShapes Go.WideShapes Go.ChangeAt Go.RowKit
set_option linter.unusedVariables false

theorem own : ownKnob Tryz.prog.godebug = none := by kernel_rfl

section
variable {H : Type} {enc : TypeId × Value → H} {P : Program}
theorem post_of_below {f : Func} {s : ChangeSpec} {apart fresh handsOn again : Bool} {W W' : World} {args : Array Value} {v : Value} {ds gs : List (DataW H)} {before pa pv : List MemPlace}
    (hW : DataW.Whole enc P f.params.toList s.vars apart W args.toList ds gs before)
    (hres : ∀ (b : Nat) (sp : Nat → Bool) (hd : Bool), DataW.TrodAll enc P W' b sp hd f.resultTypes.toList (v.resultList f.resultTypes.size) (s.fn H (ds ++ gs)).results [])
    (hargs : ∀ sp : Nat → Bool, (∀ p ∈ before, sp p.block = true) → DataW.TrodAll enc P W' 0 sp true f.params.toList args.toList (s.fn H (ds ++ gs)).args pa)
    (hvars : ∀ sp : Nat → Bool, (∀ p ∈ before, sp p.block = true) → DataW.TrodVars enc P W' sp s.vars (s.fn H (ds ++ gs)).vars pv)
    (hps : before = pa ++ pv) (hb : Below W.heap.size W W')
    (hok : ∀ (j : Nat) (t : TypeId) (r : Value), f.resultTypes[j]? = some t → (v.resultList f.resultTypes.size)[j]? = some r → Value.okWide P W' .any 0 t r) :
    s.post enc P f apart fresh handsOn again W args v W' := by
  have hlt : ∀ p ∈ before, p.block < W.heap.size := fun p hp => hW.lt p hp
  have hold : ∀ p ∈ before, (fun b => decide (b < W.heap.size)) p.block = true := fun p hp => by simpa using hlt p hp
  refine ⟨ds, gs, before, [], pa, pv, hW, hres _ _ _, hargs _ hold, hvars _ hold, World.keptBut_mono (fun p hp => ⟨hp, ?_⟩) (hb.frame (· ∈ before)), fun _ => ?_⟩
  · rw [hps, List.mem_append] at hp
    exact Or.inr hp
  · obtain ⟨_, _, _, _, _, hz, hn⟩ := hW
    refine ⟨hok, _, _, ([] ++ pa) ++ pv, ⟨[] ++ pa, pv, trodAll_append (hargs _ (fun _ _ => rfl)) (hres _ _ _), hvars _ (fun _ _ => rfl), rfl, ?_, ?_⟩, ?_⟩
    · intro b off hp
      have hin : MemPlace.cell b off ∈ before := by rw [hps]; simpa using hp
      rw [hb.frozen (hlt _ hin)]
      exact hz b off hin
    · intro ha
      have := hn ha
      rw [hps] at this
      simpa using this
    · intro p hp _
      rw [hps]
      simpa using hp
end
/-! ### the walk: by the abstract machine -/
theorem rng0 (a : Int) : 0 ≤ opVal .rem .u64 (IntKind.wrap .u64 a) 8 ∧ opVal .rem .u64 (IntKind.wrap .u64 a) 8 ≤ 7 := by
  have hw : 0 ≤ IntKind.wrap .u64 a := by
    rw [IntKind.wrap_u64]
    omega
  have h1 : (IntKind.wrap .u64 a).tmod 8 < 8 := Int.tmod_lt_of_pos _ (by omega)
  have h2 : 0 ≤ (IntKind.wrap .u64 a).tmod 8 := Int.tmod_nonneg _ hw
  show 0 ≤ (IntKind.wrap .u64 a).tmod 8 ∧ (IntKind.wrap .u64 a).tmod 8 ≤ 7
  omega
theorem rng1 (a : Int) : 0 ≤ opVal .rem .u64 (IntKind.wrap .u64 a) 6 ∧ opVal .rem .u64 (IntKind.wrap .u64 a) 6 ≤ 5 := by
  have hw : 0 ≤ IntKind.wrap .u64 a := by
    rw [IntKind.wrap_u64]
    omega
  have h1 : (IntKind.wrap .u64 a).tmod 6 < 6 := Int.tmod_lt_of_pos _ (by omega)
  have h2 : 0 ≤ (IntKind.wrap .u64 a).tmod 6 := Int.tmod_nonneg _ hw
  show 0 ≤ (IntKind.wrap .u64 a).tmod 6 ∧ (IntKind.wrap .u64 a).tmod 6 ≤ 5
  omega
theorem at_ {a0 : Int} {a1 : Int}  {rw : List (SI × SI)} {iv : List (SI × Int × Int)} (hr : ∀ x y, (x, y) ∈ rw → x.ev (fun i => if i = 0 then a0 else if i = 1 then a1 else 0) = y.ev (fun i => if i = 0 then a0 else if i = 1 then a1 else 0)) (hi : ∀ x lo hi, (x, lo, hi) ∈ iv → lo ≤ x.ev (fun i => if i = 0 then a0 else if i = 1 then a1 else 0) ∧ x.ev (fun i => if i = 0 then a0 else if i = 1 then a1 else 0) ≤ hi) (r : yes (run rw iv) = true) (w : World) (hgl : GlOk gl w) : Calls Tryz.prog 5 #[.int .i64 a0, .int .i64 a1] w fun e w' => e = .returned (.bool true) ∧ Below w.heap.size w w' :=
  haveI : GlOk (⟨rw, [], iv, fun _ _ _ => none, gl⟩ : Cf).gl w := hgl
  soundC comp.mixed comp.TOk (over := (overC 13)) (cf := ⟨rw, [], iv, fun _ _ _ => none, gl⟩) (σ := fun i => if i = 0 then a0 else if i = 1 then a1 else 0) (xs := [.int .i64 a0, .int .i64 a1]) (fun _ h => overC_ok awakes h)
    ⟨hr, fun _ _ _ _ hm => (by cases hm), hi, fun _ _ _ _ hm => (by cases hm)⟩
    (.cons (.int .i64 (.var 0)) (.cons (.int .i64 (.var 1)) .nil)) r
theorem walk (a0 : Int) (a1 : Int) (w0 : (Lit.int .i64 a0).wf = true) (w1 : (Lit.int .i64 a1).wf = true) (w : World) (hgl : GlOk gl w) :
    Calls Tryz.prog 5 #[.int .i64 a0, .int .i64 a1] w fun e w' => e = .returned (.bool true) ∧ Below w.heap.size w w' := by
  have g0 := rng0 a0
  by_cases q1 : opVal .rem .u64 (IntKind.wrap .u64 a0) 8 < 4
  ·
    by_cases q2 : opVal .rem .u64 (IntKind.wrap .u64 a0) 8 < 2
    ·
      by_cases q3 : opVal .rem .u64 (IntKind.wrap .u64 a0) 8 < 1
      ·
        have e0 : opVal .rem .u64 (IntKind.wrap .u64 a0) 8 = 0 := by omega
        have g1 := rng1 a1
        by_cases q4 : opVal .rem .u64 (IntKind.wrap .u64 a1) 6 < 3
        ·
          by_cases q5 : opVal .rem .u64 (IntKind.wrap .u64 a1) 6 < 1
          ·
            have e1 : opVal .rem .u64 (IntKind.wrap .u64 a1) 6 = 0 := by omega
            exact at_ (rw := [(.bin .rem .u64 (.conv .u64 (.var 0)) (.lit 8), .lit (.ofNat (nat_lit 0))), (.bin .rem .u64 (.conv .u64 (.var 1)) (.lit 6), .lit (.ofNat (nat_lit 0)))]) (iv := []) (fun x y hm => by
              simp only [List.mem_cons, List.not_mem_nil, or_false, Prod.mk.injEq] at hm
              rcases hm with ⟨rfl, rfl⟩ | ⟨rfl, rfl⟩
              · exact e0
              · exact e1
            ) (fun _ _ _ hm => by cases hm) r0_0 w hgl
          ·
            by_cases q6 : opVal .rem .u64 (IntKind.wrap .u64 a1) 6 < 2
            ·
              have e1 : opVal .rem .u64 (IntKind.wrap .u64 a1) 6 = 1 := by omega
              exact at_ (rw := [(.bin .rem .u64 (.conv .u64 (.var 0)) (.lit 8), .lit (.ofNat (nat_lit 0))), (.bin .rem .u64 (.conv .u64 (.var 1)) (.lit 6), .lit (.ofNat (nat_lit 1)))]) (iv := []) (fun x y hm => by
                simp only [List.mem_cons, List.not_mem_nil, or_false, Prod.mk.injEq] at hm
                rcases hm with ⟨rfl, rfl⟩ | ⟨rfl, rfl⟩
                · exact e0
                · exact e1
              ) (fun _ _ _ hm => by cases hm) r0_1 w hgl
            ·
              have e1 : opVal .rem .u64 (IntKind.wrap .u64 a1) 6 = 2 := by omega
              exact at_ (rw := [(.bin .rem .u64 (.conv .u64 (.var 0)) (.lit 8), .lit (.ofNat (nat_lit 0))), (.bin .rem .u64 (.conv .u64 (.var 1)) (.lit 6), .lit (.ofNat (nat_lit 2)))]) (iv := []) (fun x y hm => by
                simp only [List.mem_cons, List.not_mem_nil, or_false, Prod.mk.injEq] at hm
                rcases hm with ⟨rfl, rfl⟩ | ⟨rfl, rfl⟩
                · exact e0
                · exact e1
              ) (fun _ _ _ hm => by cases hm) r0_2 w hgl
        ·
          by_cases q5 : opVal .rem .u64 (IntKind.wrap .u64 a1) 6 < 4
          ·
            have e1 : opVal .rem .u64 (IntKind.wrap .u64 a1) 6 = 3 := by omega
            exact at_ (rw := [(.bin .rem .u64 (.conv .u64 (.var 0)) (.lit 8), .lit (.ofNat (nat_lit 0))), (.bin .rem .u64 (.conv .u64 (.var 1)) (.lit 6), .lit (.ofNat (nat_lit 3)))]) (iv := []) (fun x y hm => by
              simp only [List.mem_cons, List.not_mem_nil, or_false, Prod.mk.injEq] at hm
              rcases hm with ⟨rfl, rfl⟩ | ⟨rfl, rfl⟩
              · exact e0
              · exact e1
            ) (fun _ _ _ hm => by cases hm) r0_3 w hgl
          ·
            by_cases q6 : opVal .rem .u64 (IntKind.wrap .u64 a1) 6 < 5
            ·
              have e1 : opVal .rem .u64 (IntKind.wrap .u64 a1) 6 = 4 := by omega
              exact at_ (rw := [(.bin .rem .u64 (.conv .u64 (.var 0)) (.lit 8), .lit (.ofNat (nat_lit 0))), (.bin .rem .u64 (.conv .u64 (.var 1)) (.lit 6), .lit (.ofNat (nat_lit 4)))]) (iv := []) (fun x y hm => by
                simp only [List.mem_cons, List.not_mem_nil, or_false, Prod.mk.injEq] at hm
                rcases hm with ⟨rfl, rfl⟩ | ⟨rfl, rfl⟩
                · exact e0
                · exact e1
              ) (fun _ _ _ hm => by cases hm) r0_4 w hgl
            ·
              have e1 : opVal .rem .u64 (IntKind.wrap .u64 a1) 6 = 5 := by omega
              exact at_ (rw := [(.bin .rem .u64 (.conv .u64 (.var 0)) (.lit 8), .lit (.ofNat (nat_lit 0))), (.bin .rem .u64 (.conv .u64 (.var 1)) (.lit 6), .lit (.ofNat (nat_lit 5)))]) (iv := []) (fun x y hm => by
                simp only [List.mem_cons, List.not_mem_nil, or_false, Prod.mk.injEq] at hm
                rcases hm with ⟨rfl, rfl⟩ | ⟨rfl, rfl⟩
                · exact e0
                · exact e1
              ) (fun _ _ _ hm => by cases hm) r0_5 w hgl
      ·
        have e0 : opVal .rem .u64 (IntKind.wrap .u64 a0) 8 = 1 := by omega
        have g1 := rng1 a1
        by_cases q4 : opVal .rem .u64 (IntKind.wrap .u64 a1) 6 < 3
        ·
          by_cases q5 : opVal .rem .u64 (IntKind.wrap .u64 a1) 6 < 1
          ·
            have e1 : opVal .rem .u64 (IntKind.wrap .u64 a1) 6 = 0 := by omega
            exact at_ (rw := [(.bin .rem .u64 (.conv .u64 (.var 0)) (.lit 8), .lit (.ofNat (nat_lit 1))), (.bin .rem .u64 (.conv .u64 (.var 1)) (.lit 6), .lit (.ofNat (nat_lit 0)))]) (iv := []) (fun x y hm => by
              simp only [List.mem_cons, List.not_mem_nil, or_false, Prod.mk.injEq] at hm
              rcases hm with ⟨rfl, rfl⟩ | ⟨rfl, rfl⟩
              · exact e0
              · exact e1
            ) (fun _ _ _ hm => by cases hm) r1_0 w hgl
          ·
            by_cases q6 : opVal .rem .u64 (IntKind.wrap .u64 a1) 6 < 2
            ·
              have e1 : opVal .rem .u64 (IntKind.wrap .u64 a1) 6 = 1 := by omega
              exact at_ (rw := [(.bin .rem .u64 (.conv .u64 (.var 0)) (.lit 8), .lit (.ofNat (nat_lit 1))), (.bin .rem .u64 (.conv .u64 (.var 1)) (.lit 6), .lit (.ofNat (nat_lit 1)))]) (iv := []) (fun x y hm => by
                simp only [List.mem_cons, List.not_mem_nil, or_false, Prod.mk.injEq] at hm
                rcases hm with ⟨rfl, rfl⟩ | ⟨rfl, rfl⟩
                · exact e0
                · exact e1
              ) (fun _ _ _ hm => by cases hm) r1_1 w hgl
            ·
              have e1 : opVal .rem .u64 (IntKind.wrap .u64 a1) 6 = 2 := by omega
              exact at_ (rw := [(.bin .rem .u64 (.conv .u64 (.var 0)) (.lit 8), .lit (.ofNat (nat_lit 1))), (.bin .rem .u64 (.conv .u64 (.var 1)) (.lit 6), .lit (.ofNat (nat_lit 2)))]) (iv := []) (fun x y hm => by
                simp only [List.mem_cons, List.not_mem_nil, or_false, Prod.mk.injEq] at hm
                rcases hm with ⟨rfl, rfl⟩ | ⟨rfl, rfl⟩
                · exact e0
                · exact e1
              ) (fun _ _ _ hm => by cases hm) r1_2 w hgl
        ·
          by_cases q5 : opVal .rem .u64 (IntKind.wrap .u64 a1) 6 < 4
          ·
            have e1 : opVal .rem .u64 (IntKind.wrap .u64 a1) 6 = 3 := by omega
            exact at_ (rw := [(.bin .rem .u64 (.conv .u64 (.var 0)) (.lit 8), .lit (.ofNat (nat_lit 1))), (.bin .rem .u64 (.conv .u64 (.var 1)) (.lit 6), .lit (.ofNat (nat_lit 3)))]) (iv := []) (fun x y hm => by
              simp only [List.mem_cons, List.not_mem_nil, or_false, Prod.mk.injEq] at hm
              rcases hm with ⟨rfl, rfl⟩ | ⟨rfl, rfl⟩
              · exact e0
              · exact e1
            ) (fun _ _ _ hm => by cases hm) r1_3 w hgl
          ·
            by_cases q6 : opVal .rem .u64 (IntKind.wrap .u64 a1) 6 < 5
            ·
              have e1 : opVal .rem .u64 (IntKind.wrap .u64 a1) 6 = 4 := by omega
              exact at_ (rw := [(.bin .rem .u64 (.conv .u64 (.var 0)) (.lit 8), .lit (.ofNat (nat_lit 1))), (.bin .rem .u64 (.conv .u64 (.var 1)) (.lit 6), .lit (.ofNat (nat_lit 4)))]) (iv := []) (fun x y hm => by
                simp only [List.mem_cons, List.not_mem_nil, or_false, Prod.mk.injEq] at hm
                rcases hm with ⟨rfl, rfl⟩ | ⟨rfl, rfl⟩
                · exact e0
                · exact e1
              ) (fun _ _ _ hm => by cases hm) r1_4 w hgl
            ·
              have e1 : opVal .rem .u64 (IntKind.wrap .u64 a1) 6 = 5 := by omega
              exact at_ (rw := [(.bin .rem .u64 (.conv .u64 (.var 0)) (.lit 8), .lit (.ofNat (nat_lit 1))), (.bin .rem .u64 (.conv .u64 (.var 1)) (.lit 6), .lit (.ofNat (nat_lit 5)))]) (iv := []) (fun x y hm => by
                simp only [List.mem_cons, List.not_mem_nil, or_false, Prod.mk.injEq] at hm
                rcases hm with ⟨rfl, rfl⟩ | ⟨rfl, rfl⟩
                · exact e0
                · exact e1
              ) (fun _ _ _ hm => by cases hm) r1_5 w hgl
    ·
      by_cases q3 : opVal .rem .u64 (IntKind.wrap .u64 a0) 8 < 3
      ·
        have e0 : opVal .rem .u64 (IntKind.wrap .u64 a0) 8 = 2 := by omega
        have g1 := rng1 a1
        by_cases q4 : opVal .rem .u64 (IntKind.wrap .u64 a1) 6 < 3
        ·
          by_cases q5 : opVal .rem .u64 (IntKind.wrap .u64 a1) 6 < 1
          ·
            have e1 : opVal .rem .u64 (IntKind.wrap .u64 a1) 6 = 0 := by omega
            exact at_ (rw := [(.bin .rem .u64 (.conv .u64 (.var 0)) (.lit 8), .lit (.ofNat (nat_lit 2))), (.bin .rem .u64 (.conv .u64 (.var 1)) (.lit 6), .lit (.ofNat (nat_lit 0)))]) (iv := []) (fun x y hm => by
              simp only [List.mem_cons, List.not_mem_nil, or_false, Prod.mk.injEq] at hm
              rcases hm with ⟨rfl, rfl⟩ | ⟨rfl, rfl⟩
              · exact e0
              · exact e1
            ) (fun _ _ _ hm => by cases hm) r2_0 w hgl
          ·
            by_cases q6 : opVal .rem .u64 (IntKind.wrap .u64 a1) 6 < 2
            ·
              have e1 : opVal .rem .u64 (IntKind.wrap .u64 a1) 6 = 1 := by omega
              exact at_ (rw := [(.bin .rem .u64 (.conv .u64 (.var 0)) (.lit 8), .lit (.ofNat (nat_lit 2))), (.bin .rem .u64 (.conv .u64 (.var 1)) (.lit 6), .lit (.ofNat (nat_lit 1)))]) (iv := []) (fun x y hm => by
                simp only [List.mem_cons, List.not_mem_nil, or_false, Prod.mk.injEq] at hm
                rcases hm with ⟨rfl, rfl⟩ | ⟨rfl, rfl⟩
                · exact e0
                · exact e1
              ) (fun _ _ _ hm => by cases hm) r2_1 w hgl
            ·
              have e1 : opVal .rem .u64 (IntKind.wrap .u64 a1) 6 = 2 := by omega
              exact at_ (rw := [(.bin .rem .u64 (.conv .u64 (.var 0)) (.lit 8), .lit (.ofNat (nat_lit 2))), (.bin .rem .u64 (.conv .u64 (.var 1)) (.lit 6), .lit (.ofNat (nat_lit 2)))]) (iv := []) (fun x y hm => by
                simp only [List.mem_cons, List.not_mem_nil, or_false, Prod.mk.injEq] at hm
                rcases hm with ⟨rfl, rfl⟩ | ⟨rfl, rfl⟩
                · exact e0
                · exact e1
              ) (fun _ _ _ hm => by cases hm) r2_2 w hgl
        ·
          by_cases q5 : opVal .rem .u64 (IntKind.wrap .u64 a1) 6 < 4
          ·
            have e1 : opVal .rem .u64 (IntKind.wrap .u64 a1) 6 = 3 := by omega
            exact at_ (rw := [(.bin .rem .u64 (.conv .u64 (.var 0)) (.lit 8), .lit (.ofNat (nat_lit 2))), (.bin .rem .u64 (.conv .u64 (.var 1)) (.lit 6), .lit (.ofNat (nat_lit 3)))]) (iv := []) (fun x y hm => by
              simp only [List.mem_cons, List.not_mem_nil, or_false, Prod.mk.injEq] at hm
              rcases hm with ⟨rfl, rfl⟩ | ⟨rfl, rfl⟩
              · exact e0
              · exact e1
            ) (fun _ _ _ hm => by cases hm) r2_3 w hgl
          ·
            by_cases q6 : opVal .rem .u64 (IntKind.wrap .u64 a1) 6 < 5
            ·
              have e1 : opVal .rem .u64 (IntKind.wrap .u64 a1) 6 = 4 := by omega
              exact at_ (rw := [(.bin .rem .u64 (.conv .u64 (.var 0)) (.lit 8), .lit (.ofNat (nat_lit 2))), (.bin .rem .u64 (.conv .u64 (.var 1)) (.lit 6), .lit (.ofNat (nat_lit 4)))]) (iv := []) (fun x y hm => by
                simp only [List.mem_cons, List.not_mem_nil, or_false, Prod.mk.injEq] at hm
                rcases hm with ⟨rfl, rfl⟩ | ⟨rfl, rfl⟩
                · exact e0
                · exact e1
              ) (fun _ _ _ hm => by cases hm) r2_4 w hgl
            ·
              have e1 : opVal .rem .u64 (IntKind.wrap .u64 a1) 6 = 5 := by omega
              exact at_ (rw := [(.bin .rem .u64 (.conv .u64 (.var 0)) (.lit 8), .lit (.ofNat (nat_lit 2))), (.bin .rem .u64 (.conv .u64 (.var 1)) (.lit 6), .lit (.ofNat (nat_lit 5)))]) (iv := []) (fun x y hm => by
                simp only [List.mem_cons, List.not_mem_nil, or_false, Prod.mk.injEq] at hm
                rcases hm with ⟨rfl, rfl⟩ | ⟨rfl, rfl⟩
                · exact e0
                · exact e1
              ) (fun _ _ _ hm => by cases hm) r2_5 w hgl
      ·
        have e0 : opVal .rem .u64 (IntKind.wrap .u64 a0) 8 = 3 := by omega
        have g1 := rng1 a1
        by_cases q4 : opVal .rem .u64 (IntKind.wrap .u64 a1) 6 < 3
        ·
          by_cases q5 : opVal .rem .u64 (IntKind.wrap .u64 a1) 6 < 1
          ·
            have e1 : opVal .rem .u64 (IntKind.wrap .u64 a1) 6 = 0 := by omega
            exact at_ (rw := [(.bin .rem .u64 (.conv .u64 (.var 0)) (.lit 8), .lit (.ofNat (nat_lit 3))), (.bin .rem .u64 (.conv .u64 (.var 1)) (.lit 6), .lit (.ofNat (nat_lit 0)))]) (iv := []) (fun x y hm => by
              simp only [List.mem_cons, List.not_mem_nil, or_false, Prod.mk.injEq] at hm
              rcases hm with ⟨rfl, rfl⟩ | ⟨rfl, rfl⟩
              · exact e0
              · exact e1
            ) (fun _ _ _ hm => by cases hm) r3_0 w hgl
          ·
            by_cases q6 : opVal .rem .u64 (IntKind.wrap .u64 a1) 6 < 2
            ·
              have e1 : opVal .rem .u64 (IntKind.wrap .u64 a1) 6 = 1 := by omega
              exact at_ (rw := [(.bin .rem .u64 (.conv .u64 (.var 0)) (.lit 8), .lit (.ofNat (nat_lit 3))), (.bin .rem .u64 (.conv .u64 (.var 1)) (.lit 6), .lit (.ofNat (nat_lit 1)))]) (iv := []) (fun x y hm => by
                simp only [List.mem_cons, List.not_mem_nil, or_false, Prod.mk.injEq] at hm
                rcases hm with ⟨rfl, rfl⟩ | ⟨rfl, rfl⟩
                · exact e0
                · exact e1
              ) (fun _ _ _ hm => by cases hm) r3_1 w hgl
            ·
              have e1 : opVal .rem .u64 (IntKind.wrap .u64 a1) 6 = 2 := by omega
              exact at_ (rw := [(.bin .rem .u64 (.conv .u64 (.var 0)) (.lit 8), .lit (.ofNat (nat_lit 3))), (.bin .rem .u64 (.conv .u64 (.var 1)) (.lit 6), .lit (.ofNat (nat_lit 2)))]) (iv := []) (fun x y hm => by
                simp only [List.mem_cons, List.not_mem_nil, or_false, Prod.mk.injEq] at hm
                rcases hm with ⟨rfl, rfl⟩ | ⟨rfl, rfl⟩
                · exact e0
                · exact e1
              ) (fun _ _ _ hm => by cases hm) r3_2 w hgl
        ·
          by_cases q5 : opVal .rem .u64 (IntKind.wrap .u64 a1) 6 < 4
          ·
            have e1 : opVal .rem .u64 (IntKind.wrap .u64 a1) 6 = 3 := by omega
            exact at_ (rw := [(.bin .rem .u64 (.conv .u64 (.var 0)) (.lit 8), .lit (.ofNat (nat_lit 3))), (.bin .rem .u64 (.conv .u64 (.var 1)) (.lit 6), .lit (.ofNat (nat_lit 3)))]) (iv := []) (fun x y hm => by
              simp only [List.mem_cons, List.not_mem_nil, or_false, Prod.mk.injEq] at hm
              rcases hm with ⟨rfl, rfl⟩ | ⟨rfl, rfl⟩
              · exact e0
              · exact e1
            ) (fun _ _ _ hm => by cases hm) r3_3 w hgl
          ·
            by_cases q6 : opVal .rem .u64 (IntKind.wrap .u64 a1) 6 < 5
            ·
              have e1 : opVal .rem .u64 (IntKind.wrap .u64 a1) 6 = 4 := by omega
              exact at_ (rw := [(.bin .rem .u64 (.conv .u64 (.var 0)) (.lit 8), .lit (.ofNat (nat_lit 3))), (.bin .rem .u64 (.conv .u64 (.var 1)) (.lit 6), .lit (.ofNat (nat_lit 4)))]) (iv := []) (fun x y hm => by
                simp only [List.mem_cons, List.not_mem_nil, or_false, Prod.mk.injEq] at hm
                rcases hm with ⟨rfl, rfl⟩ | ⟨rfl, rfl⟩
                · exact e0
                · exact e1
              ) (fun _ _ _ hm => by cases hm) r3_4 w hgl
            ·
              have e1 : opVal .rem .u64 (IntKind.wrap .u64 a1) 6 = 5 := by omega
              exact at_ (rw := [(.bin .rem .u64 (.conv .u64 (.var 0)) (.lit 8), .lit (.ofNat (nat_lit 3))), (.bin .rem .u64 (.conv .u64 (.var 1)) (.lit 6), .lit (.ofNat (nat_lit 5)))]) (iv := []) (fun x y hm => by
                simp only [List.mem_cons, List.not_mem_nil, or_false, Prod.mk.injEq] at hm
                rcases hm with ⟨rfl, rfl⟩ | ⟨rfl, rfl⟩
                · exact e0
                · exact e1
              ) (fun _ _ _ hm => by cases hm) r3_5 w hgl
  ·
    by_cases q2 : opVal .rem .u64 (IntKind.wrap .u64 a0) 8 < 6
    ·
      by_cases q3 : opVal .rem .u64 (IntKind.wrap .u64 a0) 8 < 5
      ·
        have e0 : opVal .rem .u64 (IntKind.wrap .u64 a0) 8 = 4 := by omega
        have g1 := rng1 a1
        by_cases q4 : opVal .rem .u64 (IntKind.wrap .u64 a1) 6 < 3
        ·
          by_cases q5 : opVal .rem .u64 (IntKind.wrap .u64 a1) 6 < 1
          ·
            have e1 : opVal .rem .u64 (IntKind.wrap .u64 a1) 6 = 0 := by omega
            exact at_ (rw := [(.bin .rem .u64 (.conv .u64 (.var 0)) (.lit 8), .lit (.ofNat (nat_lit 4))), (.bin .rem .u64 (.conv .u64 (.var 1)) (.lit 6), .lit (.ofNat (nat_lit 0)))]) (iv := []) (fun x y hm => by
              simp only [List.mem_cons, List.not_mem_nil, or_false, Prod.mk.injEq] at hm
              rcases hm with ⟨rfl, rfl⟩ | ⟨rfl, rfl⟩
              · exact e0
              · exact e1
            ) (fun _ _ _ hm => by cases hm) r4_0 w hgl
          ·
            by_cases q6 : opVal .rem .u64 (IntKind.wrap .u64 a1) 6 < 2
            ·
              have e1 : opVal .rem .u64 (IntKind.wrap .u64 a1) 6 = 1 := by omega
              exact at_ (rw := [(.bin .rem .u64 (.conv .u64 (.var 0)) (.lit 8), .lit (.ofNat (nat_lit 4))), (.bin .rem .u64 (.conv .u64 (.var 1)) (.lit 6), .lit (.ofNat (nat_lit 1)))]) (iv := []) (fun x y hm => by
                simp only [List.mem_cons, List.not_mem_nil, or_false, Prod.mk.injEq] at hm
                rcases hm with ⟨rfl, rfl⟩ | ⟨rfl, rfl⟩
                · exact e0
                · exact e1
              ) (fun _ _ _ hm => by cases hm) r4_1 w hgl
            ·
              have e1 : opVal .rem .u64 (IntKind.wrap .u64 a1) 6 = 2 := by omega
              exact at_ (rw := [(.bin .rem .u64 (.conv .u64 (.var 0)) (.lit 8), .lit (.ofNat (nat_lit 4))), (.bin .rem .u64 (.conv .u64 (.var 1)) (.lit 6), .lit (.ofNat (nat_lit 2)))]) (iv := []) (fun x y hm => by
                simp only [List.mem_cons, List.not_mem_nil, or_false, Prod.mk.injEq] at hm
                rcases hm with ⟨rfl, rfl⟩ | ⟨rfl, rfl⟩
                · exact e0
                · exact e1
              ) (fun _ _ _ hm => by cases hm) r4_2 w hgl
        ·
          by_cases q5 : opVal .rem .u64 (IntKind.wrap .u64 a1) 6 < 4
          ·
            have e1 : opVal .rem .u64 (IntKind.wrap .u64 a1) 6 = 3 := by omega
            exact at_ (rw := [(.bin .rem .u64 (.conv .u64 (.var 0)) (.lit 8), .lit (.ofNat (nat_lit 4))), (.bin .rem .u64 (.conv .u64 (.var 1)) (.lit 6), .lit (.ofNat (nat_lit 3)))]) (iv := []) (fun x y hm => by
              simp only [List.mem_cons, List.not_mem_nil, or_false, Prod.mk.injEq] at hm
              rcases hm with ⟨rfl, rfl⟩ | ⟨rfl, rfl⟩
              · exact e0
              · exact e1
            ) (fun _ _ _ hm => by cases hm) r4_3 w hgl
          ·
            by_cases q6 : opVal .rem .u64 (IntKind.wrap .u64 a1) 6 < 5
            ·
              have e1 : opVal .rem .u64 (IntKind.wrap .u64 a1) 6 = 4 := by omega
              exact at_ (rw := [(.bin .rem .u64 (.conv .u64 (.var 0)) (.lit 8), .lit (.ofNat (nat_lit 4))), (.bin .rem .u64 (.conv .u64 (.var 1)) (.lit 6), .lit (.ofNat (nat_lit 4)))]) (iv := []) (fun x y hm => by
                simp only [List.mem_cons, List.not_mem_nil, or_false, Prod.mk.injEq] at hm
                rcases hm with ⟨rfl, rfl⟩ | ⟨rfl, rfl⟩
                · exact e0
                · exact e1
              ) (fun _ _ _ hm => by cases hm) r4_4 w hgl
            ·
              have e1 : opVal .rem .u64 (IntKind.wrap .u64 a1) 6 = 5 := by omega
              exact at_ (rw := [(.bin .rem .u64 (.conv .u64 (.var 0)) (.lit 8), .lit (.ofNat (nat_lit 4))), (.bin .rem .u64 (.conv .u64 (.var 1)) (.lit 6), .lit (.ofNat (nat_lit 5)))]) (iv := []) (fun x y hm => by
                simp only [List.mem_cons, List.not_mem_nil, or_false, Prod.mk.injEq] at hm
                rcases hm with ⟨rfl, rfl⟩ | ⟨rfl, rfl⟩
                · exact e0
                · exact e1
              ) (fun _ _ _ hm => by cases hm) r4_5 w hgl
      ·
        have e0 : opVal .rem .u64 (IntKind.wrap .u64 a0) 8 = 5 := by omega
        have g1 := rng1 a1
        by_cases q4 : opVal .rem .u64 (IntKind.wrap .u64 a1) 6 < 3
        ·
          by_cases q5 : opVal .rem .u64 (IntKind.wrap .u64 a1) 6 < 1
          ·
            have e1 : opVal .rem .u64 (IntKind.wrap .u64 a1) 6 = 0 := by omega
            exact at_ (rw := [(.bin .rem .u64 (.conv .u64 (.var 0)) (.lit 8), .lit (.ofNat (nat_lit 5))), (.bin .rem .u64 (.conv .u64 (.var 1)) (.lit 6), .lit (.ofNat (nat_lit 0)))]) (iv := []) (fun x y hm => by
              simp only [List.mem_cons, List.not_mem_nil, or_false, Prod.mk.injEq] at hm
              rcases hm with ⟨rfl, rfl⟩ | ⟨rfl, rfl⟩
              · exact e0
              · exact e1
            ) (fun _ _ _ hm => by cases hm) r5_0 w hgl
          ·
            by_cases q6 : opVal .rem .u64 (IntKind.wrap .u64 a1) 6 < 2
            ·
              have e1 : opVal .rem .u64 (IntKind.wrap .u64 a1) 6 = 1 := by omega
              exact at_ (rw := [(.bin .rem .u64 (.conv .u64 (.var 0)) (.lit 8), .lit (.ofNat (nat_lit 5))), (.bin .rem .u64 (.conv .u64 (.var 1)) (.lit 6), .lit (.ofNat (nat_lit 1)))]) (iv := []) (fun x y hm => by
                simp only [List.mem_cons, List.not_mem_nil, or_false, Prod.mk.injEq] at hm
                rcases hm with ⟨rfl, rfl⟩ | ⟨rfl, rfl⟩
                · exact e0
                · exact e1
              ) (fun _ _ _ hm => by cases hm) r5_1 w hgl
            ·
              have e1 : opVal .rem .u64 (IntKind.wrap .u64 a1) 6 = 2 := by omega
              exact at_ (rw := [(.bin .rem .u64 (.conv .u64 (.var 0)) (.lit 8), .lit (.ofNat (nat_lit 5))), (.bin .rem .u64 (.conv .u64 (.var 1)) (.lit 6), .lit (.ofNat (nat_lit 2)))]) (iv := []) (fun x y hm => by
                simp only [List.mem_cons, List.not_mem_nil, or_false, Prod.mk.injEq] at hm
                rcases hm with ⟨rfl, rfl⟩ | ⟨rfl, rfl⟩
                · exact e0
                · exact e1
              ) (fun _ _ _ hm => by cases hm) r5_2 w hgl
        ·
          by_cases q5 : opVal .rem .u64 (IntKind.wrap .u64 a1) 6 < 4
          ·
            have e1 : opVal .rem .u64 (IntKind.wrap .u64 a1) 6 = 3 := by omega
            exact at_ (rw := [(.bin .rem .u64 (.conv .u64 (.var 0)) (.lit 8), .lit (.ofNat (nat_lit 5))), (.bin .rem .u64 (.conv .u64 (.var 1)) (.lit 6), .lit (.ofNat (nat_lit 3)))]) (iv := []) (fun x y hm => by
              simp only [List.mem_cons, List.not_mem_nil, or_false, Prod.mk.injEq] at hm
              rcases hm with ⟨rfl, rfl⟩ | ⟨rfl, rfl⟩
              · exact e0
              · exact e1
            ) (fun _ _ _ hm => by cases hm) r5_3 w hgl
          ·
            by_cases q6 : opVal .rem .u64 (IntKind.wrap .u64 a1) 6 < 5
            ·
              have e1 : opVal .rem .u64 (IntKind.wrap .u64 a1) 6 = 4 := by omega
              exact at_ (rw := [(.bin .rem .u64 (.conv .u64 (.var 0)) (.lit 8), .lit (.ofNat (nat_lit 5))), (.bin .rem .u64 (.conv .u64 (.var 1)) (.lit 6), .lit (.ofNat (nat_lit 4)))]) (iv := []) (fun x y hm => by
                simp only [List.mem_cons, List.not_mem_nil, or_false, Prod.mk.injEq] at hm
                rcases hm with ⟨rfl, rfl⟩ | ⟨rfl, rfl⟩
                · exact e0
                · exact e1
              ) (fun _ _ _ hm => by cases hm) r5_4 w hgl
            ·
              have e1 : opVal .rem .u64 (IntKind.wrap .u64 a1) 6 = 5 := by omega
              exact at_ (rw := [(.bin .rem .u64 (.conv .u64 (.var 0)) (.lit 8), .lit (.ofNat (nat_lit 5))), (.bin .rem .u64 (.conv .u64 (.var 1)) (.lit 6), .lit (.ofNat (nat_lit 5)))]) (iv := []) (fun x y hm => by
                simp only [List.mem_cons, List.not_mem_nil, or_false, Prod.mk.injEq] at hm
                rcases hm with ⟨rfl, rfl⟩ | ⟨rfl, rfl⟩
                · exact e0
                · exact e1
              ) (fun _ _ _ hm => by cases hm) r5_5 w hgl
    ·
      by_cases q3 : opVal .rem .u64 (IntKind.wrap .u64 a0) 8 < 7
      ·
        have e0 : opVal .rem .u64 (IntKind.wrap .u64 a0) 8 = 6 := by omega
        have g1 := rng1 a1
        by_cases q4 : opVal .rem .u64 (IntKind.wrap .u64 a1) 6 < 3
        ·
          by_cases q5 : opVal .rem .u64 (IntKind.wrap .u64 a1) 6 < 1
          ·
            have e1 : opVal .rem .u64 (IntKind.wrap .u64 a1) 6 = 0 := by omega
            exact at_ (rw := [(.bin .rem .u64 (.conv .u64 (.var 0)) (.lit 8), .lit (.ofNat (nat_lit 6))), (.bin .rem .u64 (.conv .u64 (.var 1)) (.lit 6), .lit (.ofNat (nat_lit 0)))]) (iv := []) (fun x y hm => by
              simp only [List.mem_cons, List.not_mem_nil, or_false, Prod.mk.injEq] at hm
              rcases hm with ⟨rfl, rfl⟩ | ⟨rfl, rfl⟩
              · exact e0
              · exact e1
            ) (fun _ _ _ hm => by cases hm) r6_0 w hgl
          ·
            by_cases q6 : opVal .rem .u64 (IntKind.wrap .u64 a1) 6 < 2
            ·
              have e1 : opVal .rem .u64 (IntKind.wrap .u64 a1) 6 = 1 := by omega
              exact at_ (rw := [(.bin .rem .u64 (.conv .u64 (.var 0)) (.lit 8), .lit (.ofNat (nat_lit 6))), (.bin .rem .u64 (.conv .u64 (.var 1)) (.lit 6), .lit (.ofNat (nat_lit 1)))]) (iv := []) (fun x y hm => by
                simp only [List.mem_cons, List.not_mem_nil, or_false, Prod.mk.injEq] at hm
                rcases hm with ⟨rfl, rfl⟩ | ⟨rfl, rfl⟩
                · exact e0
                · exact e1
              ) (fun _ _ _ hm => by cases hm) r6_1 w hgl
            ·
              have e1 : opVal .rem .u64 (IntKind.wrap .u64 a1) 6 = 2 := by omega
              exact at_ (rw := [(.bin .rem .u64 (.conv .u64 (.var 0)) (.lit 8), .lit (.ofNat (nat_lit 6))), (.bin .rem .u64 (.conv .u64 (.var 1)) (.lit 6), .lit (.ofNat (nat_lit 2)))]) (iv := []) (fun x y hm => by
                simp only [List.mem_cons, List.not_mem_nil, or_false, Prod.mk.injEq] at hm
                rcases hm with ⟨rfl, rfl⟩ | ⟨rfl, rfl⟩
                · exact e0
                · exact e1
              ) (fun _ _ _ hm => by cases hm) r6_2 w hgl
        ·
          by_cases q5 : opVal .rem .u64 (IntKind.wrap .u64 a1) 6 < 4
          ·
            have e1 : opVal .rem .u64 (IntKind.wrap .u64 a1) 6 = 3 := by omega
            exact at_ (rw := [(.bin .rem .u64 (.conv .u64 (.var 0)) (.lit 8), .lit (.ofNat (nat_lit 6))), (.bin .rem .u64 (.conv .u64 (.var 1)) (.lit 6), .lit (.ofNat (nat_lit 3)))]) (iv := []) (fun x y hm => by
              simp only [List.mem_cons, List.not_mem_nil, or_false, Prod.mk.injEq] at hm
              rcases hm with ⟨rfl, rfl⟩ | ⟨rfl, rfl⟩
              · exact e0
              · exact e1
            ) (fun _ _ _ hm => by cases hm) r6_3 w hgl
          ·
            by_cases q6 : opVal .rem .u64 (IntKind.wrap .u64 a1) 6 < 5
            ·
              have e1 : opVal .rem .u64 (IntKind.wrap .u64 a1) 6 = 4 := by omega
              exact at_ (rw := [(.bin .rem .u64 (.conv .u64 (.var 0)) (.lit 8), .lit (.ofNat (nat_lit 6))), (.bin .rem .u64 (.conv .u64 (.var 1)) (.lit 6), .lit (.ofNat (nat_lit 4)))]) (iv := []) (fun x y hm => by
                simp only [List.mem_cons, List.not_mem_nil, or_false, Prod.mk.injEq] at hm
                rcases hm with ⟨rfl, rfl⟩ | ⟨rfl, rfl⟩
                · exact e0
                · exact e1
              ) (fun _ _ _ hm => by cases hm) r6_4 w hgl
            ·
              have e1 : opVal .rem .u64 (IntKind.wrap .u64 a1) 6 = 5 := by omega
              exact at_ (rw := [(.bin .rem .u64 (.conv .u64 (.var 0)) (.lit 8), .lit (.ofNat (nat_lit 6))), (.bin .rem .u64 (.conv .u64 (.var 1)) (.lit 6), .lit (.ofNat (nat_lit 5)))]) (iv := []) (fun x y hm => by
                simp only [List.mem_cons, List.not_mem_nil, or_false, Prod.mk.injEq] at hm
                rcases hm with ⟨rfl, rfl⟩ | ⟨rfl, rfl⟩
                · exact e0
                · exact e1
              ) (fun _ _ _ hm => by cases hm) r6_5 w hgl
      ·
        have e0 : opVal .rem .u64 (IntKind.wrap .u64 a0) 8 = 7 := by omega
        have g1 := rng1 a1
        by_cases q4 : opVal .rem .u64 (IntKind.wrap .u64 a1) 6 < 3
        ·
          by_cases q5 : opVal .rem .u64 (IntKind.wrap .u64 a1) 6 < 1
          ·
            have e1 : opVal .rem .u64 (IntKind.wrap .u64 a1) 6 = 0 := by omega
            exact at_ (rw := [(.bin .rem .u64 (.conv .u64 (.var 0)) (.lit 8), .lit (.ofNat (nat_lit 7))), (.bin .rem .u64 (.conv .u64 (.var 1)) (.lit 6), .lit (.ofNat (nat_lit 0)))]) (iv := []) (fun x y hm => by
              simp only [List.mem_cons, List.not_mem_nil, or_false, Prod.mk.injEq] at hm
              rcases hm with ⟨rfl, rfl⟩ | ⟨rfl, rfl⟩
              · exact e0
              · exact e1
            ) (fun _ _ _ hm => by cases hm) r7_0 w hgl
          ·
            by_cases q6 : opVal .rem .u64 (IntKind.wrap .u64 a1) 6 < 2
            ·
              have e1 : opVal .rem .u64 (IntKind.wrap .u64 a1) 6 = 1 := by omega
              exact at_ (rw := [(.bin .rem .u64 (.conv .u64 (.var 0)) (.lit 8), .lit (.ofNat (nat_lit 7))), (.bin .rem .u64 (.conv .u64 (.var 1)) (.lit 6), .lit (.ofNat (nat_lit 1)))]) (iv := []) (fun x y hm => by
                simp only [List.mem_cons, List.not_mem_nil, or_false, Prod.mk.injEq] at hm
                rcases hm with ⟨rfl, rfl⟩ | ⟨rfl, rfl⟩
                · exact e0
                · exact e1
              ) (fun _ _ _ hm => by cases hm) r7_1 w hgl
            ·
              have e1 : opVal .rem .u64 (IntKind.wrap .u64 a1) 6 = 2 := by omega
              exact at_ (rw := [(.bin .rem .u64 (.conv .u64 (.var 0)) (.lit 8), .lit (.ofNat (nat_lit 7))), (.bin .rem .u64 (.conv .u64 (.var 1)) (.lit 6), .lit (.ofNat (nat_lit 2)))]) (iv := []) (fun x y hm => by
                simp only [List.mem_cons, List.not_mem_nil, or_false, Prod.mk.injEq] at hm
                rcases hm with ⟨rfl, rfl⟩ | ⟨rfl, rfl⟩
                · exact e0
                · exact e1
              ) (fun _ _ _ hm => by cases hm) r7_2 w hgl
        ·
          by_cases q5 : opVal .rem .u64 (IntKind.wrap .u64 a1) 6 < 4
          ·
            have e1 : opVal .rem .u64 (IntKind.wrap .u64 a1) 6 = 3 := by omega
            exact at_ (rw := [(.bin .rem .u64 (.conv .u64 (.var 0)) (.lit 8), .lit (.ofNat (nat_lit 7))), (.bin .rem .u64 (.conv .u64 (.var 1)) (.lit 6), .lit (.ofNat (nat_lit 3)))]) (iv := []) (fun x y hm => by
              simp only [List.mem_cons, List.not_mem_nil, or_false, Prod.mk.injEq] at hm
              rcases hm with ⟨rfl, rfl⟩ | ⟨rfl, rfl⟩
              · exact e0
              · exact e1
            ) (fun _ _ _ hm => by cases hm) r7_3 w hgl
          ·
            by_cases q6 : opVal .rem .u64 (IntKind.wrap .u64 a1) 6 < 5
            ·
              have e1 : opVal .rem .u64 (IntKind.wrap .u64 a1) 6 = 4 := by omega
              exact at_ (rw := [(.bin .rem .u64 (.conv .u64 (.var 0)) (.lit 8), .lit (.ofNat (nat_lit 7))), (.bin .rem .u64 (.conv .u64 (.var 1)) (.lit 6), .lit (.ofNat (nat_lit 4)))]) (iv := []) (fun x y hm => by
                simp only [List.mem_cons, List.not_mem_nil, or_false, Prod.mk.injEq] at hm
                rcases hm with ⟨rfl, rfl⟩ | ⟨rfl, rfl⟩
                · exact e0
                · exact e1
              ) (fun _ _ _ hm => by cases hm) r7_4 w hgl
            ·
              have e1 : opVal .rem .u64 (IntKind.wrap .u64 a1) 6 = 5 := by omega
              exact at_ (rw := [(.bin .rem .u64 (.conv .u64 (.var 0)) (.lit 8), .lit (.ofNat (nat_lit 7))), (.bin .rem .u64 (.conv .u64 (.var 1)) (.lit 6), .lit (.ofNat (nat_lit 5)))]) (iv := []) (fun x y hm => by
                simp only [List.mem_cons, List.not_mem_nil, or_false, Prod.mk.injEq] at hm
                rcases hm with ⟨rfl, rfl⟩ | ⟨rfl, rfl⟩
                · exact e0
                · exact e1
              ) (fun _ _ _ hm => by cases hm) r7_5 w hgl

/-! ### THE ROW's STEP: WRITTEN OUT: LEAVE IT -/
set_option maxRecDepth 100000 in
theorem lifted (os : Os) (started : os.Started) (H : Type) (enc : TypeId × Value → H) :
    ReturnsInHanded {} Tryz.checked os 5 .any (fun w args => (Rows.asmLinesSpec.pre enc Tryz.prog Tryz.f5 Rows.asmLinesRow.domain false w args ∧ laidMet Tryz.prog Rows.asmLinesRow.laid w) ∧ sizedMet enc Tryz.prog Tryz.f5 (OpenSpec.ofChange Rows.asmLinesSpec) false w args) (Rows.asmLinesSpec.post enc Tryz.prog Tryz.f5 false true false false) := by
  refine returnsInHanded_of_change_and (C := Tryz.checked) (X := fun w _ => laidMet Tryz.prog Rows.asmLinesRow.laid w) (fun _ _ _ hh h => h.of_heap hh) own started (by kernel_rfl) Tryz.func5
    (ChangeSpec.witness_shaped (enc := enc) (C := Tryz.checked) (os := os) (X := fun w _ => laidMet Tryz.prog Rows.asmLinesRow.laid w) false (laidWorld os #[.int .i64 0, .int .i64 0]) #[.int .i64 0, .int .i64 0] 8 rfl (World.shaped_of_RefB (by kernel_rfl) (by kernel_rfl)) (by kernel_rfl) (by kernel_rfl) (by kernel_rfl) (laid_met_asmLines os _ _)) ?_
  intro W base args ds gs before hval0 hW hcnd _ hL _
  have hval : ∀ (j : Nat) t v, Tryz.f5.params[j]? = some t → args[j]? = some v → Value.okWide Tryz.prog W .any base t v := hval0
  have hW' := hW
  obtain ⟨p, q, hA0, hV, rfl, hfz, hnd⟩ := hW
  have hA : DataW.TrodAll enc Tryz.prog W 0 (fun _ => true) true Tryz.f5.params.toList args.toList ds p := hA0
  rw [Tryz.params5] at hA hval
  obtain ⟨v0, vs0, d0, ds0, p0, q0, hargs, rfl, rfl, h0, r0⟩ := trodAll_cons hA
  obtain ⟨v1, vs1, d1, ds1, p1, q1, rfl, rfl, rfl, h1, r1⟩ := trodAll_cons r0
  obtain ⟨rfl, rfl, rfl⟩ := trodAll_nil r1
  obtain rfl : args = #[v0, v1] := by cases args; simp_all
  obtain ⟨rfl, rfl⟩ := trodVars_none hV
  obtain ⟨a0, rfl, rfl, rfl, w0⟩ := open_int Tryz.underlying3 (hval 0 3 v0 rfl rfl) h0
  obtain ⟨a1, rfl, rfl, rfl, w1⟩ := open_int Tryz.underlying3 (hval 1 3 v1 rfl rfl) h1
  clear hA0 hval0
  simp only [List.append_nil] at hW'
  refine (walk a0 a1 w0 w1 W (gl_of_laid_asmLines hL)).mono fun e W' ⟨he, hg⟩ => ?_
  subst he
  exact ⟨_, rfl, post_of_below (pa := []) (pv := []) hW' (fun _ _ _ => (trodAll_cons_mk (shut_bool Tryz.underlying4 _) trodAll_mk0)) (fun sp _ => (trodAll_cons_mk (shut_int Tryz.underlying3 w0) (trodAll_cons_mk (shut_int Tryz.underlying3 w1) trodAll_mk0))) (fun _ _ => rfl) rfl
    hg (ok_one (by kernel_rfl) rfl (okWide_bool_mk Tryz.underlying4 _))⟩

theorem over : Rows.asmLinesRow.holds Tryz.pinned (OpenSpec.ofChange Rows.asmLinesSpec) :=
  OpenClaim.holds_of_wide 5 Tryz.f5 rfl rfl rfl rfl rfl rfl rfl ⟨rfl, rfl, rfl, rfl, rfl⟩ rfl rfl rfl rfl rfl (by kernel_rfl) Tryz.func5 joined
    (of_decide_eq_true (by kernel_rfl)) (by unfold Func.isWrapper; first | (rw [if_pos (by decide +kernel)]; kernel_rfl) | (rw [if_neg (by decide +kernel)]; exact ⟨rfl, rfl⟩))
    (fun os started H enc _ => lifted os started H enc)

/-- ████ THE STATEMENT ████ -/
theorem proved : Rows.AsmLinesCardSaid :=
  Claim7.holds_tied_plain_at .later [] [.data, .data, .data, .data, .sentinel, .sentinel, .listed, .data, .pinned] true (true, "179c2d704976e3bb9efd4ed74722064d4dfdeddaf5975eae3d4532b7caa789ca") true
    over (fun _ h => by cases h) g0 (fun _ h => by cases h) asmLines_row_tie rfl ⟨rfl, rfl⟩ g1 rfl
    (fun f fn hf hfn => by
      obtain rfl : f = 5 := Option.some.inj (g2.symm.trans hf) |>.symm
      obtain rfl : fn = Tryz.f5 := (Option.some.inj (Tryz.func5.symm.trans hfn)).symm
      exact ⟨g3, fun j t ht => by
        rw [Tryz.params5] at ht
        have hm : t ∈ (Tryz.f5.params : Array TypeId).toList := by
          rw [Tryz.params5]
          exact Array.mem_toList_iff.2 (Array.mem_of_getElem? ht)
        have := List.all_eq_true.1 g4 t hm
        have h2 : Tryz.prog.wantsStandIn t = false := by simpa using this
        exact h2⟩)
    g5
#print axioms proved
end Go.Proofs.YtggidjlffhakhaaGreatDoor.asmLines
