/- gneiss/gneisslaw17.TypesNull answers true at every input, and leaves its arguments as they were. No conditions. -/
import Derived.Test.YtnldipiahcalhaaDoorRows
import Derived.WalkKit
import Derived.ProofKit
import Derived.OpenShut
import Derived.Below
import Derived.ChangeSame
import Derived.Test.YtnldipiahcalhaaDoorTypesNullR0
import Derived.Test.YtnldipiahcalhaaDoorTypesNullR1
import Derived.Test.YtnldipiahcalhaaDoorTypesNullR2
import Derived.Test.YtnldipiahcalhaaDoorTypesNullR3
import Derived.Test.YtnldipiahcalhaaDoorTypesNullR4
import Derived.Test.YtnldipiahcalhaaDoorTypesNullR5
import Derived.Test.YtnldipiahcalhaaDoorLaid
import Derived.Test.YtnldipiahcalhaaDoorTie
import Derived.Test.YtnldipiahcalhaaDoorCards
import Derived.SevenTiedAt
namespace Go.Proofs.YtnldipiahcalhaaDoor.typesNull
open Go.Ai Go.ChangeShapes Go.WideShapes Go.ChangeAt Go.RowKit
set_option linter.unusedVariables false

theorem own : ownKnob Tryd.prog.godebug = none := by kernel_rfl

section
variable {H : Type} {enc : TypeId × Value → H} {P : Program}
theorem post_of_below {f : Func} {s : ChangeSpec} {apart fresh handsOn again : Bool} {W W' : World} {args : Array Value} {v : Value} {ds gs : List (DataW H)} {before pa pv : List MemPlace}
    (hW : DataW.Whole enc P f.params.toList s.vars apart W args.toList ds gs before)
    (hres : ∀ (b : Nat) (sp : Nat → Bool) (hd : Bool), DataW.TrodAll enc P W' b sp hd f.resultTypes.toList (v.resultList f.resultTypes.size) (s.fn H (ds ++ gs)).results [])
    (hargs : ∀ sp : Nat → Bool, (∀ p ∈ before, sp p.block = true) → DataW.TrodAll enc P W' 0 sp true f.params.toList args.toList (s.fn H (ds ++ gs)).args pa)
    (hvars : ∀ sp : Nat → Bool, (∀ p ∈ before, sp p.block = true) → DataW.TrodVars enc P W' sp s.vars (s.fn H (ds ++ gs)).vars pv)
    (hps : before = pa ++ pv) (hb : Below W.heap.size W W')
    (hok : ∀ (j : Nat) (t : TypeId) (r : Value), f.resultTypes[j]? = some t → (v.resultList f.resultTypes.size)[j]? = some r → Value.okWide P W' .any 0 t r) :
    s.post enc P f apart fresh handsOn again W args v W' := by
  have hlt : ∀ p ∈ before, p.block < W.heap.size := fun p hp => hW.lt p hp
  have hold : ∀ p ∈ before, (fun b => decide (b < W.heap.size)) p.block = true := fun p hp => by simpa using hlt p hp
  refine ⟨ds, gs, before, [], pa, pv, hW, hres _ _ _, hargs _ hold, hvars _ hold, World.keptBut_mono (fun p hp => ⟨hp, ?_⟩) (hb.frame (· ∈ before)), fun _ => ?_⟩
  · rw [hps, List.mem_append] at hp
    exact Or.inr hp
  · obtain ⟨_, _, _, _, _, hz, hn⟩ := hW
    refine ⟨hok, _, _, ([] ++ pa) ++ pv, ⟨[] ++ pa, pv, trodAll_append (hargs _ (fun _ _ => rfl)) (hres _ _ _), hvars _ (fun _ _ => rfl), rfl, ?_, ?_⟩, ?_⟩
    · intro b off hp
      have hin : MemPlace.cell b off ∈ before := by rw [hps]; simpa using hp
      rw [hb.frozen (hlt _ hin)]
      exact hz b off hin
    · intro ha
      have := hn ha
      rw [hps] at this
      simpa using this
    · intro p hp _
      rw [hps]
      simpa using hp
end
/-! ### the walk: by the abstract machine -/
theorem rng0 (a : Int) : -39 ≤ opVal .rem .i64 a 40 ∧ opVal .rem .i64 a 40 ≤ 39 := by
  have h1 : a.tmod 40 < 40 := Int.tmod_lt_of_pos a (by omega)
  have h2 : -40 < a.tmod 40 := Int.lt_tmod_of_pos a (by omega)
  show -39 ≤ a.tmod 40 ∧ a.tmod 40 ≤ 39
  omega
theorem at_ {a0 : Int}  {rw : List (SI × SI)} {iv : List (SI × Int × Int)} (hr : ∀ x y, (x, y) ∈ rw → x.ev (fun i => if i = 0 then a0 else 0) = y.ev (fun i => if i = 0 then a0 else 0)) (hi : ∀ x lo hi, (x, lo, hi) ∈ iv → lo ≤ x.ev (fun i => if i = 0 then a0 else 0) ∧ x.ev (fun i => if i = 0 then a0 else 0) ≤ hi) (r : yes (run rw iv) = true) (w : World) (hgl : GlOk gl w) : Calls Tryd.prog 5 #[.int .i64 a0] w fun e w' => e = .returned (.bool true) ∧ Below w.heap.size w w' :=
  haveI : GlOk (⟨rw, [], iv, fun _ _ _ => none, gl⟩ : Cf).gl w := hgl
  soundC comp.mixed comp.TOk (over := (overC 7)) (cf := ⟨rw, [], iv, fun _ _ _ => none, gl⟩) (σ := fun i => if i = 0 then a0 else 0) (xs := [.int .i64 a0]) (fun _ h => overC_ok awakes h)
    ⟨hr, fun _ _ _ _ hm => (by cases hm), hi, fun _ _ _ _ hm => (by cases hm)⟩
    (.cons (.int .i64 (.var 0)) .nil) r
theorem walk (a0 : Int) (w0 : (Lit.int .i64 a0).wf = true) (w : World) :
    Calls Tryd.prog 5 #[.int .i64 a0] w fun e w' => e = .returned (.bool true) ∧ Below w.heap.size w w' := by
  have hgl : GlOk gl w := GlOk.none (fun _ => rfl)
  have g0 := rng0 a0
  by_cases q1 : opVal .rem .i64 a0 40 < 14
  ·
    by_cases q2 : opVal .rem .i64 a0 40 < 6
    ·
      by_cases q3 : opVal .rem .i64 a0 40 < 2
      ·
        by_cases q4 : opVal .rem .i64 a0 40 < 0
        ·
          have e0 : (-39) ≤ opVal .rem .i64 a0 40 ∧ opVal .rem .i64 a0 40 ≤ (-1) := by omega
          exact at_ (rw := []) (iv := [(.bin .rem .i64 (.var 0) (.lit 40), (.negSucc (nat_lit 38)), (.negSucc (nat_lit 0)))]) (fun _ _ hm => by cases hm) (fun x y z hm => by
            simp only [List.mem_cons, List.not_mem_nil, or_false, Prod.mk.injEq] at hm
            rcases hm with ⟨rfl, rfl, rfl⟩
            · exact e0
          ) rm39tom1 w hgl
        ·
          by_cases q5 : opVal .rem .i64 a0 40 < 1
          ·
            have e0 : opVal .rem .i64 a0 40 = 0 := by omega
            exact at_ (rw := [(.bin .rem .i64 (.var 0) (.lit 40), .lit (.ofNat (nat_lit 0)))]) (iv := []) (fun x y hm => by
              simp only [List.mem_cons, List.not_mem_nil, or_false, Prod.mk.injEq] at hm
              rcases hm with ⟨rfl, rfl⟩
              · exact e0
            ) (fun _ _ _ hm => by cases hm) r0 w hgl
          ·
            have e0 : opVal .rem .i64 a0 40 = 1 := by omega
            exact at_ (rw := [(.bin .rem .i64 (.var 0) (.lit 40), .lit (.ofNat (nat_lit 1)))]) (iv := []) (fun x y hm => by
              simp only [List.mem_cons, List.not_mem_nil, or_false, Prod.mk.injEq] at hm
              rcases hm with ⟨rfl, rfl⟩
              · exact e0
            ) (fun _ _ _ hm => by cases hm) r1 w hgl
      ·
        by_cases q4 : opVal .rem .i64 a0 40 < 4
        ·
          by_cases q5 : opVal .rem .i64 a0 40 < 3
          ·
            have e0 : opVal .rem .i64 a0 40 = 2 := by omega
            exact at_ (rw := [(.bin .rem .i64 (.var 0) (.lit 40), .lit (.ofNat (nat_lit 2)))]) (iv := []) (fun x y hm => by
              simp only [List.mem_cons, List.not_mem_nil, or_false, Prod.mk.injEq] at hm
              rcases hm with ⟨rfl, rfl⟩
              · exact e0
            ) (fun _ _ _ hm => by cases hm) r2 w hgl
          ·
            have e0 : opVal .rem .i64 a0 40 = 3 := by omega
            exact at_ (rw := [(.bin .rem .i64 (.var 0) (.lit 40), .lit (.ofNat (nat_lit 3)))]) (iv := []) (fun x y hm => by
              simp only [List.mem_cons, List.not_mem_nil, or_false, Prod.mk.injEq] at hm
              rcases hm with ⟨rfl, rfl⟩
              · exact e0
            ) (fun _ _ _ hm => by cases hm) r3 w hgl
        ·
          by_cases q5 : opVal .rem .i64 a0 40 < 5
          ·
            have e0 : opVal .rem .i64 a0 40 = 4 := by omega
            exact at_ (rw := [(.bin .rem .i64 (.var 0) (.lit 40), .lit (.ofNat (nat_lit 4)))]) (iv := []) (fun x y hm => by
              simp only [List.mem_cons, List.not_mem_nil, or_false, Prod.mk.injEq] at hm
              rcases hm with ⟨rfl, rfl⟩
              · exact e0
            ) (fun _ _ _ hm => by cases hm) r4 w hgl
          ·
            have e0 : opVal .rem .i64 a0 40 = 5 := by omega
            exact at_ (rw := [(.bin .rem .i64 (.var 0) (.lit 40), .lit (.ofNat (nat_lit 5)))]) (iv := []) (fun x y hm => by
              simp only [List.mem_cons, List.not_mem_nil, or_false, Prod.mk.injEq] at hm
              rcases hm with ⟨rfl, rfl⟩
              · exact e0
            ) (fun _ _ _ hm => by cases hm) r5 w hgl
    ·
      by_cases q3 : opVal .rem .i64 a0 40 < 10
      ·
        by_cases q4 : opVal .rem .i64 a0 40 < 8
        ·
          by_cases q5 : opVal .rem .i64 a0 40 < 7
          ·
            have e0 : opVal .rem .i64 a0 40 = 6 := by omega
            exact at_ (rw := [(.bin .rem .i64 (.var 0) (.lit 40), .lit (.ofNat (nat_lit 6)))]) (iv := []) (fun x y hm => by
              simp only [List.mem_cons, List.not_mem_nil, or_false, Prod.mk.injEq] at hm
              rcases hm with ⟨rfl, rfl⟩
              · exact e0
            ) (fun _ _ _ hm => by cases hm) r6 w hgl
          ·
            have e0 : opVal .rem .i64 a0 40 = 7 := by omega
            exact at_ (rw := [(.bin .rem .i64 (.var 0) (.lit 40), .lit (.ofNat (nat_lit 7)))]) (iv := []) (fun x y hm => by
              simp only [List.mem_cons, List.not_mem_nil, or_false, Prod.mk.injEq] at hm
              rcases hm with ⟨rfl, rfl⟩
              · exact e0
            ) (fun _ _ _ hm => by cases hm) r7 w hgl
        ·
          by_cases q5 : opVal .rem .i64 a0 40 < 9
          ·
            have e0 : opVal .rem .i64 a0 40 = 8 := by omega
            exact at_ (rw := [(.bin .rem .i64 (.var 0) (.lit 40), .lit (.ofNat (nat_lit 8)))]) (iv := []) (fun x y hm => by
              simp only [List.mem_cons, List.not_mem_nil, or_false, Prod.mk.injEq] at hm
              rcases hm with ⟨rfl, rfl⟩
              · exact e0
            ) (fun _ _ _ hm => by cases hm) r8 w hgl
          ·
            have e0 : opVal .rem .i64 a0 40 = 9 := by omega
            exact at_ (rw := [(.bin .rem .i64 (.var 0) (.lit 40), .lit (.ofNat (nat_lit 9)))]) (iv := []) (fun x y hm => by
              simp only [List.mem_cons, List.not_mem_nil, or_false, Prod.mk.injEq] at hm
              rcases hm with ⟨rfl, rfl⟩
              · exact e0
            ) (fun _ _ _ hm => by cases hm) r9 w hgl
      ·
        by_cases q4 : opVal .rem .i64 a0 40 < 12
        ·
          by_cases q5 : opVal .rem .i64 a0 40 < 11
          ·
            have e0 : opVal .rem .i64 a0 40 = 10 := by omega
            exact at_ (rw := [(.bin .rem .i64 (.var 0) (.lit 40), .lit (.ofNat (nat_lit 10)))]) (iv := []) (fun x y hm => by
              simp only [List.mem_cons, List.not_mem_nil, or_false, Prod.mk.injEq] at hm
              rcases hm with ⟨rfl, rfl⟩
              · exact e0
            ) (fun _ _ _ hm => by cases hm) r10 w hgl
          ·
            have e0 : opVal .rem .i64 a0 40 = 11 := by omega
            exact at_ (rw := [(.bin .rem .i64 (.var 0) (.lit 40), .lit (.ofNat (nat_lit 11)))]) (iv := []) (fun x y hm => by
              simp only [List.mem_cons, List.not_mem_nil, or_false, Prod.mk.injEq] at hm
              rcases hm with ⟨rfl, rfl⟩
              · exact e0
            ) (fun _ _ _ hm => by cases hm) r11 w hgl
        ·
          by_cases q5 : opVal .rem .i64 a0 40 < 13
          ·
            have e0 : opVal .rem .i64 a0 40 = 12 := by omega
            exact at_ (rw := [(.bin .rem .i64 (.var 0) (.lit 40), .lit (.ofNat (nat_lit 12)))]) (iv := []) (fun x y hm => by
              simp only [List.mem_cons, List.not_mem_nil, or_false, Prod.mk.injEq] at hm
              rcases hm with ⟨rfl, rfl⟩
              · exact e0
            ) (fun _ _ _ hm => by cases hm) r12 w hgl
          ·
            have e0 : opVal .rem .i64 a0 40 = 13 := by omega
            exact at_ (rw := [(.bin .rem .i64 (.var 0) (.lit 40), .lit (.ofNat (nat_lit 13)))]) (iv := []) (fun x y hm => by
              simp only [List.mem_cons, List.not_mem_nil, or_false, Prod.mk.injEq] at hm
              rcases hm with ⟨rfl, rfl⟩
              · exact e0
            ) (fun _ _ _ hm => by cases hm) r13 w hgl
  ·
    by_cases q2 : opVal .rem .i64 a0 40 < 21
    ·
      by_cases q3 : opVal .rem .i64 a0 40 < 17
      ·
        by_cases q4 : opVal .rem .i64 a0 40 < 15
        ·
          have e0 : opVal .rem .i64 a0 40 = 14 := by omega
          exact at_ (rw := [(.bin .rem .i64 (.var 0) (.lit 40), .lit (.ofNat (nat_lit 14)))]) (iv := []) (fun x y hm => by
            simp only [List.mem_cons, List.not_mem_nil, or_false, Prod.mk.injEq] at hm
            rcases hm with ⟨rfl, rfl⟩
            · exact e0
          ) (fun _ _ _ hm => by cases hm) r14 w hgl
        ·
          by_cases q5 : opVal .rem .i64 a0 40 < 16
          ·
            have e0 : opVal .rem .i64 a0 40 = 15 := by omega
            exact at_ (rw := [(.bin .rem .i64 (.var 0) (.lit 40), .lit (.ofNat (nat_lit 15)))]) (iv := []) (fun x y hm => by
              simp only [List.mem_cons, List.not_mem_nil, or_false, Prod.mk.injEq] at hm
              rcases hm with ⟨rfl, rfl⟩
              · exact e0
            ) (fun _ _ _ hm => by cases hm) r15 w hgl
          ·
            have e0 : opVal .rem .i64 a0 40 = 16 := by omega
            exact at_ (rw := [(.bin .rem .i64 (.var 0) (.lit 40), .lit (.ofNat (nat_lit 16)))]) (iv := []) (fun x y hm => by
              simp only [List.mem_cons, List.not_mem_nil, or_false, Prod.mk.injEq] at hm
              rcases hm with ⟨rfl, rfl⟩
              · exact e0
            ) (fun _ _ _ hm => by cases hm) r16 w hgl
      ·
        by_cases q4 : opVal .rem .i64 a0 40 < 19
        ·
          by_cases q5 : opVal .rem .i64 a0 40 < 18
          ·
            have e0 : opVal .rem .i64 a0 40 = 17 := by omega
            exact at_ (rw := [(.bin .rem .i64 (.var 0) (.lit 40), .lit (.ofNat (nat_lit 17)))]) (iv := []) (fun x y hm => by
              simp only [List.mem_cons, List.not_mem_nil, or_false, Prod.mk.injEq] at hm
              rcases hm with ⟨rfl, rfl⟩
              · exact e0
            ) (fun _ _ _ hm => by cases hm) r17 w hgl
          ·
            have e0 : opVal .rem .i64 a0 40 = 18 := by omega
            exact at_ (rw := [(.bin .rem .i64 (.var 0) (.lit 40), .lit (.ofNat (nat_lit 18)))]) (iv := []) (fun x y hm => by
              simp only [List.mem_cons, List.not_mem_nil, or_false, Prod.mk.injEq] at hm
              rcases hm with ⟨rfl, rfl⟩
              · exact e0
            ) (fun _ _ _ hm => by cases hm) r18 w hgl
        ·
          by_cases q5 : opVal .rem .i64 a0 40 < 20
          ·
            have e0 : opVal .rem .i64 a0 40 = 19 := by omega
            exact at_ (rw := [(.bin .rem .i64 (.var 0) (.lit 40), .lit (.ofNat (nat_lit 19)))]) (iv := []) (fun x y hm => by
              simp only [List.mem_cons, List.not_mem_nil, or_false, Prod.mk.injEq] at hm
              rcases hm with ⟨rfl, rfl⟩
              · exact e0
            ) (fun _ _ _ hm => by cases hm) r19 w hgl
          ·
            have e0 : opVal .rem .i64 a0 40 = 20 := by omega
            exact at_ (rw := [(.bin .rem .i64 (.var 0) (.lit 40), .lit (.ofNat (nat_lit 20)))]) (iv := []) (fun x y hm => by
              simp only [List.mem_cons, List.not_mem_nil, or_false, Prod.mk.injEq] at hm
              rcases hm with ⟨rfl, rfl⟩
              · exact e0
            ) (fun _ _ _ hm => by cases hm) r20 w hgl
    ·
      by_cases q3 : opVal .rem .i64 a0 40 < 25
      ·
        by_cases q4 : opVal .rem .i64 a0 40 < 23
        ·
          by_cases q5 : opVal .rem .i64 a0 40 < 22
          ·
            have e0 : opVal .rem .i64 a0 40 = 21 := by omega
            exact at_ (rw := [(.bin .rem .i64 (.var 0) (.lit 40), .lit (.ofNat (nat_lit 21)))]) (iv := []) (fun x y hm => by
              simp only [List.mem_cons, List.not_mem_nil, or_false, Prod.mk.injEq] at hm
              rcases hm with ⟨rfl, rfl⟩
              · exact e0
            ) (fun _ _ _ hm => by cases hm) r21 w hgl
          ·
            have e0 : opVal .rem .i64 a0 40 = 22 := by omega
            exact at_ (rw := [(.bin .rem .i64 (.var 0) (.lit 40), .lit (.ofNat (nat_lit 22)))]) (iv := []) (fun x y hm => by
              simp only [List.mem_cons, List.not_mem_nil, or_false, Prod.mk.injEq] at hm
              rcases hm with ⟨rfl, rfl⟩
              · exact e0
            ) (fun _ _ _ hm => by cases hm) r22 w hgl
        ·
          by_cases q5 : opVal .rem .i64 a0 40 < 24
          ·
            have e0 : opVal .rem .i64 a0 40 = 23 := by omega
            exact at_ (rw := [(.bin .rem .i64 (.var 0) (.lit 40), .lit (.ofNat (nat_lit 23)))]) (iv := []) (fun x y hm => by
              simp only [List.mem_cons, List.not_mem_nil, or_false, Prod.mk.injEq] at hm
              rcases hm with ⟨rfl, rfl⟩
              · exact e0
            ) (fun _ _ _ hm => by cases hm) r23 w hgl
          ·
            have e0 : opVal .rem .i64 a0 40 = 24 := by omega
            exact at_ (rw := [(.bin .rem .i64 (.var 0) (.lit 40), .lit (.ofNat (nat_lit 24)))]) (iv := []) (fun x y hm => by
              simp only [List.mem_cons, List.not_mem_nil, or_false, Prod.mk.injEq] at hm
              rcases hm with ⟨rfl, rfl⟩
              · exact e0
            ) (fun _ _ _ hm => by cases hm) r24 w hgl
      ·
        by_cases q4 : opVal .rem .i64 a0 40 < 27
        ·
          by_cases q5 : opVal .rem .i64 a0 40 < 26
          ·
            have e0 : opVal .rem .i64 a0 40 = 25 := by omega
            exact at_ (rw := [(.bin .rem .i64 (.var 0) (.lit 40), .lit (.ofNat (nat_lit 25)))]) (iv := []) (fun x y hm => by
              simp only [List.mem_cons, List.not_mem_nil, or_false, Prod.mk.injEq] at hm
              rcases hm with ⟨rfl, rfl⟩
              · exact e0
            ) (fun _ _ _ hm => by cases hm) r25 w hgl
          ·
            have e0 : opVal .rem .i64 a0 40 = 26 := by omega
            exact at_ (rw := [(.bin .rem .i64 (.var 0) (.lit 40), .lit (.ofNat (nat_lit 26)))]) (iv := []) (fun x y hm => by
              simp only [List.mem_cons, List.not_mem_nil, or_false, Prod.mk.injEq] at hm
              rcases hm with ⟨rfl, rfl⟩
              · exact e0
            ) (fun _ _ _ hm => by cases hm) r26 w hgl
        ·
          by_cases q5 : opVal .rem .i64 a0 40 < 28
          ·
            have e0 : opVal .rem .i64 a0 40 = 27 := by omega
            exact at_ (rw := [(.bin .rem .i64 (.var 0) (.lit 40), .lit (.ofNat (nat_lit 27)))]) (iv := []) (fun x y hm => by
              simp only [List.mem_cons, List.not_mem_nil, or_false, Prod.mk.injEq] at hm
              rcases hm with ⟨rfl, rfl⟩
              · exact e0
            ) (fun _ _ _ hm => by cases hm) r27 w hgl
          ·
            have e0 : 28 ≤ opVal .rem .i64 a0 40 ∧ opVal .rem .i64 a0 40 ≤ 39 := by omega
            exact at_ (rw := []) (iv := [(.bin .rem .i64 (.var 0) (.lit 40), (.ofNat (nat_lit 28)), (.ofNat (nat_lit 39)))]) (fun _ _ hm => by cases hm) (fun x y z hm => by
              simp only [List.mem_cons, List.not_mem_nil, or_false, Prod.mk.injEq] at hm
              rcases hm with ⟨rfl, rfl, rfl⟩
              · exact e0
            ) r28to39 w hgl

/-! ### THE ROW's STEP: WRITTEN OUT: LEAVE IT -/
set_option maxRecDepth 100000 in
theorem lifted (os : Os) (started : os.Started) (H : Type) (enc : TypeId × Value → H) :
    ReturnsInHanded {} Tryd.checked os 5 .any (fun w args => (Rows.typesNullSpec.pre enc Tryd.prog Tryd.f5 Rows.typesNullRow.domain false w args ∧ laidMet Tryd.prog Rows.typesNullRow.laid w) ∧ sizedMet enc Tryd.prog Tryd.f5 (OpenSpec.ofChange Rows.typesNullSpec) false w args) (Rows.typesNullSpec.post enc Tryd.prog Tryd.f5 false true false false) := by
  refine returnsInHanded_of_change_and (C := Tryd.checked) (X := fun w _ => laidMet Tryd.prog Rows.typesNullRow.laid w) (fun _ _ _ hh h => h.of_heap hh) own started (by kernel_rfl) Tryd.func5
    (ChangeSpec.witness_shaped (enc := enc) (C := Tryd.checked) (os := os) (X := fun w _ => laidMet Tryd.prog Rows.typesNullRow.laid w) false (laidWorld os #[.int .i64 0]) #[.int .i64 0] 8 rfl (World.shaped_of_RefB (by kernel_rfl) (by kernel_rfl)) (by kernel_rfl) (by kernel_rfl) (by kernel_rfl) (laid_met_typesNull os _ _)) ?_
  intro W base args ds gs before hval0 hW hcnd _ hL _
  have hval : ∀ (j : Nat) t v, Tryd.f5.params[j]? = some t → args[j]? = some v → Value.okWide Tryd.prog W .any base t v := hval0
  have hW' := hW
  obtain ⟨p, q, hA0, hV, rfl, hfz, hnd⟩ := hW
  have hA : DataW.TrodAll enc Tryd.prog W 0 (fun _ => true) true Tryd.f5.params.toList args.toList ds p := hA0
  rw [Tryd.params5] at hA hval
  obtain ⟨v0, vs0, d0, ds0, p0, q0, hargs, rfl, rfl, h0, r0⟩ := trodAll_cons hA
  obtain ⟨rfl, rfl, rfl⟩ := trodAll_nil r0
  obtain rfl : args = #[v0] := by cases args; simp_all
  obtain ⟨rfl, rfl⟩ := trodVars_none hV
  obtain ⟨a0, rfl, rfl, rfl, w0⟩ := open_int Tryd.underlying3 (hval 0 3 v0 rfl rfl) h0
  clear hA0 hval0
  simp only [List.append_nil] at hW'
  refine (walk a0 w0 W).mono fun e W' ⟨he, hg⟩ => ?_
  subst he
  exact ⟨_, rfl, post_of_below (pa := []) (pv := []) hW' (fun _ _ _ => (trodAll_cons_mk (shut_bool Tryd.underlying4 _) trodAll_mk0)) (fun sp _ => (trodAll_cons_mk (shut_int Tryd.underlying3 w0) trodAll_mk0)) (fun _ _ => rfl) rfl
    hg (ok_one (by kernel_rfl) rfl (okWide_bool_mk Tryd.underlying4 _))⟩

set_option maxHeartbeats 8000000 in
theorem joined : joinedFacts Tryd.pinned.checked.prog 5 Tryd.f5 Rows.typesNullSpec Rows.typesNullRow = true := by
  unfold joinedFacts
  simp only [Bool.and_eq_true]
  exact ⟨⟨⟨⟨⟨⟨⟨⟨⟨⟨⟨⟨⟨⟨⟨⟨⟨⟨⟨⟨⟨⟨⟨⟨⟨⟨⟨⟨⟨⟨⟨(by as_aux_lemma => kernel_rfl), (by as_aux_lemma => kernel_rfl)⟩, (by as_aux_lemma => kernel_rfl)⟩, (by as_aux_lemma => kernel_rfl)⟩, (by as_aux_lemma => kernel_rfl)⟩, (by as_aux_lemma => kernel_rfl)⟩, (by as_aux_lemma => kernel_rfl)⟩, (by as_aux_lemma => kernel_rfl)⟩, (by as_aux_lemma => kernel_rfl)⟩, (by as_aux_lemma => kernel_rfl)⟩, (by as_aux_lemma => kernel_rfl)⟩, (by as_aux_lemma => kernel_rfl)⟩, (by as_aux_lemma => kernel_rfl)⟩, (by as_aux_lemma => kernel_rfl)⟩, (by as_aux_lemma => kernel_rfl)⟩, (by as_aux_lemma => kernel_rfl)⟩, (by as_aux_lemma => kernel_rfl)⟩, (by as_aux_lemma => kernel_rfl)⟩, (by as_aux_lemma => kernel_rfl)⟩, (by as_aux_lemma => kernel_rfl)⟩, (by as_aux_lemma => kernel_rfl)⟩, (by as_aux_lemma => kernel_rfl)⟩, (by as_aux_lemma => kernel_rfl)⟩, (by as_aux_lemma => kernel_rfl)⟩, (by as_aux_lemma => kernel_rfl)⟩, (by as_aux_lemma => kernel_rfl)⟩, (by as_aux_lemma => kernel_rfl)⟩, (by as_aux_lemma => kernel_rfl)⟩, (by as_aux_lemma => kernel_rfl)⟩, (by as_aux_lemma => kernel_rfl)⟩, (by as_aux_lemma => kernel_rfl)⟩, (by as_aux_lemma => kernel_rfl)⟩

theorem over : Rows.typesNullRow.holds Tryd.pinned (OpenSpec.ofChange Rows.typesNullSpec) :=
  OpenClaim.holds_of_wide 5 Tryd.f5 rfl rfl rfl rfl rfl rfl rfl ⟨rfl, rfl, rfl, rfl, rfl⟩ rfl rfl rfl rfl rfl (by kernel_rfl) Tryd.func5 joined
    (of_decide_eq_true (by kernel_rfl)) (by unfold Func.isWrapper; first | (rw [if_pos (by decide +kernel)]; kernel_rfl) | (rw [if_neg (by decide +kernel)]; exact ⟨rfl, rfl⟩))
    (fun os started H enc _ => lifted os started H enc)

/-- ████ THE STATEMENT ████ -/
theorem proved : Rows.TypesNullCardSaid :=
  Claim7.holds_tied_plain_at .later [] [.data, .data, .data] true (true, "98aa8f3ff44044fe2b47393efc5a25745b385eb234be1c1156c4667cb04947ae") false
    over (fun _ h => by cases h) (by kernel_rfl) (fun _ h => by cases h) typesNull_row_tie rfl ⟨rfl, rfl⟩ (by kernel_rfl) rfl
    (fun f fn hf hfn => by
      obtain rfl : f = 5 := Option.some.inj ((show Tryd.prog.funcNamed "gneiss/gneisslaw17.TypesNull" = some 5 by kernel_rfl).symm.trans hf) |>.symm
      obtain rfl : fn = Tryd.f5 := (Option.some.inj (Tryd.func5.symm.trans hfn)).symm
      exact ⟨by kernel_rfl, fun j t ht => by
        rw [Tryd.params5] at ht
        have hm : t ∈ (Tryd.f5.params : Array TypeId).toList := by
          rw [Tryd.params5]
          exact Array.mem_toList_iff.2 (Array.mem_of_getElem? ht)
        have hall : (Tryd.f5.params.toList.all fun t => !(Tryd.prog.wantsStandIn t)) = true := by kernel_rfl
        have := List.all_eq_true.1 hall t hm
        have h2 : Tryd.prog.wantsStandIn t = false := by simpa using this
        exact h2⟩)
    (by kernel_rfl)
#print axioms proved
end Go.Proofs.YtnldipiahcalhaaDoor.typesNull
