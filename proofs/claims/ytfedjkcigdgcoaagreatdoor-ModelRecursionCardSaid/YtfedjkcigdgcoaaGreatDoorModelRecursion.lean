/- gneiss/gneisslaw21.ModelRecursion answers true at every input, and leaves its arguments as they were. No conditions. -/
import Derived.Test.YtfedjkcigdgcoaaGreatDoorRows
import Derived.WalkKit
import Derived.ProofKit
import Derived.OpenShut
import Derived.Below
import Derived.ChangeSame
import Derived.Test.YtfedjkcigdgcoaaGreatDoorModelRecursionR0
import Derived.Test.YtfedjkcigdgcoaaGreatDoorModelRecursionR1
import Derived.Test.YtfedjkcigdgcoaaGreatDoorModelRecursionR2
import Derived.Test.YtfedjkcigdgcoaaGreatDoorModelRecursionR3
import Derived.Test.YtfedjkcigdgcoaaGreatDoorModelRecursionR4
import Derived.Test.YtfedjkcigdgcoaaGreatDoorModelRecursionR5
import Derived.Test.YtfedjkcigdgcoaaGreatDoorModelRecursionR6
import Derived.Test.YtfedjkcigdgcoaaGreatDoorModelRecursionR7
import Derived.Test.YtfedjkcigdgcoaaGreatDoorModelRecursionR8
import Derived.Test.YtfedjkcigdgcoaaGreatDoorLaid
import Derived.Test.YtfedjkcigdgcoaaGreatDoorTie
import Derived.Test.YtfedjkcigdgcoaaGreatDoorModelRecursionJ
import Derived.Test.YtfedjkcigdgcoaaGreatDoorCards
import Derived.SevenTiedAt
namespace Go.Proofs.YtfedjkcigdgcoaaGreatDoor.modelRecursion
open Go.Ai Go.ChangeShapes Go.WideShapes Go.ChangeAt Go.RowKit
set_option linter.unusedVariables false

theorem own : ownKnob Tryz.prog.godebug = none := by kernel_rfl

section
variable {H : Type} {enc : TypeId × Value → H} {P : Program}
theorem post_of_below {f : Func} {s : ChangeSpec} {apart fresh handsOn again : Bool} {W W' : World} {args : Array Value} {v : Value} {ds gs : List (DataW H)} {before pa pv : List MemPlace}
    (hW : DataW.Whole enc P f.params.toList s.vars apart W args.toList ds gs before)
    (hres : ∀ (b : Nat) (sp : Nat → Bool) (hd : Bool), DataW.TrodAll enc P W' b sp hd f.resultTypes.toList (v.resultList f.resultTypes.size) (s.fn H (ds ++ gs)).results [])
    (hargs : ∀ sp : Nat → Bool, (∀ p ∈ before, sp p.block = true) → DataW.TrodAll enc P W' 0 sp true f.params.toList args.toList (s.fn H (ds ++ gs)).args pa)
    (hvars : ∀ sp : Nat → Bool, (∀ p ∈ before, sp p.block = true) → DataW.TrodVars enc P W' sp s.vars (s.fn H (ds ++ gs)).vars pv)
    (hps : before = pa ++ pv) (hb : Below W.heap.size W W')
    (hok : ∀ (j : Nat) (t : TypeId) (r : Value), f.resultTypes[j]? = some t → (v.resultList f.resultTypes.size)[j]? = some r → Value.okWide P W' .any 0 t r) :
    s.post enc P f apart fresh handsOn again W args v W' := by
  have hlt : ∀ p ∈ before, p.block < W.heap.size := fun p hp => hW.lt p hp
  have hold : ∀ p ∈ before, (fun b => decide (b < W.heap.size)) p.block = true := fun p hp => by simpa using hlt p hp
  refine ⟨ds, gs, before, [], pa, pv, hW, hres _ _ _, hargs _ hold, hvars _ hold, World.keptBut_mono (fun p hp => ⟨hp, ?_⟩) (hb.frame (· ∈ before)), fun _ => ?_⟩
  · rw [hps, List.mem_append] at hp
    exact Or.inr hp
  · obtain ⟨_, _, _, _, _, hz, hn⟩ := hW
    refine ⟨hok, _, _, ([] ++ pa) ++ pv, ⟨[] ++ pa, pv, trodAll_append (hargs _ (fun _ _ => rfl)) (hres _ _ _), hvars _ (fun _ _ => rfl), rfl, ?_, ?_⟩, ?_⟩
    · intro b off hp
      have hin : MemPlace.cell b off ∈ before := by rw [hps]; simpa using hp
      rw [hb.frozen (hlt _ hin)]
      exact hz b off hin
    · intro ha
      have := hn ha
      rw [hps] at this
      simpa using this
    · intro p hp _
      rw [hps]
      simpa using hp
end
/-! ### the walk: by the abstract machine -/
theorem rng0 (a : Int) : 0 ≤ opVal .and .i64 a 31 ∧ opVal .and .i64 a 31 ≤ 31 := by
  have h : (BitVec.ofInt 64 a &&& BitVec.ofInt 64 31).toNat ≤ 31 := by
    rw [BitVec.toNat_and]
    exact Nat.and_le_right
  show 0 ≤ IntKind.wrap .i64 ((BitVec.ofInt 64 a &&& BitVec.ofInt 64 31).toNat : Int) ∧ IntKind.wrap .i64 ((BitVec.ofInt 64 a &&& BitVec.ofInt 64 31).toNat : Int) ≤ 31
  rw [IntKind.wrap_i64]
  omega
theorem at_ {a0 : Int}  {rw : List (SI × SI)} {iv : List (SI × Int × Int)} (hr : ∀ x y, (x, y) ∈ rw → x.ev (fun i => if i = 0 then a0 else 0) = y.ev (fun i => if i = 0 then a0 else 0)) (hi : ∀ x lo hi, (x, lo, hi) ∈ iv → lo ≤ x.ev (fun i => if i = 0 then a0 else 0) ∧ x.ev (fun i => if i = 0 then a0 else 0) ≤ hi) (r : yes (run rw iv) = true) (w : World) (hgl : GlOk gl w) : Calls Tryz.prog 9 #[.int .i64 a0] w fun e w' => e = .returned (.bool true) ∧ Below w.heap.size w w' :=
  haveI : GlOk (⟨rw, [], iv, fun _ _ _ => none, gl⟩ : Cf).gl w := hgl
  soundC comp.mixed comp.TOk (over := (overC 19)) (cf := ⟨rw, [], iv, fun _ _ _ => none, gl⟩) (σ := fun i => if i = 0 then a0 else 0) (xs := [.int .i64 a0]) (fun _ h => overC_ok awakes h)
    ⟨hr, fun _ _ _ _ hm => (by cases hm), hi, fun _ _ _ _ hm => (by cases hm)⟩
    (.cons (.int .i64 (.var 0)) .nil) r
theorem atN {a0 : Int} {k : Int} {q : Nw} (hf : fact k q = true) (hr : ∀ x y, (x, y) ∈ [(ek, SI.lit k)] → x.ev (fun i => if i = 0 then a0 else 0) = y.ev (fun i => if i = 0 then a0 else 0)) (r : yes (runN k q) = true) (w : World) (hgl : GlOk gl w) : Calls Tryz.prog 9 #[.int .i64 a0] w fun e w' => e = .returned (.bool true) ∧ Below w.heap.size w w' := by
  haveI : GlOk gl w := hgl
  haveI : GlOk (cfR k).gl w := hgl
  exact soundC comp.mixed comp.TOk (over := fun c => overC 19 (overN (cfR k) q c)) (cf := cfR k) (σ := fun i => if i = 0 then a0 else 0) (xs := [.int .i64 a0]) (fun _ h => aw_ok rfl (overN_ok (nwOk hf w) (fun _ h => h) h))
    ⟨hr, fun _ _ _ _ hm => (by cases hm), fun _ _ _ hm => (by cases hm), fun _ _ _ _ hm => (by cases hm)⟩
    (.cons (.int .i64 (.var 0)) .nil) r
theorem walk (a0 : Int) (w0 : (Lit.int .i64 a0).wf = true) (w : World) (hgl : GlOk gl w) :
    Calls Tryz.prog 9 #[.int .i64 a0] w fun e w' => e = .returned (.bool true) ∧ Below w.heap.size w w' := by
  have g0 := rng0 a0
  by_cases q1 : opVal .and .i64 a0 31 < 16
  ·
    by_cases q2 : opVal .and .i64 a0 31 < 8
    ·
      by_cases q3 : opVal .and .i64 a0 31 < 4
      ·
        by_cases q4 : opVal .and .i64 a0 31 < 2
        ·
          by_cases q5 : opVal .and .i64 a0 31 < 1
          ·
            have e0 : opVal .and .i64 a0 31 = 0 := by omega
            exact at_ (rw := [(.bin .and .i64 (.var 0) (.lit 31), .lit (.ofNat (nat_lit 0)))]) (iv := []) (fun x y hm => by
              simp only [List.mem_cons, List.not_mem_nil, or_false, Prod.mk.injEq] at hm
              rcases hm with ⟨rfl, rfl⟩
              · exact e0
            ) (fun _ _ _ hm => by cases hm) r0 w hgl
          ·
            have e0 : opVal .and .i64 a0 31 = 1 := by omega
            exact at_ (rw := [(.bin .and .i64 (.var 0) (.lit 31), .lit (.ofNat (nat_lit 1)))]) (iv := []) (fun x y hm => by
              simp only [List.mem_cons, List.not_mem_nil, or_false, Prod.mk.injEq] at hm
              rcases hm with ⟨rfl, rfl⟩
              · exact e0
            ) (fun _ _ _ hm => by cases hm) r1 w hgl
        ·
          by_cases q5 : opVal .and .i64 a0 31 < 3
          ·
            have e0 : opVal .and .i64 a0 31 = 2 := by omega
            exact at_ (rw := [(.bin .and .i64 (.var 0) (.lit 31), .lit (.ofNat (nat_lit 2)))]) (iv := []) (fun x y hm => by
              simp only [List.mem_cons, List.not_mem_nil, or_false, Prod.mk.injEq] at hm
              rcases hm with ⟨rfl, rfl⟩
              · exact e0
            ) (fun _ _ _ hm => by cases hm) r2 w hgl
          ·
            have e0 : opVal .and .i64 a0 31 = 3 := by omega
            exact at_ (rw := [(.bin .and .i64 (.var 0) (.lit 31), .lit (.ofNat (nat_lit 3)))]) (iv := []) (fun x y hm => by
              simp only [List.mem_cons, List.not_mem_nil, or_false, Prod.mk.injEq] at hm
              rcases hm with ⟨rfl, rfl⟩
              · exact e0
            ) (fun _ _ _ hm => by cases hm) r3 w hgl
      ·
        by_cases q4 : opVal .and .i64 a0 31 < 6
        ·
          by_cases q5 : opVal .and .i64 a0 31 < 5
          ·
            have e0 : opVal .and .i64 a0 31 = 4 := by omega
            exact at_ (rw := [(.bin .and .i64 (.var 0) (.lit 31), .lit (.ofNat (nat_lit 4)))]) (iv := []) (fun x y hm => by
              simp only [List.mem_cons, List.not_mem_nil, or_false, Prod.mk.injEq] at hm
              rcases hm with ⟨rfl, rfl⟩
              · exact e0
            ) (fun _ _ _ hm => by cases hm) r4 w hgl
          ·
            have e0 : opVal .and .i64 a0 31 = 5 := by omega
            exact at_ (rw := [(.bin .and .i64 (.var 0) (.lit 31), .lit (.ofNat (nat_lit 5)))]) (iv := []) (fun x y hm => by
              simp only [List.mem_cons, List.not_mem_nil, or_false, Prod.mk.injEq] at hm
              rcases hm with ⟨rfl, rfl⟩
              · exact e0
            ) (fun _ _ _ hm => by cases hm) r5 w hgl
        ·
          by_cases q5 : opVal .and .i64 a0 31 < 7
          ·
            have e0 : opVal .and .i64 a0 31 = 6 := by omega
            exact at_ (rw := [(.bin .and .i64 (.var 0) (.lit 31), .lit (.ofNat (nat_lit 6)))]) (iv := []) (fun x y hm => by
              simp only [List.mem_cons, List.not_mem_nil, or_false, Prod.mk.injEq] at hm
              rcases hm with ⟨rfl, rfl⟩
              · exact e0
            ) (fun _ _ _ hm => by cases hm) r6 w hgl
          ·
            have e0 : opVal .and .i64 a0 31 = 7 := by omega
            exact at_ (rw := [(.bin .and .i64 (.var 0) (.lit 31), .lit (.ofNat (nat_lit 7)))]) (iv := []) (fun x y hm => by
              simp only [List.mem_cons, List.not_mem_nil, or_false, Prod.mk.injEq] at hm
              rcases hm with ⟨rfl, rfl⟩
              · exact e0
            ) (fun _ _ _ hm => by cases hm) r7 w hgl
    ·
      by_cases q3 : opVal .and .i64 a0 31 < 12
      ·
        by_cases q4 : opVal .and .i64 a0 31 < 10
        ·
          by_cases q5 : opVal .and .i64 a0 31 < 9
          ·
            have e0 : opVal .and .i64 a0 31 = 8 := by omega
            exact at_ (rw := [(.bin .and .i64 (.var 0) (.lit 31), .lit (.ofNat (nat_lit 8)))]) (iv := []) (fun x y hm => by
              simp only [List.mem_cons, List.not_mem_nil, or_false, Prod.mk.injEq] at hm
              rcases hm with ⟨rfl, rfl⟩
              · exact e0
            ) (fun _ _ _ hm => by cases hm) r8 w hgl
          ·
            have e0 : opVal .and .i64 a0 31 = 9 := by omega
            exact at_ (rw := [(.bin .and .i64 (.var 0) (.lit 31), .lit (.ofNat (nat_lit 9)))]) (iv := []) (fun x y hm => by
              simp only [List.mem_cons, List.not_mem_nil, or_false, Prod.mk.injEq] at hm
              rcases hm with ⟨rfl, rfl⟩
              · exact e0
            ) (fun _ _ _ hm => by cases hm) r9 w hgl
        ·
          by_cases q5 : opVal .and .i64 a0 31 < 11
          ·
            have e0 : opVal .and .i64 a0 31 = 10 := by omega
            exact at_ (rw := [(.bin .and .i64 (.var 0) (.lit 31), .lit (.ofNat (nat_lit 10)))]) (iv := []) (fun x y hm => by
              simp only [List.mem_cons, List.not_mem_nil, or_false, Prod.mk.injEq] at hm
              rcases hm with ⟨rfl, rfl⟩
              · exact e0
            ) (fun _ _ _ hm => by cases hm) r10 w hgl
          ·
            have e0 : opVal .and .i64 a0 31 = 11 := by omega
            exact at_ (rw := [(.bin .and .i64 (.var 0) (.lit 31), .lit (.ofNat (nat_lit 11)))]) (iv := []) (fun x y hm => by
              simp only [List.mem_cons, List.not_mem_nil, or_false, Prod.mk.injEq] at hm
              rcases hm with ⟨rfl, rfl⟩
              · exact e0
            ) (fun _ _ _ hm => by cases hm) r11 w hgl
      ·
        by_cases q4 : opVal .and .i64 a0 31 < 14
        ·
          by_cases q5 : opVal .and .i64 a0 31 < 13
          ·
            have e0 : opVal .and .i64 a0 31 = 12 := by omega
            exact at_ (rw := [(.bin .and .i64 (.var 0) (.lit 31), .lit (.ofNat (nat_lit 12)))]) (iv := []) (fun x y hm => by
              simp only [List.mem_cons, List.not_mem_nil, or_false, Prod.mk.injEq] at hm
              rcases hm with ⟨rfl, rfl⟩
              · exact e0
            ) (fun _ _ _ hm => by cases hm) r12 w hgl
          ·
            have e0 : opVal .and .i64 a0 31 = 13 := by omega
            exact at_ (rw := [(.bin .and .i64 (.var 0) (.lit 31), .lit (.ofNat (nat_lit 13)))]) (iv := []) (fun x y hm => by
              simp only [List.mem_cons, List.not_mem_nil, or_false, Prod.mk.injEq] at hm
              rcases hm with ⟨rfl, rfl⟩
              · exact e0
            ) (fun _ _ _ hm => by cases hm) r13 w hgl
        ·
          by_cases q5 : opVal .and .i64 a0 31 < 15
          ·
            have e0 : opVal .and .i64 a0 31 = 14 := by omega
            exact at_ (rw := [(.bin .and .i64 (.var 0) (.lit 31), .lit (.ofNat (nat_lit 14)))]) (iv := []) (fun x y hm => by
              simp only [List.mem_cons, List.not_mem_nil, or_false, Prod.mk.injEq] at hm
              rcases hm with ⟨rfl, rfl⟩
              · exact e0
            ) (fun _ _ _ hm => by cases hm) r14 w hgl
          ·
            have e0 : opVal .and .i64 a0 31 = 15 := by omega
            exact at_ (rw := [(.bin .and .i64 (.var 0) (.lit 31), .lit (.ofNat (nat_lit 15)))]) (iv := []) (fun x y hm => by
              simp only [List.mem_cons, List.not_mem_nil, or_false, Prod.mk.injEq] at hm
              rcases hm with ⟨rfl, rfl⟩
              · exact e0
            ) (fun _ _ _ hm => by cases hm) r15 w hgl
  ·
    by_cases q2 : opVal .and .i64 a0 31 < 24
    ·
      by_cases q3 : opVal .and .i64 a0 31 < 20
      ·
        by_cases q4 : opVal .and .i64 a0 31 < 18
        ·
          by_cases q5 : opVal .and .i64 a0 31 < 17
          ·
            have e0 : opVal .and .i64 a0 31 = 16 := by omega
            exact at_ (rw := [(.bin .and .i64 (.var 0) (.lit 31), .lit (.ofNat (nat_lit 16)))]) (iv := []) (fun x y hm => by
              simp only [List.mem_cons, List.not_mem_nil, or_false, Prod.mk.injEq] at hm
              rcases hm with ⟨rfl, rfl⟩
              · exact e0
            ) (fun _ _ _ hm => by cases hm) r16 w hgl
          ·
            have e0 : opVal .and .i64 a0 31 = 17 := by omega
            exact at_ (rw := [(.bin .and .i64 (.var 0) (.lit 31), .lit (.ofNat (nat_lit 17)))]) (iv := []) (fun x y hm => by
              simp only [List.mem_cons, List.not_mem_nil, or_false, Prod.mk.injEq] at hm
              rcases hm with ⟨rfl, rfl⟩
              · exact e0
            ) (fun _ _ _ hm => by cases hm) r17 w hgl
        ·
          by_cases q5 : opVal .and .i64 a0 31 < 19
          ·
            have e0 : opVal .and .i64 a0 31 = 18 := by omega
            exact at_ (rw := [(.bin .and .i64 (.var 0) (.lit 31), .lit (.ofNat (nat_lit 18)))]) (iv := []) (fun x y hm => by
              simp only [List.mem_cons, List.not_mem_nil, or_false, Prod.mk.injEq] at hm
              rcases hm with ⟨rfl, rfl⟩
              · exact e0
            ) (fun _ _ _ hm => by cases hm) r18 w hgl
          ·
            have e0 : opVal .and .i64 a0 31 = 19 := by omega
            exact at_ (rw := [(.bin .and .i64 (.var 0) (.lit 31), .lit (.ofNat (nat_lit 19)))]) (iv := []) (fun x y hm => by
              simp only [List.mem_cons, List.not_mem_nil, or_false, Prod.mk.injEq] at hm
              rcases hm with ⟨rfl, rfl⟩
              · exact e0
            ) (fun _ _ _ hm => by cases hm) r19 w hgl
      ·
        by_cases q4 : opVal .and .i64 a0 31 < 22
        ·
          by_cases q5 : opVal .and .i64 a0 31 < 21
          ·
            have e0 : opVal .and .i64 a0 31 = 20 := by omega
            exact atN f20 (fun x y hm => by
              simp only [List.mem_cons, List.not_mem_nil, or_false, Prod.mk.injEq] at hm
              rcases hm with ⟨rfl, rfl⟩
              · exact e0
            ) r20 w hgl
          ·
            have e0 : opVal .and .i64 a0 31 = 21 := by omega
            exact atN f21 (fun x y hm => by
              simp only [List.mem_cons, List.not_mem_nil, or_false, Prod.mk.injEq] at hm
              rcases hm with ⟨rfl, rfl⟩
              · exact e0
            ) r21 w hgl
        ·
          by_cases q5 : opVal .and .i64 a0 31 < 23
          ·
            have e0 : opVal .and .i64 a0 31 = 22 := by omega
            exact atN f22 (fun x y hm => by
              simp only [List.mem_cons, List.not_mem_nil, or_false, Prod.mk.injEq] at hm
              rcases hm with ⟨rfl, rfl⟩
              · exact e0
            ) r22 w hgl
          ·
            have e0 : opVal .and .i64 a0 31 = 23 := by omega
            exact at_ (rw := [(.bin .and .i64 (.var 0) (.lit 31), .lit (.ofNat (nat_lit 23)))]) (iv := []) (fun x y hm => by
              simp only [List.mem_cons, List.not_mem_nil, or_false, Prod.mk.injEq] at hm
              rcases hm with ⟨rfl, rfl⟩
              · exact e0
            ) (fun _ _ _ hm => by cases hm) r23 w hgl
    ·
      by_cases q3 : opVal .and .i64 a0 31 < 28
      ·
        by_cases q4 : opVal .and .i64 a0 31 < 26
        ·
          by_cases q5 : opVal .and .i64 a0 31 < 25
          ·
            have e0 : opVal .and .i64 a0 31 = 24 := by omega
            exact at_ (rw := [(.bin .and .i64 (.var 0) (.lit 31), .lit (.ofNat (nat_lit 24)))]) (iv := []) (fun x y hm => by
              simp only [List.mem_cons, List.not_mem_nil, or_false, Prod.mk.injEq] at hm
              rcases hm with ⟨rfl, rfl⟩
              · exact e0
            ) (fun _ _ _ hm => by cases hm) r24 w hgl
          ·
            have e0 : opVal .and .i64 a0 31 = 25 := by omega
            exact at_ (rw := [(.bin .and .i64 (.var 0) (.lit 31), .lit (.ofNat (nat_lit 25)))]) (iv := []) (fun x y hm => by
              simp only [List.mem_cons, List.not_mem_nil, or_false, Prod.mk.injEq] at hm
              rcases hm with ⟨rfl, rfl⟩
              · exact e0
            ) (fun _ _ _ hm => by cases hm) r25 w hgl
        ·
          by_cases q5 : opVal .and .i64 a0 31 < 27
          ·
            have e0 : opVal .and .i64 a0 31 = 26 := by omega
            exact at_ (rw := [(.bin .and .i64 (.var 0) (.lit 31), .lit (.ofNat (nat_lit 26)))]) (iv := []) (fun x y hm => by
              simp only [List.mem_cons, List.not_mem_nil, or_false, Prod.mk.injEq] at hm
              rcases hm with ⟨rfl, rfl⟩
              · exact e0
            ) (fun _ _ _ hm => by cases hm) r26 w hgl
          ·
            have e0 : opVal .and .i64 a0 31 = 27 := by omega
            exact at_ (rw := [(.bin .and .i64 (.var 0) (.lit 31), .lit (.ofNat (nat_lit 27)))]) (iv := []) (fun x y hm => by
              simp only [List.mem_cons, List.not_mem_nil, or_false, Prod.mk.injEq] at hm
              rcases hm with ⟨rfl, rfl⟩
              · exact e0
            ) (fun _ _ _ hm => by cases hm) r27 w hgl
      ·
        by_cases q4 : opVal .and .i64 a0 31 < 30
        ·
          by_cases q5 : opVal .and .i64 a0 31 < 29
          ·
            have e0 : opVal .and .i64 a0 31 = 28 := by omega
            exact at_ (rw := [(.bin .and .i64 (.var 0) (.lit 31), .lit (.ofNat (nat_lit 28)))]) (iv := []) (fun x y hm => by
              simp only [List.mem_cons, List.not_mem_nil, or_false, Prod.mk.injEq] at hm
              rcases hm with ⟨rfl, rfl⟩
              · exact e0
            ) (fun _ _ _ hm => by cases hm) r28 w hgl
          ·
            have e0 : opVal .and .i64 a0 31 = 29 := by omega
            exact at_ (rw := [(.bin .and .i64 (.var 0) (.lit 31), .lit (.ofNat (nat_lit 29)))]) (iv := []) (fun x y hm => by
              simp only [List.mem_cons, List.not_mem_nil, or_false, Prod.mk.injEq] at hm
              rcases hm with ⟨rfl, rfl⟩
              · exact e0
            ) (fun _ _ _ hm => by cases hm) r29 w hgl
        ·
          by_cases q5 : opVal .and .i64 a0 31 < 31
          ·
            have e0 : opVal .and .i64 a0 31 = 30 := by omega
            exact at_ (rw := [(.bin .and .i64 (.var 0) (.lit 31), .lit (.ofNat (nat_lit 30)))]) (iv := []) (fun x y hm => by
              simp only [List.mem_cons, List.not_mem_nil, or_false, Prod.mk.injEq] at hm
              rcases hm with ⟨rfl, rfl⟩
              · exact e0
            ) (fun _ _ _ hm => by cases hm) r30 w hgl
          ·
            have e0 : opVal .and .i64 a0 31 = 31 := by omega
            exact at_ (rw := [(.bin .and .i64 (.var 0) (.lit 31), .lit (.ofNat (nat_lit 31)))]) (iv := []) (fun x y hm => by
              simp only [List.mem_cons, List.not_mem_nil, or_false, Prod.mk.injEq] at hm
              rcases hm with ⟨rfl, rfl⟩
              · exact e0
            ) (fun _ _ _ hm => by cases hm) r31 w hgl

/-! ### THE ROW's STEP: WRITTEN OUT: LEAVE IT -/
set_option maxRecDepth 100000 in
theorem lifted (os : Os) (started : os.Started) (H : Type) (enc : TypeId × Value → H) :
    ReturnsInHanded {} Tryz.checked os 9 .any (fun w args => (Rows.modelRecursionSpec.pre enc Tryz.prog Tryz.f9 Rows.modelRecursionRow.domain false w args ∧ laidMet Tryz.prog Rows.modelRecursionRow.laid w) ∧ sizedMet enc Tryz.prog Tryz.f9 (OpenSpec.ofChange Rows.modelRecursionSpec) false w args) (Rows.modelRecursionSpec.post enc Tryz.prog Tryz.f9 false true false false) := by
  refine returnsInHanded_of_change_and (C := Tryz.checked) (X := fun w _ => laidMet Tryz.prog Rows.modelRecursionRow.laid w) (fun _ _ _ hh h => h.of_heap hh) own started (by kernel_rfl) Tryz.func9
    (ChangeSpec.witness_shaped (enc := enc) (C := Tryz.checked) (os := os) (X := fun w _ => laidMet Tryz.prog Rows.modelRecursionRow.laid w) false (laidWorld os #[.int .i64 0]) #[.int .i64 0] 8 rfl (World.shaped_of_RefB (by kernel_rfl) (by kernel_rfl)) (by kernel_rfl) (by kernel_rfl) (by kernel_rfl) (laid_met_modelRecursion os _ _)) ?_
  intro W base args ds gs before hval0 hW hcnd _ hL _
  have hval : ∀ (j : Nat) t v, Tryz.f9.params[j]? = some t → args[j]? = some v → Value.okWide Tryz.prog W .any base t v := hval0
  have hW' := hW
  obtain ⟨p, q, hA0, hV, rfl, hfz, hnd⟩ := hW
  have hA : DataW.TrodAll enc Tryz.prog W 0 (fun _ => true) true Tryz.f9.params.toList args.toList ds p := hA0
  rw [Tryz.params9] at hA hval
  obtain ⟨v0, vs0, d0, ds0, p0, q0, hargs, rfl, rfl, h0, r0⟩ := trodAll_cons hA
  obtain ⟨rfl, rfl, rfl⟩ := trodAll_nil r0
  obtain rfl : args = #[v0] := by cases args; simp_all
  obtain ⟨rfl, rfl⟩ := trodVars_none hV
  obtain ⟨a0, rfl, rfl, rfl, w0⟩ := open_int Tryz.underlying3 (hval 0 3 v0 rfl rfl) h0
  clear hA0 hval0
  simp only [List.append_nil] at hW'
  refine (walk a0 w0 W (gl_of_laid_modelRecursion hL)).mono fun e W' ⟨he, hg⟩ => ?_
  subst he
  exact ⟨_, rfl, post_of_below (pa := []) (pv := []) hW' (fun _ _ _ => (trodAll_cons_mk (shut_bool Tryz.underlying4 _) trodAll_mk0)) (fun sp _ => (trodAll_cons_mk (shut_int Tryz.underlying3 w0) trodAll_mk0)) (fun _ _ => rfl) rfl
    hg (ok_one (by kernel_rfl) rfl (okWide_bool_mk Tryz.underlying4 _))⟩

theorem over : Rows.modelRecursionRow.holds Tryz.pinned (OpenSpec.ofChange Rows.modelRecursionSpec) :=
  OpenClaim.holds_of_wide 9 Tryz.f9 rfl rfl rfl rfl rfl rfl rfl ⟨rfl, rfl, rfl, rfl, rfl⟩ rfl rfl rfl rfl rfl (by kernel_rfl) Tryz.func9 joined
    (of_decide_eq_true (by kernel_rfl)) (by unfold Func.isWrapper; first | (rw [if_pos (by decide +kernel)]; kernel_rfl) | (rw [if_neg (by decide +kernel)]; exact ⟨rfl, rfl⟩))
    (fun os started H enc _ => lifted os started H enc)

/-- ████ THE STATEMENT ████ -/
theorem proved : Rows.ModelRecursionCardSaid :=
  Claim7.holds_tied_plain_at .later [] [.listed, .data] true (true, "bd2ea72fb570be8efd04e8da19323e007029b4ef2c57d9fc4236a2adb4d4b959") true
    over (fun _ h => by cases h) g0 (fun _ h => by cases h) modelRecursion_row_tie rfl ⟨rfl, rfl⟩ g1 rfl
    (fun f fn hf hfn => by
      obtain rfl : f = 9 := Option.some.inj (g2.symm.trans hf) |>.symm
      obtain rfl : fn = Tryz.f9 := (Option.some.inj (Tryz.func9.symm.trans hfn)).symm
      exact ⟨g3, fun j t ht => by
        rw [Tryz.params9] at ht
        have hm : t ∈ (Tryz.f9.params : Array TypeId).toList := by
          rw [Tryz.params9]
          exact Array.mem_toList_iff.2 (Array.mem_of_getElem? ht)
        have := List.all_eq_true.1 g4 t hm
        have h2 : Tryz.prog.wantsStandIn t = false := by simpa using this
        exact h2⟩)
    g5
#print axioms proved
end Go.Proofs.YtfedjkcigdgcoaaGreatDoor.modelRecursion
