/- gneiss/gneisslaw24.ReplayOuts answers true at every input, and leaves its arguments as they were. No conditions. -/
import Derived.Test.YtfedjkcigdgcoaaGreatDoorRows
import Derived.WalkKit
import Derived.ProofKit
import Derived.OpenShut
import Derived.Below
import Derived.ChangeSame
import Derived.Test.YtfedjkcigdgcoaaGreatDoorReplayOutsR0
import Derived.Test.YtfedjkcigdgcoaaGreatDoorReplayOutsR1
import Derived.Test.YtfedjkcigdgcoaaGreatDoorReplayOutsR2
import Derived.Test.YtfedjkcigdgcoaaGreatDoorReplayOutsR3
import Derived.Test.YtfedjkcigdgcoaaGreatDoorReplayOutsR4
import Derived.Test.YtfedjkcigdgcoaaGreatDoorReplayOutsR5
import Derived.Test.YtfedjkcigdgcoaaGreatDoorReplayOutsR6
import Derived.Test.YtfedjkcigdgcoaaGreatDoorReplayOutsR7
import Derived.Test.YtfedjkcigdgcoaaGreatDoorLaid
import Derived.Test.YtfedjkcigdgcoaaGreatDoorTie
import Derived.Test.YtfedjkcigdgcoaaGreatDoorReplayOutsJ
import Derived.Test.YtfedjkcigdgcoaaGreatDoorCards
import Derived.SevenTiedAt
namespace Go.Proofs.YtfedjkcigdgcoaaGreatDoor.replayOuts
open Go.Ai Go.ChangeShapes Go.WideShapes Go.ChangeAt Go.RowKit
set_option linter.unusedVariables false

theorem own : ownKnob Tryz.prog.godebug = none := by kernel_rfl

section
variable {H : Type} {enc : TypeId × Value → H} {P : Program}
theorem post_of_below {f : Func} {s : ChangeSpec} {apart fresh handsOn again : Bool} {W W' : World} {args : Array Value} {v : Value} {ds gs : List (DataW H)} {before pa pv : List MemPlace}
    (hW : DataW.Whole enc P f.params.toList s.vars apart W args.toList ds gs before)
    (hres : ∀ (b : Nat) (sp : Nat → Bool) (hd : Bool), DataW.TrodAll enc P W' b sp hd f.resultTypes.toList (v.resultList f.resultTypes.size) (s.fn H (ds ++ gs)).results [])
    (hargs : ∀ sp : Nat → Bool, (∀ p ∈ before, sp p.block = true) → DataW.TrodAll enc P W' 0 sp true f.params.toList args.toList (s.fn H (ds ++ gs)).args pa)
    (hvars : ∀ sp : Nat → Bool, (∀ p ∈ before, sp p.block = true) → DataW.TrodVars enc P W' sp s.vars (s.fn H (ds ++ gs)).vars pv)
    (hps : before = pa ++ pv) (hb : Below W.heap.size W W')
    (hok : ∀ (j : Nat) (t : TypeId) (r : Value), f.resultTypes[j]? = some t → (v.resultList f.resultTypes.size)[j]? = some r → Value.okWide P W' .any 0 t r) :
    s.post enc P f apart fresh handsOn again W args v W' := by
  have hlt : ∀ p ∈ before, p.block < W.heap.size := fun p hp => hW.lt p hp
  have hold : ∀ p ∈ before, (fun b => decide (b < W.heap.size)) p.block = true := fun p hp => by simpa using hlt p hp
  refine ⟨ds, gs, before, [], pa, pv, hW, hres _ _ _, hargs _ hold, hvars _ hold, World.keptBut_mono (fun p hp => ⟨hp, ?_⟩) (hb.frame (· ∈ before)), fun _ => ?_⟩
  · rw [hps, List.mem_append] at hp
    exact Or.inr hp
  · obtain ⟨_, _, _, _, _, hz, hn⟩ := hW
    refine ⟨hok, _, _, ([] ++ pa) ++ pv, ⟨[] ++ pa, pv, trodAll_append (hargs _ (fun _ _ => rfl)) (hres _ _ _), hvars _ (fun _ _ => rfl), rfl, ?_, ?_⟩, ?_⟩
    · intro b off hp
      have hin : MemPlace.cell b off ∈ before := by rw [hps]; simpa using hp
      rw [hb.frozen (hlt _ hin)]
      exact hz b off hin
    · intro ha
      have := hn ha
      rw [hps] at this
      simpa using this
    · intro p hp _
      rw [hps]
      simpa using hp
end
/-! ### the walk: by the abstract machine -/
theorem rng0 (a : Int) : -2147483647 ≤ opVal .rem .i64 a 2147483648 ∧ opVal .rem .i64 a 2147483648 ≤ 2147483647 := by
  have h1 : a.tmod 2147483648 < 2147483648 := Int.tmod_lt_of_pos a (by omega)
  have h2 : -2147483648 < a.tmod 2147483648 := Int.lt_tmod_of_pos a (by omega)
  show -2147483647 ≤ a.tmod 2147483648 ∧ a.tmod 2147483648 ≤ 2147483647
  omega
theorem rng1 (a : Int) : 0 ≤ opVal .and .i64 a 3 ∧ opVal .and .i64 a 3 ≤ 3 := by
  have h : (BitVec.ofInt 64 a &&& BitVec.ofInt 64 3).toNat ≤ 3 := by
    rw [BitVec.toNat_and]
    exact Nat.and_le_right
  show 0 ≤ IntKind.wrap .i64 ((BitVec.ofInt 64 a &&& BitVec.ofInt 64 3).toNat : Int) ∧ IntKind.wrap .i64 ((BitVec.ofInt 64 a &&& BitVec.ofInt 64 3).toNat : Int) ≤ 3
  rw [IntKind.wrap_i64]
  omega
theorem plusN (a : Int) : cmpVal .neq (opVal .add .i64 (opVal .rem .i64 a 2147483648) 1) (opVal .rem .i64 a 2147483648) = true := by
  have g := rng0 a
  have h : ¬ (IntKind.wrap .i64 (opVal .rem .i64 a 2147483648 + 1) = opVal .rem .i64 a 2147483648) := by
    rw [IntKind.wrap_i64]
    omega
  show (!decide (IntKind.wrap .i64 ((opVal .rem .i64 a 2147483648) + 1) = (opVal .rem .i64 a 2147483648))) = true
  rw [decide_eq_false h]
  rfl
theorem plusE (a : Int) : cmpVal .eql (opVal .add .i64 (opVal .rem .i64 a 2147483648) 1) (opVal .rem .i64 a 2147483648) = false := by
  have g := rng0 a
  have h : ¬ (IntKind.wrap .i64 (opVal .rem .i64 a 2147483648 + 1) = opVal .rem .i64 a 2147483648) := by
    rw [IntKind.wrap_i64]
    omega
  show decide (IntKind.wrap .i64 ((opVal .rem .i64 a 2147483648) + 1) = (opVal .rem .i64 a 2147483648)) = false
  exact decide_eq_false h
theorem at_ {a0 : Int} {a1 : Int}  {rw : List (SI × SI)} {iv : List (SI × Int × Int)} {cm : List (BinOp × SI × SI × Bool)} (hr : ∀ x y, (x, y) ∈ rw → x.ev (fun i => if i = 0 then a0 else if i = 1 then a1 else 0) = y.ev (fun i => if i = 0 then a0 else if i = 1 then a1 else 0)) (hi : ∀ x lo hi, (x, lo, hi) ∈ iv → lo ≤ x.ev (fun i => if i = 0 then a0 else if i = 1 then a1 else 0) ∧ x.ev (fun i => if i = 0 then a0 else if i = 1 then a1 else 0) ≤ hi) (hc : ∀ op x y r, (op, x, y, r) ∈ cm → cmpVal op (x.ev (fun i => if i = 0 then a0 else if i = 1 then a1 else 0)) (y.ev (fun i => if i = 0 then a0 else if i = 1 then a1 else 0)) = r) (r : yes (run rw iv cm) = true) (w : World) (hgl : GlOk gl w) : Calls Tryz.prog 14 #[.int .i64 a0, .int .i64 a1] w fun e w' => e = .returned (.bool true) ∧ Below w.heap.size w w' :=
  haveI : GlOk (⟨rw, cm, iv, fun _ _ _ => none, gl⟩ : Cf).gl w := hgl
  soundC comp.mixed comp.TOk (over := (overC 37)) (cf := ⟨rw, cm, iv, fun _ _ _ => none, gl⟩) (σ := fun i => if i = 0 then a0 else if i = 1 then a1 else 0) (xs := [.int .i64 a0, .int .i64 a1]) (fun _ h => overC_ok awakes h)
    ⟨hr, hc, hi, fun _ _ _ _ hm => (by cases hm)⟩
    (.cons (.int .i64 (.var 0)) (.cons (.int .i64 (.var 1)) .nil)) r
theorem iv2 {σ : Nat → Int} {x y : SI} {a b c d : Int} (h : a ≤ x.ev σ ∧ x.ev σ ≤ b) (k : c ≤ y.ev σ ∧ y.ev σ ≤ d) : ∀ u lo hi, (u, lo, hi) ∈ [(x, a, b), (y, c, d)] → lo ≤ u.ev σ ∧ u.ev σ ≤ hi := by
  intro u lo hi hm
  simp only [List.mem_cons, List.not_mem_nil, or_false, Prod.mk.injEq] at hm
  rcases hm with ⟨rfl, rfl, rfl⟩ | ⟨rfl, rfl, rfl⟩
  · exact h
  · exact k
theorem iv1 {σ : Nat → Int} {x : SI} {a b : Int} (h : a ≤ x.ev σ ∧ x.ev σ ≤ b) : ∀ u lo hi, (u, lo, hi) ∈ [(x, a, b)] → lo ≤ u.ev σ ∧ u.ev σ ≤ hi := by
  intro u lo hi hm
  simp only [List.mem_cons, List.not_mem_nil, or_false, Prod.mk.injEq] at hm
  obtain ⟨rfl, rfl, rfl⟩ := hm
  exact h
theorem walk (a0 : Int) (a1 : Int) (w0 : (Lit.int .i64 a0).wf = true) (w1 : (Lit.int .i64 a1).wf = true) (w : World) (hgl : GlOk gl w) :
    Calls Tryz.prog 14 #[.int .i64 a0, .int .i64 a1] w fun e w' => e = .returned (.bool true) ∧ Below w.heap.size w w' := by
  have g0 := rng0 a0
  by_cases q1 : opVal .rem .i64 a0 2147483648 < 11
  ·
    by_cases q2 : opVal .rem .i64 a0 2147483648 < (-8192)
    ·
      by_cases q3 : opVal .rem .i64 a0 2147483648 < (-134217728)
      ·
        have e0 : (-2147483647) ≤ opVal .rem .i64 a0 2147483648 ∧ opVal .rem .i64 a0 2147483648 ≤ (-134217729) := by omega
        have g1 := rng1 a1
        by_cases q4 : opVal .and .i64 a1 3 < 2
        ·
          by_cases q5 : opVal .and .i64 a1 3 < 1
          ·
            have e1 : opVal .and .i64 a1 3 = 0 := by omega
            exact at_ (rw := [(.bin .and .i64 (.var 1) (.lit 3), .lit (.ofNat (nat_lit 0)))]) (iv := [(.bin .rem .i64 (.var 0) (.lit 2147483648), (.negSucc (nat_lit 2147483646)), (.negSucc (nat_lit 134217728)))]) (cm := []) (fun x y hm => by
              simp only [List.mem_cons, List.not_mem_nil, or_false, Prod.mk.injEq] at hm
              rcases hm with ⟨rfl, rfl⟩
              · exact e1
            ) (iv1 e0) (fun _ _ _ _ hm => by cases hm) rm2147483647tom134217729_0 w hgl
          ·
            have e1 : opVal .and .i64 a1 3 = 1 := by omega
            exact at_ (rw := [(.bin .and .i64 (.var 1) (.lit 3), .lit (.ofNat (nat_lit 1)))]) (iv := [(.bin .rem .i64 (.var 0) (.lit 2147483648), (.negSucc (nat_lit 2147483646)), (.negSucc (nat_lit 134217728)))]) (cm := []) (fun x y hm => by
              simp only [List.mem_cons, List.not_mem_nil, or_false, Prod.mk.injEq] at hm
              rcases hm with ⟨rfl, rfl⟩
              · exact e1
            ) (iv1 e0) (fun _ _ _ _ hm => by cases hm) rm2147483647tom134217729_1 w hgl
        ·
          by_cases q5 : opVal .and .i64 a1 3 < 3
          ·
            have e1 : opVal .and .i64 a1 3 = 2 := by omega
            exact at_ (rw := [(.bin .and .i64 (.var 1) (.lit 3), .lit (.ofNat (nat_lit 2)))]) (iv := [(.bin .rem .i64 (.var 0) (.lit 2147483648), (.negSucc (nat_lit 2147483646)), (.negSucc (nat_lit 134217728)))]) (cm := [(.neq, .bin .add .i64 (.bin .rem .i64 (.var 0) (.lit 2147483648)) (.lit 1), .bin .rem .i64 (.var 0) (.lit 2147483648), true), (.eql, .bin .add .i64 (.bin .rem .i64 (.var 0) (.lit 2147483648)) (.lit 1), .bin .rem .i64 (.var 0) (.lit 2147483648), false)]) (fun x y hm => by
              simp only [List.mem_cons, List.not_mem_nil, or_false, Prod.mk.injEq] at hm
              rcases hm with ⟨rfl, rfl⟩
              · exact e1
            ) (iv1 e0) (fun op x y r hm => by
              simp only [List.mem_cons, List.not_mem_nil, or_false, Prod.mk.injEq] at hm
              rcases hm with ⟨rfl, rfl, rfl, rfl⟩ | ⟨rfl, rfl, rfl, rfl⟩
              · exact plusN a0
              · exact plusE a0
            ) rm2147483647tom134217729_2 w hgl
          ·
            have e1 : opVal .and .i64 a1 3 = 3 := by omega
            exact at_ (rw := [(.bin .and .i64 (.var 1) (.lit 3), .lit (.ofNat (nat_lit 3)))]) (iv := [(.bin .rem .i64 (.var 0) (.lit 2147483648), (.negSucc (nat_lit 2147483646)), (.negSucc (nat_lit 134217728)))]) (cm := []) (fun x y hm => by
              simp only [List.mem_cons, List.not_mem_nil, or_false, Prod.mk.injEq] at hm
              rcases hm with ⟨rfl, rfl⟩
              · exact e1
            ) (iv1 e0) (fun _ _ _ _ hm => by cases hm) rm2147483647tom134217729_3 w hgl
      ·
        by_cases q4 : opVal .rem .i64 a0 2147483648 < (-1048576)
        ·
          have e0 : (-134217728) ≤ opVal .rem .i64 a0 2147483648 ∧ opVal .rem .i64 a0 2147483648 ≤ (-1048577) := by omega
          have g1 := rng1 a1
          by_cases q5 : opVal .and .i64 a1 3 < 2
          ·
            by_cases q6 : opVal .and .i64 a1 3 < 1
            ·
              have e1 : opVal .and .i64 a1 3 = 0 := by omega
              exact at_ (rw := [(.bin .and .i64 (.var 1) (.lit 3), .lit (.ofNat (nat_lit 0)))]) (iv := [(.bin .rem .i64 (.var 0) (.lit 2147483648), (.negSucc (nat_lit 134217727)), (.negSucc (nat_lit 1048576)))]) (cm := []) (fun x y hm => by
                simp only [List.mem_cons, List.not_mem_nil, or_false, Prod.mk.injEq] at hm
                rcases hm with ⟨rfl, rfl⟩
                · exact e1
              ) (iv1 e0) (fun _ _ _ _ hm => by cases hm) rm134217728tom1048577_0 w hgl
            ·
              have e1 : opVal .and .i64 a1 3 = 1 := by omega
              exact at_ (rw := [(.bin .and .i64 (.var 1) (.lit 3), .lit (.ofNat (nat_lit 1)))]) (iv := [(.bin .rem .i64 (.var 0) (.lit 2147483648), (.negSucc (nat_lit 134217727)), (.negSucc (nat_lit 1048576)))]) (cm := []) (fun x y hm => by
                simp only [List.mem_cons, List.not_mem_nil, or_false, Prod.mk.injEq] at hm
                rcases hm with ⟨rfl, rfl⟩
                · exact e1
              ) (iv1 e0) (fun _ _ _ _ hm => by cases hm) rm134217728tom1048577_1 w hgl
          ·
            by_cases q6 : opVal .and .i64 a1 3 < 3
            ·
              have e1 : opVal .and .i64 a1 3 = 2 := by omega
              exact at_ (rw := [(.bin .and .i64 (.var 1) (.lit 3), .lit (.ofNat (nat_lit 2)))]) (iv := [(.bin .rem .i64 (.var 0) (.lit 2147483648), (.negSucc (nat_lit 134217727)), (.negSucc (nat_lit 1048576)))]) (cm := [(.neq, .bin .add .i64 (.bin .rem .i64 (.var 0) (.lit 2147483648)) (.lit 1), .bin .rem .i64 (.var 0) (.lit 2147483648), true), (.eql, .bin .add .i64 (.bin .rem .i64 (.var 0) (.lit 2147483648)) (.lit 1), .bin .rem .i64 (.var 0) (.lit 2147483648), false)]) (fun x y hm => by
                simp only [List.mem_cons, List.not_mem_nil, or_false, Prod.mk.injEq] at hm
                rcases hm with ⟨rfl, rfl⟩
                · exact e1
              ) (iv1 e0) (fun op x y r hm => by
                simp only [List.mem_cons, List.not_mem_nil, or_false, Prod.mk.injEq] at hm
                rcases hm with ⟨rfl, rfl, rfl, rfl⟩ | ⟨rfl, rfl, rfl, rfl⟩
                · exact plusN a0
                · exact plusE a0
              ) rm134217728tom1048577_2 w hgl
            ·
              have e1 : opVal .and .i64 a1 3 = 3 := by omega
              exact at_ (rw := [(.bin .and .i64 (.var 1) (.lit 3), .lit (.ofNat (nat_lit 3)))]) (iv := [(.bin .rem .i64 (.var 0) (.lit 2147483648), (.negSucc (nat_lit 134217727)), (.negSucc (nat_lit 1048576)))]) (cm := []) (fun x y hm => by
                simp only [List.mem_cons, List.not_mem_nil, or_false, Prod.mk.injEq] at hm
                rcases hm with ⟨rfl, rfl⟩
                · exact e1
              ) (iv1 e0) (fun _ _ _ _ hm => by cases hm) rm134217728tom1048577_3 w hgl
        ·
          have e0 : (-1048576) ≤ opVal .rem .i64 a0 2147483648 ∧ opVal .rem .i64 a0 2147483648 ≤ (-8193) := by omega
          have g1 := rng1 a1
          by_cases q5 : opVal .and .i64 a1 3 < 2
          ·
            by_cases q6 : opVal .and .i64 a1 3 < 1
            ·
              have e1 : opVal .and .i64 a1 3 = 0 := by omega
              exact at_ (rw := [(.bin .and .i64 (.var 1) (.lit 3), .lit (.ofNat (nat_lit 0)))]) (iv := [(.bin .rem .i64 (.var 0) (.lit 2147483648), (.negSucc (nat_lit 1048575)), (.negSucc (nat_lit 8192)))]) (cm := []) (fun x y hm => by
                simp only [List.mem_cons, List.not_mem_nil, or_false, Prod.mk.injEq] at hm
                rcases hm with ⟨rfl, rfl⟩
                · exact e1
              ) (iv1 e0) (fun _ _ _ _ hm => by cases hm) rm1048576tom8193_0 w hgl
            ·
              have e1 : opVal .and .i64 a1 3 = 1 := by omega
              exact at_ (rw := [(.bin .and .i64 (.var 1) (.lit 3), .lit (.ofNat (nat_lit 1)))]) (iv := [(.bin .rem .i64 (.var 0) (.lit 2147483648), (.negSucc (nat_lit 1048575)), (.negSucc (nat_lit 8192)))]) (cm := []) (fun x y hm => by
                simp only [List.mem_cons, List.not_mem_nil, or_false, Prod.mk.injEq] at hm
                rcases hm with ⟨rfl, rfl⟩
                · exact e1
              ) (iv1 e0) (fun _ _ _ _ hm => by cases hm) rm1048576tom8193_1 w hgl
          ·
            by_cases q6 : opVal .and .i64 a1 3 < 3
            ·
              have e1 : opVal .and .i64 a1 3 = 2 := by omega
              exact at_ (rw := [(.bin .and .i64 (.var 1) (.lit 3), .lit (.ofNat (nat_lit 2)))]) (iv := [(.bin .rem .i64 (.var 0) (.lit 2147483648), (.negSucc (nat_lit 1048575)), (.negSucc (nat_lit 8192)))]) (cm := [(.neq, .bin .add .i64 (.bin .rem .i64 (.var 0) (.lit 2147483648)) (.lit 1), .bin .rem .i64 (.var 0) (.lit 2147483648), true), (.eql, .bin .add .i64 (.bin .rem .i64 (.var 0) (.lit 2147483648)) (.lit 1), .bin .rem .i64 (.var 0) (.lit 2147483648), false)]) (fun x y hm => by
                simp only [List.mem_cons, List.not_mem_nil, or_false, Prod.mk.injEq] at hm
                rcases hm with ⟨rfl, rfl⟩
                · exact e1
              ) (iv1 e0) (fun op x y r hm => by
                simp only [List.mem_cons, List.not_mem_nil, or_false, Prod.mk.injEq] at hm
                rcases hm with ⟨rfl, rfl, rfl, rfl⟩ | ⟨rfl, rfl, rfl, rfl⟩
                · exact plusN a0
                · exact plusE a0
              ) rm1048576tom8193_2 w hgl
            ·
              have e1 : opVal .and .i64 a1 3 = 3 := by omega
              exact at_ (rw := [(.bin .and .i64 (.var 1) (.lit 3), .lit (.ofNat (nat_lit 3)))]) (iv := [(.bin .rem .i64 (.var 0) (.lit 2147483648), (.negSucc (nat_lit 1048575)), (.negSucc (nat_lit 8192)))]) (cm := []) (fun x y hm => by
                simp only [List.mem_cons, List.not_mem_nil, or_false, Prod.mk.injEq] at hm
                rcases hm with ⟨rfl, rfl⟩
                · exact e1
              ) (iv1 e0) (fun _ _ _ _ hm => by cases hm) rm1048576tom8193_3 w hgl
    ·
      by_cases q3 : opVal .rem .i64 a0 2147483648 < (-64)
      ·
        have e0 : (-8192) ≤ opVal .rem .i64 a0 2147483648 ∧ opVal .rem .i64 a0 2147483648 ≤ (-65) := by omega
        have g1 := rng1 a1
        by_cases q4 : opVal .and .i64 a1 3 < 2
        ·
          by_cases q5 : opVal .and .i64 a1 3 < 1
          ·
            have e1 : opVal .and .i64 a1 3 = 0 := by omega
            exact at_ (rw := [(.bin .and .i64 (.var 1) (.lit 3), .lit (.ofNat (nat_lit 0)))]) (iv := [(.bin .rem .i64 (.var 0) (.lit 2147483648), (.negSucc (nat_lit 8191)), (.negSucc (nat_lit 64)))]) (cm := []) (fun x y hm => by
              simp only [List.mem_cons, List.not_mem_nil, or_false, Prod.mk.injEq] at hm
              rcases hm with ⟨rfl, rfl⟩
              · exact e1
            ) (iv1 e0) (fun _ _ _ _ hm => by cases hm) rm8192tom65_0 w hgl
          ·
            have e1 : opVal .and .i64 a1 3 = 1 := by omega
            exact at_ (rw := [(.bin .and .i64 (.var 1) (.lit 3), .lit (.ofNat (nat_lit 1)))]) (iv := [(.bin .rem .i64 (.var 0) (.lit 2147483648), (.negSucc (nat_lit 8191)), (.negSucc (nat_lit 64)))]) (cm := []) (fun x y hm => by
              simp only [List.mem_cons, List.not_mem_nil, or_false, Prod.mk.injEq] at hm
              rcases hm with ⟨rfl, rfl⟩
              · exact e1
            ) (iv1 e0) (fun _ _ _ _ hm => by cases hm) rm8192tom65_1 w hgl
        ·
          by_cases q5 : opVal .and .i64 a1 3 < 3
          ·
            have e1 : opVal .and .i64 a1 3 = 2 := by omega
            exact at_ (rw := [(.bin .and .i64 (.var 1) (.lit 3), .lit (.ofNat (nat_lit 2)))]) (iv := [(.bin .rem .i64 (.var 0) (.lit 2147483648), (.negSucc (nat_lit 8191)), (.negSucc (nat_lit 64)))]) (cm := [(.neq, .bin .add .i64 (.bin .rem .i64 (.var 0) (.lit 2147483648)) (.lit 1), .bin .rem .i64 (.var 0) (.lit 2147483648), true), (.eql, .bin .add .i64 (.bin .rem .i64 (.var 0) (.lit 2147483648)) (.lit 1), .bin .rem .i64 (.var 0) (.lit 2147483648), false)]) (fun x y hm => by
              simp only [List.mem_cons, List.not_mem_nil, or_false, Prod.mk.injEq] at hm
              rcases hm with ⟨rfl, rfl⟩
              · exact e1
            ) (iv1 e0) (fun op x y r hm => by
              simp only [List.mem_cons, List.not_mem_nil, or_false, Prod.mk.injEq] at hm
              rcases hm with ⟨rfl, rfl, rfl, rfl⟩ | ⟨rfl, rfl, rfl, rfl⟩
              · exact plusN a0
              · exact plusE a0
            ) rm8192tom65_2 w hgl
          ·
            have e1 : opVal .and .i64 a1 3 = 3 := by omega
            exact at_ (rw := [(.bin .and .i64 (.var 1) (.lit 3), .lit (.ofNat (nat_lit 3)))]) (iv := [(.bin .rem .i64 (.var 0) (.lit 2147483648), (.negSucc (nat_lit 8191)), (.negSucc (nat_lit 64)))]) (cm := []) (fun x y hm => by
              simp only [List.mem_cons, List.not_mem_nil, or_false, Prod.mk.injEq] at hm
              rcases hm with ⟨rfl, rfl⟩
              · exact e1
            ) (iv1 e0) (fun _ _ _ _ hm => by cases hm) rm8192tom65_3 w hgl
      ·
        by_cases q4 : opVal .rem .i64 a0 2147483648 < 0
        ·
          have e0 : (-64) ≤ opVal .rem .i64 a0 2147483648 ∧ opVal .rem .i64 a0 2147483648 ≤ (-1) := by omega
          have g1 := rng1 a1
          by_cases q5 : opVal .and .i64 a1 3 < 2
          ·
            by_cases q6 : opVal .and .i64 a1 3 < 1
            ·
              have e1 : opVal .and .i64 a1 3 = 0 := by omega
              exact at_ (rw := [(.bin .and .i64 (.var 1) (.lit 3), .lit (.ofNat (nat_lit 0)))]) (iv := [(.bin .rem .i64 (.var 0) (.lit 2147483648), (.negSucc (nat_lit 63)), (.negSucc (nat_lit 0)))]) (cm := []) (fun x y hm => by
                simp only [List.mem_cons, List.not_mem_nil, or_false, Prod.mk.injEq] at hm
                rcases hm with ⟨rfl, rfl⟩
                · exact e1
              ) (iv1 e0) (fun _ _ _ _ hm => by cases hm) rm64tom1_0 w hgl
            ·
              have e1 : opVal .and .i64 a1 3 = 1 := by omega
              exact at_ (rw := [(.bin .and .i64 (.var 1) (.lit 3), .lit (.ofNat (nat_lit 1)))]) (iv := [(.bin .rem .i64 (.var 0) (.lit 2147483648), (.negSucc (nat_lit 63)), (.negSucc (nat_lit 0)))]) (cm := []) (fun x y hm => by
                simp only [List.mem_cons, List.not_mem_nil, or_false, Prod.mk.injEq] at hm
                rcases hm with ⟨rfl, rfl⟩
                · exact e1
              ) (iv1 e0) (fun _ _ _ _ hm => by cases hm) rm64tom1_1 w hgl
          ·
            by_cases q6 : opVal .and .i64 a1 3 < 3
            ·
              have e1 : opVal .and .i64 a1 3 = 2 := by omega
              exact at_ (rw := [(.bin .and .i64 (.var 1) (.lit 3), .lit (.ofNat (nat_lit 2)))]) (iv := [(.bin .rem .i64 (.var 0) (.lit 2147483648), (.negSucc (nat_lit 63)), (.negSucc (nat_lit 0)))]) (cm := [(.neq, .bin .add .i64 (.bin .rem .i64 (.var 0) (.lit 2147483648)) (.lit 1), .bin .rem .i64 (.var 0) (.lit 2147483648), true), (.eql, .bin .add .i64 (.bin .rem .i64 (.var 0) (.lit 2147483648)) (.lit 1), .bin .rem .i64 (.var 0) (.lit 2147483648), false)]) (fun x y hm => by
                simp only [List.mem_cons, List.not_mem_nil, or_false, Prod.mk.injEq] at hm
                rcases hm with ⟨rfl, rfl⟩
                · exact e1
              ) (iv1 e0) (fun op x y r hm => by
                simp only [List.mem_cons, List.not_mem_nil, or_false, Prod.mk.injEq] at hm
                rcases hm with ⟨rfl, rfl, rfl, rfl⟩ | ⟨rfl, rfl, rfl, rfl⟩
                · exact plusN a0
                · exact plusE a0
              ) rm64tom1_2 w hgl
            ·
              have e1 : opVal .and .i64 a1 3 = 3 := by omega
              exact at_ (rw := [(.bin .and .i64 (.var 1) (.lit 3), .lit (.ofNat (nat_lit 3)))]) (iv := [(.bin .rem .i64 (.var 0) (.lit 2147483648), (.negSucc (nat_lit 63)), (.negSucc (nat_lit 0)))]) (cm := []) (fun x y hm => by
                simp only [List.mem_cons, List.not_mem_nil, or_false, Prod.mk.injEq] at hm
                rcases hm with ⟨rfl, rfl⟩
                · exact e1
              ) (iv1 e0) (fun _ _ _ _ hm => by cases hm) rm64tom1_3 w hgl
        ·
          have e0 : 0 ≤ opVal .rem .i64 a0 2147483648 ∧ opVal .rem .i64 a0 2147483648 ≤ 10 := by omega
          have g1 := rng1 a1
          by_cases q5 : opVal .and .i64 a1 3 < 2
          ·
            by_cases q6 : opVal .and .i64 a1 3 < 1
            ·
              have e1 : opVal .and .i64 a1 3 = 0 := by omega
              exact at_ (rw := [(.bin .and .i64 (.var 1) (.lit 3), .lit (.ofNat (nat_lit 0)))]) (iv := [(.bin .rem .i64 (.var 0) (.lit 2147483648), (.ofNat (nat_lit 0)), (.ofNat (nat_lit 10)))]) (cm := []) (fun x y hm => by
                simp only [List.mem_cons, List.not_mem_nil, or_false, Prod.mk.injEq] at hm
                rcases hm with ⟨rfl, rfl⟩
                · exact e1
              ) (iv1 e0) (fun _ _ _ _ hm => by cases hm) r0to10_0 w hgl
            ·
              have e1 : opVal .and .i64 a1 3 = 1 := by omega
              exact at_ (rw := [(.bin .and .i64 (.var 1) (.lit 3), .lit (.ofNat (nat_lit 1)))]) (iv := [(.bin .rem .i64 (.var 0) (.lit 2147483648), (.ofNat (nat_lit 0)), (.ofNat (nat_lit 10)))]) (cm := []) (fun x y hm => by
                simp only [List.mem_cons, List.not_mem_nil, or_false, Prod.mk.injEq] at hm
                rcases hm with ⟨rfl, rfl⟩
                · exact e1
              ) (iv1 e0) (fun _ _ _ _ hm => by cases hm) r0to10_1 w hgl
          ·
            by_cases q6 : opVal .and .i64 a1 3 < 3
            ·
              have e1 : opVal .and .i64 a1 3 = 2 := by omega
              exact at_ (rw := [(.bin .and .i64 (.var 1) (.lit 3), .lit (.ofNat (nat_lit 2)))]) (iv := [(.bin .rem .i64 (.var 0) (.lit 2147483648), (.ofNat (nat_lit 0)), (.ofNat (nat_lit 10)))]) (cm := [(.neq, .bin .add .i64 (.bin .rem .i64 (.var 0) (.lit 2147483648)) (.lit 1), .bin .rem .i64 (.var 0) (.lit 2147483648), true), (.eql, .bin .add .i64 (.bin .rem .i64 (.var 0) (.lit 2147483648)) (.lit 1), .bin .rem .i64 (.var 0) (.lit 2147483648), false)]) (fun x y hm => by
                simp only [List.mem_cons, List.not_mem_nil, or_false, Prod.mk.injEq] at hm
                rcases hm with ⟨rfl, rfl⟩
                · exact e1
              ) (iv1 e0) (fun op x y r hm => by
                simp only [List.mem_cons, List.not_mem_nil, or_false, Prod.mk.injEq] at hm
                rcases hm with ⟨rfl, rfl, rfl, rfl⟩ | ⟨rfl, rfl, rfl, rfl⟩
                · exact plusN a0
                · exact plusE a0
              ) r0to10_2 w hgl
            ·
              have e1 : opVal .and .i64 a1 3 = 3 := by omega
              exact at_ (rw := [(.bin .and .i64 (.var 1) (.lit 3), .lit (.ofNat (nat_lit 3)))]) (iv := [(.bin .rem .i64 (.var 0) (.lit 2147483648), (.ofNat (nat_lit 0)), (.ofNat (nat_lit 10)))]) (cm := []) (fun x y hm => by
                simp only [List.mem_cons, List.not_mem_nil, or_false, Prod.mk.injEq] at hm
                rcases hm with ⟨rfl, rfl⟩
                · exact e1
              ) (iv1 e0) (fun _ _ _ _ hm => by cases hm) r0to10_3 w hgl
  ·
    by_cases q2 : opVal .rem .i64 a0 2147483648 < 8192
    ·
      by_cases q3 : opVal .rem .i64 a0 2147483648 < 12
      ·
        have e0 : opVal .rem .i64 a0 2147483648 = 11 := by omega
        have g1 := rng1 a1
        by_cases q4 : opVal .and .i64 a1 3 < 2
        ·
          by_cases q5 : opVal .and .i64 a1 3 < 1
          ·
            have e1 : opVal .and .i64 a1 3 = 0 := by omega
            exact at_ (rw := [(.bin .rem .i64 (.var 0) (.lit 2147483648), .lit (.ofNat (nat_lit 11))), (.bin .and .i64 (.var 1) (.lit 3), .lit (.ofNat (nat_lit 0)))]) (iv := []) (cm := []) (fun x y hm => by
              simp only [List.mem_cons, List.not_mem_nil, or_false, Prod.mk.injEq] at hm
              rcases hm with ⟨rfl, rfl⟩ | ⟨rfl, rfl⟩
              · exact e0
              · exact e1
            ) (fun _ _ _ hm => by cases hm) (fun _ _ _ _ hm => by cases hm) r11_0 w hgl
          ·
            have e1 : opVal .and .i64 a1 3 = 1 := by omega
            exact at_ (rw := [(.bin .rem .i64 (.var 0) (.lit 2147483648), .lit (.ofNat (nat_lit 11))), (.bin .and .i64 (.var 1) (.lit 3), .lit (.ofNat (nat_lit 1)))]) (iv := []) (cm := []) (fun x y hm => by
              simp only [List.mem_cons, List.not_mem_nil, or_false, Prod.mk.injEq] at hm
              rcases hm with ⟨rfl, rfl⟩ | ⟨rfl, rfl⟩
              · exact e0
              · exact e1
            ) (fun _ _ _ hm => by cases hm) (fun _ _ _ _ hm => by cases hm) r11_1 w hgl
        ·
          by_cases q5 : opVal .and .i64 a1 3 < 3
          ·
            have e1 : opVal .and .i64 a1 3 = 2 := by omega
            exact at_ (rw := [(.bin .rem .i64 (.var 0) (.lit 2147483648), .lit (.ofNat (nat_lit 11))), (.bin .and .i64 (.var 1) (.lit 3), .lit (.ofNat (nat_lit 2)))]) (iv := []) (cm := []) (fun x y hm => by
              simp only [List.mem_cons, List.not_mem_nil, or_false, Prod.mk.injEq] at hm
              rcases hm with ⟨rfl, rfl⟩ | ⟨rfl, rfl⟩
              · exact e0
              · exact e1
            ) (fun _ _ _ hm => by cases hm) (fun _ _ _ _ hm => by cases hm) r11_2 w hgl
          ·
            have e1 : opVal .and .i64 a1 3 = 3 := by omega
            exact at_ (rw := [(.bin .rem .i64 (.var 0) (.lit 2147483648), .lit (.ofNat (nat_lit 11))), (.bin .and .i64 (.var 1) (.lit 3), .lit (.ofNat (nat_lit 3)))]) (iv := []) (cm := []) (fun x y hm => by
              simp only [List.mem_cons, List.not_mem_nil, or_false, Prod.mk.injEq] at hm
              rcases hm with ⟨rfl, rfl⟩ | ⟨rfl, rfl⟩
              · exact e0
              · exact e1
            ) (fun _ _ _ hm => by cases hm) (fun _ _ _ _ hm => by cases hm) r11_3 w hgl
      ·
        by_cases q4 : opVal .rem .i64 a0 2147483648 < 64
        ·
          have e0 : 12 ≤ opVal .rem .i64 a0 2147483648 ∧ opVal .rem .i64 a0 2147483648 ≤ 63 := by omega
          have g1 := rng1 a1
          by_cases q5 : opVal .and .i64 a1 3 < 2
          ·
            by_cases q6 : opVal .and .i64 a1 3 < 1
            ·
              have e1 : opVal .and .i64 a1 3 = 0 := by omega
              exact at_ (rw := [(.bin .and .i64 (.var 1) (.lit 3), .lit (.ofNat (nat_lit 0)))]) (iv := [(.bin .rem .i64 (.var 0) (.lit 2147483648), (.ofNat (nat_lit 12)), (.ofNat (nat_lit 63)))]) (cm := []) (fun x y hm => by
                simp only [List.mem_cons, List.not_mem_nil, or_false, Prod.mk.injEq] at hm
                rcases hm with ⟨rfl, rfl⟩
                · exact e1
              ) (iv1 e0) (fun _ _ _ _ hm => by cases hm) r12to63_0 w hgl
            ·
              have e1 : opVal .and .i64 a1 3 = 1 := by omega
              exact at_ (rw := [(.bin .and .i64 (.var 1) (.lit 3), .lit (.ofNat (nat_lit 1)))]) (iv := [(.bin .rem .i64 (.var 0) (.lit 2147483648), (.ofNat (nat_lit 12)), (.ofNat (nat_lit 63)))]) (cm := []) (fun x y hm => by
                simp only [List.mem_cons, List.not_mem_nil, or_false, Prod.mk.injEq] at hm
                rcases hm with ⟨rfl, rfl⟩
                · exact e1
              ) (iv1 e0) (fun _ _ _ _ hm => by cases hm) r12to63_1 w hgl
          ·
            by_cases q6 : opVal .and .i64 a1 3 < 3
            ·
              have e1 : opVal .and .i64 a1 3 = 2 := by omega
              exact at_ (rw := [(.bin .and .i64 (.var 1) (.lit 3), .lit (.ofNat (nat_lit 2)))]) (iv := [(.bin .rem .i64 (.var 0) (.lit 2147483648), (.ofNat (nat_lit 12)), (.ofNat (nat_lit 63)))]) (cm := [(.neq, .bin .add .i64 (.bin .rem .i64 (.var 0) (.lit 2147483648)) (.lit 1), .bin .rem .i64 (.var 0) (.lit 2147483648), true), (.eql, .bin .add .i64 (.bin .rem .i64 (.var 0) (.lit 2147483648)) (.lit 1), .bin .rem .i64 (.var 0) (.lit 2147483648), false)]) (fun x y hm => by
                simp only [List.mem_cons, List.not_mem_nil, or_false, Prod.mk.injEq] at hm
                rcases hm with ⟨rfl, rfl⟩
                · exact e1
              ) (iv1 e0) (fun op x y r hm => by
                simp only [List.mem_cons, List.not_mem_nil, or_false, Prod.mk.injEq] at hm
                rcases hm with ⟨rfl, rfl, rfl, rfl⟩ | ⟨rfl, rfl, rfl, rfl⟩
                · exact plusN a0
                · exact plusE a0
              ) r12to63_2 w hgl
            ·
              have e1 : opVal .and .i64 a1 3 = 3 := by omega
              exact at_ (rw := [(.bin .and .i64 (.var 1) (.lit 3), .lit (.ofNat (nat_lit 3)))]) (iv := [(.bin .rem .i64 (.var 0) (.lit 2147483648), (.ofNat (nat_lit 12)), (.ofNat (nat_lit 63)))]) (cm := []) (fun x y hm => by
                simp only [List.mem_cons, List.not_mem_nil, or_false, Prod.mk.injEq] at hm
                rcases hm with ⟨rfl, rfl⟩
                · exact e1
              ) (iv1 e0) (fun _ _ _ _ hm => by cases hm) r12to63_3 w hgl
        ·
          have e0 : 64 ≤ opVal .rem .i64 a0 2147483648 ∧ opVal .rem .i64 a0 2147483648 ≤ 8191 := by omega
          have g1 := rng1 a1
          by_cases q5 : opVal .and .i64 a1 3 < 2
          ·
            by_cases q6 : opVal .and .i64 a1 3 < 1
            ·
              have e1 : opVal .and .i64 a1 3 = 0 := by omega
              exact at_ (rw := [(.bin .and .i64 (.var 1) (.lit 3), .lit (.ofNat (nat_lit 0)))]) (iv := [(.bin .rem .i64 (.var 0) (.lit 2147483648), (.ofNat (nat_lit 64)), (.ofNat (nat_lit 8191)))]) (cm := []) (fun x y hm => by
                simp only [List.mem_cons, List.not_mem_nil, or_false, Prod.mk.injEq] at hm
                rcases hm with ⟨rfl, rfl⟩
                · exact e1
              ) (iv1 e0) (fun _ _ _ _ hm => by cases hm) r64to8191_0 w hgl
            ·
              have e1 : opVal .and .i64 a1 3 = 1 := by omega
              exact at_ (rw := [(.bin .and .i64 (.var 1) (.lit 3), .lit (.ofNat (nat_lit 1)))]) (iv := [(.bin .rem .i64 (.var 0) (.lit 2147483648), (.ofNat (nat_lit 64)), (.ofNat (nat_lit 8191)))]) (cm := []) (fun x y hm => by
                simp only [List.mem_cons, List.not_mem_nil, or_false, Prod.mk.injEq] at hm
                rcases hm with ⟨rfl, rfl⟩
                · exact e1
              ) (iv1 e0) (fun _ _ _ _ hm => by cases hm) r64to8191_1 w hgl
          ·
            by_cases q6 : opVal .and .i64 a1 3 < 3
            ·
              have e1 : opVal .and .i64 a1 3 = 2 := by omega
              exact at_ (rw := [(.bin .and .i64 (.var 1) (.lit 3), .lit (.ofNat (nat_lit 2)))]) (iv := [(.bin .rem .i64 (.var 0) (.lit 2147483648), (.ofNat (nat_lit 64)), (.ofNat (nat_lit 8191)))]) (cm := [(.neq, .bin .add .i64 (.bin .rem .i64 (.var 0) (.lit 2147483648)) (.lit 1), .bin .rem .i64 (.var 0) (.lit 2147483648), true), (.eql, .bin .add .i64 (.bin .rem .i64 (.var 0) (.lit 2147483648)) (.lit 1), .bin .rem .i64 (.var 0) (.lit 2147483648), false)]) (fun x y hm => by
                simp only [List.mem_cons, List.not_mem_nil, or_false, Prod.mk.injEq] at hm
                rcases hm with ⟨rfl, rfl⟩
                · exact e1
              ) (iv1 e0) (fun op x y r hm => by
                simp only [List.mem_cons, List.not_mem_nil, or_false, Prod.mk.injEq] at hm
                rcases hm with ⟨rfl, rfl, rfl, rfl⟩ | ⟨rfl, rfl, rfl, rfl⟩
                · exact plusN a0
                · exact plusE a0
              ) r64to8191_2 w hgl
            ·
              have e1 : opVal .and .i64 a1 3 = 3 := by omega
              exact at_ (rw := [(.bin .and .i64 (.var 1) (.lit 3), .lit (.ofNat (nat_lit 3)))]) (iv := [(.bin .rem .i64 (.var 0) (.lit 2147483648), (.ofNat (nat_lit 64)), (.ofNat (nat_lit 8191)))]) (cm := []) (fun x y hm => by
                simp only [List.mem_cons, List.not_mem_nil, or_false, Prod.mk.injEq] at hm
                rcases hm with ⟨rfl, rfl⟩
                · exact e1
              ) (iv1 e0) (fun _ _ _ _ hm => by cases hm) r64to8191_3 w hgl
    ·
      by_cases q3 : opVal .rem .i64 a0 2147483648 < 1048576
      ·
        have e0 : 8192 ≤ opVal .rem .i64 a0 2147483648 ∧ opVal .rem .i64 a0 2147483648 ≤ 1048575 := by omega
        have g1 := rng1 a1
        by_cases q4 : opVal .and .i64 a1 3 < 2
        ·
          by_cases q5 : opVal .and .i64 a1 3 < 1
          ·
            have e1 : opVal .and .i64 a1 3 = 0 := by omega
            exact at_ (rw := [(.bin .and .i64 (.var 1) (.lit 3), .lit (.ofNat (nat_lit 0)))]) (iv := [(.bin .rem .i64 (.var 0) (.lit 2147483648), (.ofNat (nat_lit 8192)), (.ofNat (nat_lit 1048575)))]) (cm := []) (fun x y hm => by
              simp only [List.mem_cons, List.not_mem_nil, or_false, Prod.mk.injEq] at hm
              rcases hm with ⟨rfl, rfl⟩
              · exact e1
            ) (iv1 e0) (fun _ _ _ _ hm => by cases hm) r8192to1048575_0 w hgl
          ·
            have e1 : opVal .and .i64 a1 3 = 1 := by omega
            exact at_ (rw := [(.bin .and .i64 (.var 1) (.lit 3), .lit (.ofNat (nat_lit 1)))]) (iv := [(.bin .rem .i64 (.var 0) (.lit 2147483648), (.ofNat (nat_lit 8192)), (.ofNat (nat_lit 1048575)))]) (cm := []) (fun x y hm => by
              simp only [List.mem_cons, List.not_mem_nil, or_false, Prod.mk.injEq] at hm
              rcases hm with ⟨rfl, rfl⟩
              · exact e1
            ) (iv1 e0) (fun _ _ _ _ hm => by cases hm) r8192to1048575_1 w hgl
        ·
          by_cases q5 : opVal .and .i64 a1 3 < 3
          ·
            have e1 : opVal .and .i64 a1 3 = 2 := by omega
            exact at_ (rw := [(.bin .and .i64 (.var 1) (.lit 3), .lit (.ofNat (nat_lit 2)))]) (iv := [(.bin .rem .i64 (.var 0) (.lit 2147483648), (.ofNat (nat_lit 8192)), (.ofNat (nat_lit 1048575)))]) (cm := [(.neq, .bin .add .i64 (.bin .rem .i64 (.var 0) (.lit 2147483648)) (.lit 1), .bin .rem .i64 (.var 0) (.lit 2147483648), true), (.eql, .bin .add .i64 (.bin .rem .i64 (.var 0) (.lit 2147483648)) (.lit 1), .bin .rem .i64 (.var 0) (.lit 2147483648), false)]) (fun x y hm => by
              simp only [List.mem_cons, List.not_mem_nil, or_false, Prod.mk.injEq] at hm
              rcases hm with ⟨rfl, rfl⟩
              · exact e1
            ) (iv1 e0) (fun op x y r hm => by
              simp only [List.mem_cons, List.not_mem_nil, or_false, Prod.mk.injEq] at hm
              rcases hm with ⟨rfl, rfl, rfl, rfl⟩ | ⟨rfl, rfl, rfl, rfl⟩
              · exact plusN a0
              · exact plusE a0
            ) r8192to1048575_2 w hgl
          ·
            have e1 : opVal .and .i64 a1 3 = 3 := by omega
            exact at_ (rw := [(.bin .and .i64 (.var 1) (.lit 3), .lit (.ofNat (nat_lit 3)))]) (iv := [(.bin .rem .i64 (.var 0) (.lit 2147483648), (.ofNat (nat_lit 8192)), (.ofNat (nat_lit 1048575)))]) (cm := []) (fun x y hm => by
              simp only [List.mem_cons, List.not_mem_nil, or_false, Prod.mk.injEq] at hm
              rcases hm with ⟨rfl, rfl⟩
              · exact e1
            ) (iv1 e0) (fun _ _ _ _ hm => by cases hm) r8192to1048575_3 w hgl
      ·
        by_cases q4 : opVal .rem .i64 a0 2147483648 < 134217728
        ·
          have e0 : 1048576 ≤ opVal .rem .i64 a0 2147483648 ∧ opVal .rem .i64 a0 2147483648 ≤ 134217727 := by omega
          have g1 := rng1 a1
          by_cases q5 : opVal .and .i64 a1 3 < 2
          ·
            by_cases q6 : opVal .and .i64 a1 3 < 1
            ·
              have e1 : opVal .and .i64 a1 3 = 0 := by omega
              exact at_ (rw := [(.bin .and .i64 (.var 1) (.lit 3), .lit (.ofNat (nat_lit 0)))]) (iv := [(.bin .rem .i64 (.var 0) (.lit 2147483648), (.ofNat (nat_lit 1048576)), (.ofNat (nat_lit 134217727)))]) (cm := []) (fun x y hm => by
                simp only [List.mem_cons, List.not_mem_nil, or_false, Prod.mk.injEq] at hm
                rcases hm with ⟨rfl, rfl⟩
                · exact e1
              ) (iv1 e0) (fun _ _ _ _ hm => by cases hm) r1048576to134217727_0 w hgl
            ·
              have e1 : opVal .and .i64 a1 3 = 1 := by omega
              exact at_ (rw := [(.bin .and .i64 (.var 1) (.lit 3), .lit (.ofNat (nat_lit 1)))]) (iv := [(.bin .rem .i64 (.var 0) (.lit 2147483648), (.ofNat (nat_lit 1048576)), (.ofNat (nat_lit 134217727)))]) (cm := []) (fun x y hm => by
                simp only [List.mem_cons, List.not_mem_nil, or_false, Prod.mk.injEq] at hm
                rcases hm with ⟨rfl, rfl⟩
                · exact e1
              ) (iv1 e0) (fun _ _ _ _ hm => by cases hm) r1048576to134217727_1 w hgl
          ·
            by_cases q6 : opVal .and .i64 a1 3 < 3
            ·
              have e1 : opVal .and .i64 a1 3 = 2 := by omega
              exact at_ (rw := [(.bin .and .i64 (.var 1) (.lit 3), .lit (.ofNat (nat_lit 2)))]) (iv := [(.bin .rem .i64 (.var 0) (.lit 2147483648), (.ofNat (nat_lit 1048576)), (.ofNat (nat_lit 134217727)))]) (cm := [(.neq, .bin .add .i64 (.bin .rem .i64 (.var 0) (.lit 2147483648)) (.lit 1), .bin .rem .i64 (.var 0) (.lit 2147483648), true), (.eql, .bin .add .i64 (.bin .rem .i64 (.var 0) (.lit 2147483648)) (.lit 1), .bin .rem .i64 (.var 0) (.lit 2147483648), false)]) (fun x y hm => by
                simp only [List.mem_cons, List.not_mem_nil, or_false, Prod.mk.injEq] at hm
                rcases hm with ⟨rfl, rfl⟩
                · exact e1
              ) (iv1 e0) (fun op x y r hm => by
                simp only [List.mem_cons, List.not_mem_nil, or_false, Prod.mk.injEq] at hm
                rcases hm with ⟨rfl, rfl, rfl, rfl⟩ | ⟨rfl, rfl, rfl, rfl⟩
                · exact plusN a0
                · exact plusE a0
              ) r1048576to134217727_2 w hgl
            ·
              have e1 : opVal .and .i64 a1 3 = 3 := by omega
              exact at_ (rw := [(.bin .and .i64 (.var 1) (.lit 3), .lit (.ofNat (nat_lit 3)))]) (iv := [(.bin .rem .i64 (.var 0) (.lit 2147483648), (.ofNat (nat_lit 1048576)), (.ofNat (nat_lit 134217727)))]) (cm := []) (fun x y hm => by
                simp only [List.mem_cons, List.not_mem_nil, or_false, Prod.mk.injEq] at hm
                rcases hm with ⟨rfl, rfl⟩
                · exact e1
              ) (iv1 e0) (fun _ _ _ _ hm => by cases hm) r1048576to134217727_3 w hgl
        ·
          have e0 : 134217728 ≤ opVal .rem .i64 a0 2147483648 ∧ opVal .rem .i64 a0 2147483648 ≤ 2147483647 := by omega
          have g1 := rng1 a1
          by_cases q5 : opVal .and .i64 a1 3 < 2
          ·
            by_cases q6 : opVal .and .i64 a1 3 < 1
            ·
              have e1 : opVal .and .i64 a1 3 = 0 := by omega
              exact at_ (rw := [(.bin .and .i64 (.var 1) (.lit 3), .lit (.ofNat (nat_lit 0)))]) (iv := [(.bin .rem .i64 (.var 0) (.lit 2147483648), (.ofNat (nat_lit 134217728)), (.ofNat (nat_lit 2147483647)))]) (cm := []) (fun x y hm => by
                simp only [List.mem_cons, List.not_mem_nil, or_false, Prod.mk.injEq] at hm
                rcases hm with ⟨rfl, rfl⟩
                · exact e1
              ) (iv1 e0) (fun _ _ _ _ hm => by cases hm) r134217728to2147483647_0 w hgl
            ·
              have e1 : opVal .and .i64 a1 3 = 1 := by omega
              exact at_ (rw := [(.bin .and .i64 (.var 1) (.lit 3), .lit (.ofNat (nat_lit 1)))]) (iv := [(.bin .rem .i64 (.var 0) (.lit 2147483648), (.ofNat (nat_lit 134217728)), (.ofNat (nat_lit 2147483647)))]) (cm := []) (fun x y hm => by
                simp only [List.mem_cons, List.not_mem_nil, or_false, Prod.mk.injEq] at hm
                rcases hm with ⟨rfl, rfl⟩
                · exact e1
              ) (iv1 e0) (fun _ _ _ _ hm => by cases hm) r134217728to2147483647_1 w hgl
          ·
            by_cases q6 : opVal .and .i64 a1 3 < 3
            ·
              have e1 : opVal .and .i64 a1 3 = 2 := by omega
              exact at_ (rw := [(.bin .and .i64 (.var 1) (.lit 3), .lit (.ofNat (nat_lit 2)))]) (iv := [(.bin .rem .i64 (.var 0) (.lit 2147483648), (.ofNat (nat_lit 134217728)), (.ofNat (nat_lit 2147483647)))]) (cm := [(.neq, .bin .add .i64 (.bin .rem .i64 (.var 0) (.lit 2147483648)) (.lit 1), .bin .rem .i64 (.var 0) (.lit 2147483648), true), (.eql, .bin .add .i64 (.bin .rem .i64 (.var 0) (.lit 2147483648)) (.lit 1), .bin .rem .i64 (.var 0) (.lit 2147483648), false)]) (fun x y hm => by
                simp only [List.mem_cons, List.not_mem_nil, or_false, Prod.mk.injEq] at hm
                rcases hm with ⟨rfl, rfl⟩
                · exact e1
              ) (iv1 e0) (fun op x y r hm => by
                simp only [List.mem_cons, List.not_mem_nil, or_false, Prod.mk.injEq] at hm
                rcases hm with ⟨rfl, rfl, rfl, rfl⟩ | ⟨rfl, rfl, rfl, rfl⟩
                · exact plusN a0
                · exact plusE a0
              ) r134217728to2147483647_2 w hgl
            ·
              have e1 : opVal .and .i64 a1 3 = 3 := by omega
              exact at_ (rw := [(.bin .and .i64 (.var 1) (.lit 3), .lit (.ofNat (nat_lit 3)))]) (iv := [(.bin .rem .i64 (.var 0) (.lit 2147483648), (.ofNat (nat_lit 134217728)), (.ofNat (nat_lit 2147483647)))]) (cm := []) (fun x y hm => by
                simp only [List.mem_cons, List.not_mem_nil, or_false, Prod.mk.injEq] at hm
                rcases hm with ⟨rfl, rfl⟩
                · exact e1
              ) (iv1 e0) (fun _ _ _ _ hm => by cases hm) r134217728to2147483647_3 w hgl

/-! ### THE ROW's STEP: WRITTEN OUT: LEAVE IT -/
set_option maxRecDepth 100000 in
theorem lifted (os : Os) (started : os.Started) (H : Type) (enc : TypeId × Value → H) :
    ReturnsInHanded {} Tryz.checked os 14 .any (fun w args => (Rows.replayOutsSpec.pre enc Tryz.prog Tryz.f14 Rows.replayOutsRow.domain false w args ∧ laidMet Tryz.prog Rows.replayOutsRow.laid w) ∧ sizedMet enc Tryz.prog Tryz.f14 (OpenSpec.ofChange Rows.replayOutsSpec) false w args) (Rows.replayOutsSpec.post enc Tryz.prog Tryz.f14 false true false false) := by
  refine returnsInHanded_of_change_and (C := Tryz.checked) (X := fun w _ => laidMet Tryz.prog Rows.replayOutsRow.laid w) (fun _ _ _ hh h => h.of_heap hh) own started (by kernel_rfl) Tryz.func14
    (ChangeSpec.witness_shaped (enc := enc) (C := Tryz.checked) (os := os) (X := fun w _ => laidMet Tryz.prog Rows.replayOutsRow.laid w) false (laidWorld os #[.int .i64 0, .int .i64 0]) #[.int .i64 0, .int .i64 0] 8 rfl (World.shaped_of_RefB (by kernel_rfl) (by kernel_rfl)) (by kernel_rfl) (by kernel_rfl) (by kernel_rfl) (laid_met_replayOuts os _ _)) ?_
  intro W base args ds gs before hval0 hW hcnd _ hL _
  have hval : ∀ (j : Nat) t v, Tryz.f14.params[j]? = some t → args[j]? = some v → Value.okWide Tryz.prog W .any base t v := hval0
  have hW' := hW
  obtain ⟨p, q, hA0, hV, rfl, hfz, hnd⟩ := hW
  have hA : DataW.TrodAll enc Tryz.prog W 0 (fun _ => true) true Tryz.f14.params.toList args.toList ds p := hA0
  rw [Tryz.params14] at hA hval
  obtain ⟨v0, vs0, d0, ds0, p0, q0, hargs, rfl, rfl, h0, r0⟩ := trodAll_cons hA
  obtain ⟨v1, vs1, d1, ds1, p1, q1, rfl, rfl, rfl, h1, r1⟩ := trodAll_cons r0
  obtain ⟨rfl, rfl, rfl⟩ := trodAll_nil r1
  obtain rfl : args = #[v0, v1] := by cases args; simp_all
  obtain ⟨rfl, rfl⟩ := trodVars_none hV
  obtain ⟨a0, rfl, rfl, rfl, w0⟩ := open_int Tryz.underlying3 (hval 0 3 v0 rfl rfl) h0
  obtain ⟨a1, rfl, rfl, rfl, w1⟩ := open_int Tryz.underlying3 (hval 1 3 v1 rfl rfl) h1
  clear hA0 hval0
  simp only [List.append_nil] at hW'
  refine (walk a0 a1 w0 w1 W (gl_of_laid_replayOuts hL)).mono fun e W' ⟨he, hg⟩ => ?_
  subst he
  exact ⟨_, rfl, post_of_below (pa := []) (pv := []) hW' (fun _ _ _ => (trodAll_cons_mk (shut_bool Tryz.underlying4 _) trodAll_mk0)) (fun sp _ => (trodAll_cons_mk (shut_int Tryz.underlying3 w0) (trodAll_cons_mk (shut_int Tryz.underlying3 w1) trodAll_mk0))) (fun _ _ => rfl) rfl
    hg (ok_one (by kernel_rfl) rfl (okWide_bool_mk Tryz.underlying4 _))⟩

theorem over : Rows.replayOutsRow.holds Tryz.pinned (OpenSpec.ofChange Rows.replayOutsSpec) :=
  OpenClaim.holds_of_wide 14 Tryz.f14 rfl rfl rfl rfl rfl rfl rfl ⟨rfl, rfl, rfl, rfl, rfl⟩ rfl rfl rfl rfl rfl (by kernel_rfl) Tryz.func14 joined
    (of_decide_eq_true (by kernel_rfl)) (by unfold Func.isWrapper; first | (rw [if_pos (by decide +kernel)]; kernel_rfl) | (rw [if_neg (by decide +kernel)]; exact ⟨rfl, rfl⟩))
    (fun os started H enc _ => lifted os started H enc)

/-- ████ THE STATEMENT ████ -/
theorem proved : Rows.ReplayOutsCardSaid :=
  Claim7.holds_tied_plain_at .later [] [.listed, .data] true (true, "bd2ea72fb570be8efd04e8da19323e007029b4ef2c57d9fc4236a2adb4d4b959") true
    over (fun _ h => by cases h) g0 (fun _ h => by cases h) replayOuts_row_tie rfl ⟨rfl, rfl⟩ g1 rfl
    (fun f fn hf hfn => by
      obtain rfl : f = 14 := Option.some.inj (g2.symm.trans hf) |>.symm
      obtain rfl : fn = Tryz.f14 := (Option.some.inj (Tryz.func14.symm.trans hfn)).symm
      exact ⟨g3, fun j t ht => by
        rw [Tryz.params14] at ht
        have hm : t ∈ (Tryz.f14.params : Array TypeId).toList := by
          rw [Tryz.params14]
          exact Array.mem_toList_iff.2 (Array.mem_of_getElem? ht)
        have := List.all_eq_true.1 g4 t hm
        have h2 : Tryz.prog.wantsStandIn t = false := by simpa using this
        exact h2⟩)
    g5
#print axioms proved
end Go.Proofs.YtfedjkcigdgcoaaGreatDoor.replayOuts
