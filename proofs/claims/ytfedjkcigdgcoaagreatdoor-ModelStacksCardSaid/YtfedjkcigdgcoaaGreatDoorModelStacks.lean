/- gneiss/gneisslaw21.ModelStacks answers true at every input, and leaves its arguments as they were. No conditions. -/
import Derived.Test.YtfedjkcigdgcoaaGreatDoorRows
import Derived.WalkKit
import Derived.ProofKit
import Derived.OpenShut
import Derived.Below
import Derived.ChangeSame
import Derived.Test.YtfedjkcigdgcoaaGreatDoorModelStacksR0
import Derived.Test.YtfedjkcigdgcoaaGreatDoorModelStacksR1
import Derived.Test.YtfedjkcigdgcoaaGreatDoorModelStacksR2
import Derived.Test.YtfedjkcigdgcoaaGreatDoorModelStacksR3
import Derived.Test.YtfedjkcigdgcoaaGreatDoorModelStacksR4
import Derived.Test.YtfedjkcigdgcoaaGreatDoorModelStacksR5
import Derived.Test.YtfedjkcigdgcoaaGreatDoorModelStacksR6
import Derived.Test.YtfedjkcigdgcoaaGreatDoorModelStacksR7
import Derived.Test.YtfedjkcigdgcoaaGreatDoorModelStacksR8
import Derived.Test.YtfedjkcigdgcoaaGreatDoorLaid
import Derived.Test.YtfedjkcigdgcoaaGreatDoorTie
import Derived.Test.YtfedjkcigdgcoaaGreatDoorModelStacksJ
import Derived.Test.YtfedjkcigdgcoaaGreatDoorCards
import Derived.SevenTiedAt
namespace Go.Proofs.YtfedjkcigdgcoaaGreatDoor.modelStacks
open Go.Ai Go.ChangeShapes Go.WideShapes Go.ChangeAt Go.RowKit
set_option linter.unusedVariables false

theorem own : ownKnob Tryz.prog.godebug = none := by kernel_rfl

section
variable {H : Type} {enc : TypeId × Value → H} {P : Program}
theorem post_of_below {f : Func} {s : ChangeSpec} {apart fresh handsOn again : Bool} {W W' : World} {args : Array Value} {v : Value} {ds gs : List (DataW H)} {before pa pv : List MemPlace}
    (hW : DataW.Whole enc P f.params.toList s.vars apart W args.toList ds gs before)
    (hres : ∀ (b : Nat) (sp : Nat → Bool) (hd : Bool), DataW.TrodAll enc P W' b sp hd f.resultTypes.toList (v.resultList f.resultTypes.size) (s.fn H (ds ++ gs)).results [])
    (hargs : ∀ sp : Nat → Bool, (∀ p ∈ before, sp p.block = true) → DataW.TrodAll enc P W' 0 sp true f.params.toList args.toList (s.fn H (ds ++ gs)).args pa)
    (hvars : ∀ sp : Nat → Bool, (∀ p ∈ before, sp p.block = true) → DataW.TrodVars enc P W' sp s.vars (s.fn H (ds ++ gs)).vars pv)
    (hps : before = pa ++ pv) (hb : Below W.heap.size W W')
    (hok : ∀ (j : Nat) (t : TypeId) (r : Value), f.resultTypes[j]? = some t → (v.resultList f.resultTypes.size)[j]? = some r → Value.okWide P W' .any 0 t r) :
    s.post enc P f apart fresh handsOn again W args v W' := by
  have hlt : ∀ p ∈ before, p.block < W.heap.size := fun p hp => hW.lt p hp
  have hold : ∀ p ∈ before, (fun b => decide (b < W.heap.size)) p.block = true := fun p hp => by simpa using hlt p hp
  refine ⟨ds, gs, before, [], pa, pv, hW, hres _ _ _, hargs _ hold, hvars _ hold, World.keptBut_mono (fun p hp => ⟨hp, ?_⟩) (hb.frame (· ∈ before)), fun _ => ?_⟩
  · rw [hps, List.mem_append] at hp
    exact Or.inr hp
  · obtain ⟨_, _, _, _, _, hz, hn⟩ := hW
    refine ⟨hok, _, _, ([] ++ pa) ++ pv, ⟨[] ++ pa, pv, trodAll_append (hargs _ (fun _ _ => rfl)) (hres _ _ _), hvars _ (fun _ _ => rfl), rfl, ?_, ?_⟩, ?_⟩
    · intro b off hp
      have hin : MemPlace.cell b off ∈ before := by rw [hps]; simpa using hp
      rw [hb.frozen (hlt _ hin)]
      exact hz b off hin
    · intro ha
      have := hn ha
      rw [hps] at this
      simpa using this
    · intro p hp _
      rw [hps]
      simpa using hp
end
/-! ### the walk: by the abstract machine -/
theorem rng0 (a : Int) : -2147483648 ≤ IntKind.wrap .i32 a ∧ IntKind.wrap .i32 a ≤ 2147483647 := by
  rw [IntKind.wrap_i32]
  omega
theorem rng1 (a : Int) : -2147483648 ≤ IntKind.wrap .i32 a ∧ IntKind.wrap .i32 a ≤ 2147483647 := by
  rw [IntKind.wrap_i32]
  omega
theorem at_ {a0 : Int} {a1 : Int}  {rw : List (SI × SI)} {iv : List (SI × Int × Int)} (hr : ∀ x y, (x, y) ∈ rw → x.ev (fun i => if i = 0 then a0 else if i = 1 then a1 else 0) = y.ev (fun i => if i = 0 then a0 else if i = 1 then a1 else 0)) (hi : ∀ x lo hi, (x, lo, hi) ∈ iv → lo ≤ x.ev (fun i => if i = 0 then a0 else if i = 1 then a1 else 0) ∧ x.ev (fun i => if i = 0 then a0 else if i = 1 then a1 else 0) ≤ hi) (r : yes (run rw iv) = true) (w : World) (hgl : GlOk gl w) : Calls Tryz.prog 4 #[.int .i64 a0, .int .i64 a1] w fun e w' => e = .returned (.bool true) ∧ Below w.heap.size w w' :=
  haveI : GlOk (⟨rw, [], iv, fun _ _ _ => none, gl⟩ : Cf).gl w := hgl
  soundC comp.mixed comp.TOk (over := (fun c => overC 19 (overF 20 (Go.Proofs.YtfedjkcigdgcoaaGreatDoor.fact.ruleR rw) c))) (cf := ⟨rw, [], iv, fun _ _ _ => none, gl⟩) (σ := fun i => if i = 0 then a0 else if i = 1 then a1 else 0) (xs := [.int .i64 a0, .int .i64 a1]) (fun _ h => overC_ok awakes (overF_ok (Go.Proofs.YtfedjkcigdgcoaaGreatDoor.fact.okR ⟨rw, [], iv, fun _ _ _ => none, gl⟩) h))
    ⟨hr, fun _ _ _ _ hm => (by cases hm), hi, fun _ _ _ _ hm => (by cases hm)⟩
    (.cons (.int .i64 (.var 0)) (.cons (.int .i64 (.var 1)) .nil)) r
theorem iv2 {σ : Nat → Int} {x y : SI} {a b c d : Int} (h : a ≤ x.ev σ ∧ x.ev σ ≤ b) (k : c ≤ y.ev σ ∧ y.ev σ ≤ d) : ∀ u lo hi, (u, lo, hi) ∈ [(x, a, b), (y, c, d)] → lo ≤ u.ev σ ∧ u.ev σ ≤ hi := by
  intro u lo hi hm
  simp only [List.mem_cons, List.not_mem_nil, or_false, Prod.mk.injEq] at hm
  rcases hm with ⟨rfl, rfl, rfl⟩ | ⟨rfl, rfl, rfl⟩
  · exact h
  · exact k
theorem iv1 {σ : Nat → Int} {x : SI} {a b : Int} (h : a ≤ x.ev σ ∧ x.ev σ ≤ b) : ∀ u lo hi, (u, lo, hi) ∈ [(x, a, b)] → lo ≤ u.ev σ ∧ u.ev σ ≤ hi := by
  intro u lo hi hm
  simp only [List.mem_cons, List.not_mem_nil, or_false, Prod.mk.injEq] at hm
  obtain ⟨rfl, rfl, rfl⟩ := hm
  exact h
theorem walk (a0 : Int) (a1 : Int) (w0 : (Lit.int .i64 a0).wf = true) (w1 : (Lit.int .i64 a1).wf = true) (w : World) :
    Calls Tryz.prog 4 #[.int .i64 a0, .int .i64 a1] w fun e w' => e = .returned (.bool true) ∧ Below w.heap.size w w' := by
  have hgl : GlOk gl w := GlOk.none (fun _ => rfl)
  have g0 := rng0 a0
  by_cases q1 : IntKind.wrap .i32 a0 < 11
  ·
    by_cases q2 : IntKind.wrap .i32 a0 < (-8192)
    ·
      by_cases q3 : IntKind.wrap .i32 a0 < (-134217728)
      ·
        have e0 : (-2147483648) ≤ IntKind.wrap .i32 a0 ∧ IntKind.wrap .i32 a0 ≤ (-134217729) := by omega
        have g1 := rng1 a1
        by_cases q4 : IntKind.wrap .i32 a1 < 11
        ·
          by_cases q5 : IntKind.wrap .i32 a1 < (-8192)
          ·
            by_cases q6 : IntKind.wrap .i32 a1 < (-134217728)
            ·
              have e1 : (-2147483648) ≤ IntKind.wrap .i32 a1 ∧ IntKind.wrap .i32 a1 ≤ (-134217729) := by omega
              exact at_ (rw := []) (iv := [(.conv .i32 (.var 0), (.negSucc (nat_lit 2147483647)), (.negSucc (nat_lit 134217728))), (.conv .i32 (.var 1), (.negSucc (nat_lit 2147483647)), (.negSucc (nat_lit 134217728)))]) (fun _ _ hm => by cases hm) (iv2 e0 e1) rm2147483648tom134217729_m2147483648tom134217729 w hgl
            ·
              by_cases q7 : IntKind.wrap .i32 a1 < (-1048576)
              ·
                have e1 : (-134217728) ≤ IntKind.wrap .i32 a1 ∧ IntKind.wrap .i32 a1 ≤ (-1048577) := by omega
                exact at_ (rw := []) (iv := [(.conv .i32 (.var 0), (.negSucc (nat_lit 2147483647)), (.negSucc (nat_lit 134217728))), (.conv .i32 (.var 1), (.negSucc (nat_lit 134217727)), (.negSucc (nat_lit 1048576)))]) (fun _ _ hm => by cases hm) (iv2 e0 e1) rm2147483648tom134217729_m134217728tom1048577 w hgl
              ·
                have e1 : (-1048576) ≤ IntKind.wrap .i32 a1 ∧ IntKind.wrap .i32 a1 ≤ (-8193) := by omega
                exact at_ (rw := []) (iv := [(.conv .i32 (.var 0), (.negSucc (nat_lit 2147483647)), (.negSucc (nat_lit 134217728))), (.conv .i32 (.var 1), (.negSucc (nat_lit 1048575)), (.negSucc (nat_lit 8192)))]) (fun _ _ hm => by cases hm) (iv2 e0 e1) rm2147483648tom134217729_m1048576tom8193 w hgl
          ·
            by_cases q6 : IntKind.wrap .i32 a1 < (-64)
            ·
              have e1 : (-8192) ≤ IntKind.wrap .i32 a1 ∧ IntKind.wrap .i32 a1 ≤ (-65) := by omega
              exact at_ (rw := []) (iv := [(.conv .i32 (.var 0), (.negSucc (nat_lit 2147483647)), (.negSucc (nat_lit 134217728))), (.conv .i32 (.var 1), (.negSucc (nat_lit 8191)), (.negSucc (nat_lit 64)))]) (fun _ _ hm => by cases hm) (iv2 e0 e1) rm2147483648tom134217729_m8192tom65 w hgl
            ·
              by_cases q7 : IntKind.wrap .i32 a1 < 0
              ·
                have e1 : (-64) ≤ IntKind.wrap .i32 a1 ∧ IntKind.wrap .i32 a1 ≤ (-1) := by omega
                exact at_ (rw := []) (iv := [(.conv .i32 (.var 0), (.negSucc (nat_lit 2147483647)), (.negSucc (nat_lit 134217728))), (.conv .i32 (.var 1), (.negSucc (nat_lit 63)), (.negSucc (nat_lit 0)))]) (fun _ _ hm => by cases hm) (iv2 e0 e1) rm2147483648tom134217729_m64tom1 w hgl
              ·
                have e1 : 0 ≤ IntKind.wrap .i32 a1 ∧ IntKind.wrap .i32 a1 ≤ 10 := by omega
                exact at_ (rw := []) (iv := [(.conv .i32 (.var 0), (.negSucc (nat_lit 2147483647)), (.negSucc (nat_lit 134217728))), (.conv .i32 (.var 1), (.ofNat (nat_lit 0)), (.ofNat (nat_lit 10)))]) (fun _ _ hm => by cases hm) (iv2 e0 e1) rm2147483648tom134217729_0to10 w hgl
        ·
          by_cases q5 : IntKind.wrap .i32 a1 < 8192
          ·
            by_cases q6 : IntKind.wrap .i32 a1 < 12
            ·
              have e1 : IntKind.wrap .i32 a1 = 11 := by omega
              exact at_ (rw := [(.conv .i32 (.var 1), .lit (.ofNat (nat_lit 11)))]) (iv := [(.conv .i32 (.var 0), (.negSucc (nat_lit 2147483647)), (.negSucc (nat_lit 134217728)))]) (fun x y hm => by
                simp only [List.mem_cons, List.not_mem_nil, or_false, Prod.mk.injEq] at hm
                rcases hm with ⟨rfl, rfl⟩
                · exact e1
              ) (iv1 e0) rm2147483648tom134217729_11 w hgl
            ·
              by_cases q7 : IntKind.wrap .i32 a1 < 64
              ·
                have e1 : 12 ≤ IntKind.wrap .i32 a1 ∧ IntKind.wrap .i32 a1 ≤ 63 := by omega
                exact at_ (rw := []) (iv := [(.conv .i32 (.var 0), (.negSucc (nat_lit 2147483647)), (.negSucc (nat_lit 134217728))), (.conv .i32 (.var 1), (.ofNat (nat_lit 12)), (.ofNat (nat_lit 63)))]) (fun _ _ hm => by cases hm) (iv2 e0 e1) rm2147483648tom134217729_12to63 w hgl
              ·
                have e1 : 64 ≤ IntKind.wrap .i32 a1 ∧ IntKind.wrap .i32 a1 ≤ 8191 := by omega
                exact at_ (rw := []) (iv := [(.conv .i32 (.var 0), (.negSucc (nat_lit 2147483647)), (.negSucc (nat_lit 134217728))), (.conv .i32 (.var 1), (.ofNat (nat_lit 64)), (.ofNat (nat_lit 8191)))]) (fun _ _ hm => by cases hm) (iv2 e0 e1) rm2147483648tom134217729_64to8191 w hgl
          ·
            by_cases q6 : IntKind.wrap .i32 a1 < 1048576
            ·
              have e1 : 8192 ≤ IntKind.wrap .i32 a1 ∧ IntKind.wrap .i32 a1 ≤ 1048575 := by omega
              exact at_ (rw := []) (iv := [(.conv .i32 (.var 0), (.negSucc (nat_lit 2147483647)), (.negSucc (nat_lit 134217728))), (.conv .i32 (.var 1), (.ofNat (nat_lit 8192)), (.ofNat (nat_lit 1048575)))]) (fun _ _ hm => by cases hm) (iv2 e0 e1) rm2147483648tom134217729_8192to1048575 w hgl
            ·
              by_cases q7 : IntKind.wrap .i32 a1 < 134217728
              ·
                have e1 : 1048576 ≤ IntKind.wrap .i32 a1 ∧ IntKind.wrap .i32 a1 ≤ 134217727 := by omega
                exact at_ (rw := []) (iv := [(.conv .i32 (.var 0), (.negSucc (nat_lit 2147483647)), (.negSucc (nat_lit 134217728))), (.conv .i32 (.var 1), (.ofNat (nat_lit 1048576)), (.ofNat (nat_lit 134217727)))]) (fun _ _ hm => by cases hm) (iv2 e0 e1) rm2147483648tom134217729_1048576to134217727 w hgl
              ·
                have e1 : 134217728 ≤ IntKind.wrap .i32 a1 ∧ IntKind.wrap .i32 a1 ≤ 2147483647 := by omega
                exact at_ (rw := []) (iv := [(.conv .i32 (.var 0), (.negSucc (nat_lit 2147483647)), (.negSucc (nat_lit 134217728))), (.conv .i32 (.var 1), (.ofNat (nat_lit 134217728)), (.ofNat (nat_lit 2147483647)))]) (fun _ _ hm => by cases hm) (iv2 e0 e1) rm2147483648tom134217729_134217728to2147483647 w hgl
      ·
        by_cases q4 : IntKind.wrap .i32 a0 < (-1048576)
        ·
          have e0 : (-134217728) ≤ IntKind.wrap .i32 a0 ∧ IntKind.wrap .i32 a0 ≤ (-1048577) := by omega
          have g1 := rng1 a1
          by_cases q5 : IntKind.wrap .i32 a1 < 11
          ·
            by_cases q6 : IntKind.wrap .i32 a1 < (-8192)
            ·
              by_cases q7 : IntKind.wrap .i32 a1 < (-134217728)
              ·
                have e1 : (-2147483648) ≤ IntKind.wrap .i32 a1 ∧ IntKind.wrap .i32 a1 ≤ (-134217729) := by omega
                exact at_ (rw := []) (iv := [(.conv .i32 (.var 0), (.negSucc (nat_lit 134217727)), (.negSucc (nat_lit 1048576))), (.conv .i32 (.var 1), (.negSucc (nat_lit 2147483647)), (.negSucc (nat_lit 134217728)))]) (fun _ _ hm => by cases hm) (iv2 e0 e1) rm134217728tom1048577_m2147483648tom134217729 w hgl
              ·
                by_cases q8 : IntKind.wrap .i32 a1 < (-1048576)
                ·
                  have e1 : (-134217728) ≤ IntKind.wrap .i32 a1 ∧ IntKind.wrap .i32 a1 ≤ (-1048577) := by omega
                  exact at_ (rw := []) (iv := [(.conv .i32 (.var 0), (.negSucc (nat_lit 134217727)), (.negSucc (nat_lit 1048576))), (.conv .i32 (.var 1), (.negSucc (nat_lit 134217727)), (.negSucc (nat_lit 1048576)))]) (fun _ _ hm => by cases hm) (iv2 e0 e1) rm134217728tom1048577_m134217728tom1048577 w hgl
                ·
                  have e1 : (-1048576) ≤ IntKind.wrap .i32 a1 ∧ IntKind.wrap .i32 a1 ≤ (-8193) := by omega
                  exact at_ (rw := []) (iv := [(.conv .i32 (.var 0), (.negSucc (nat_lit 134217727)), (.negSucc (nat_lit 1048576))), (.conv .i32 (.var 1), (.negSucc (nat_lit 1048575)), (.negSucc (nat_lit 8192)))]) (fun _ _ hm => by cases hm) (iv2 e0 e1) rm134217728tom1048577_m1048576tom8193 w hgl
            ·
              by_cases q7 : IntKind.wrap .i32 a1 < (-64)
              ·
                have e1 : (-8192) ≤ IntKind.wrap .i32 a1 ∧ IntKind.wrap .i32 a1 ≤ (-65) := by omega
                exact at_ (rw := []) (iv := [(.conv .i32 (.var 0), (.negSucc (nat_lit 134217727)), (.negSucc (nat_lit 1048576))), (.conv .i32 (.var 1), (.negSucc (nat_lit 8191)), (.negSucc (nat_lit 64)))]) (fun _ _ hm => by cases hm) (iv2 e0 e1) rm134217728tom1048577_m8192tom65 w hgl
              ·
                by_cases q8 : IntKind.wrap .i32 a1 < 0
                ·
                  have e1 : (-64) ≤ IntKind.wrap .i32 a1 ∧ IntKind.wrap .i32 a1 ≤ (-1) := by omega
                  exact at_ (rw := []) (iv := [(.conv .i32 (.var 0), (.negSucc (nat_lit 134217727)), (.negSucc (nat_lit 1048576))), (.conv .i32 (.var 1), (.negSucc (nat_lit 63)), (.negSucc (nat_lit 0)))]) (fun _ _ hm => by cases hm) (iv2 e0 e1) rm134217728tom1048577_m64tom1 w hgl
                ·
                  have e1 : 0 ≤ IntKind.wrap .i32 a1 ∧ IntKind.wrap .i32 a1 ≤ 10 := by omega
                  exact at_ (rw := []) (iv := [(.conv .i32 (.var 0), (.negSucc (nat_lit 134217727)), (.negSucc (nat_lit 1048576))), (.conv .i32 (.var 1), (.ofNat (nat_lit 0)), (.ofNat (nat_lit 10)))]) (fun _ _ hm => by cases hm) (iv2 e0 e1) rm134217728tom1048577_0to10 w hgl
          ·
            by_cases q6 : IntKind.wrap .i32 a1 < 8192
            ·
              by_cases q7 : IntKind.wrap .i32 a1 < 12
              ·
                have e1 : IntKind.wrap .i32 a1 = 11 := by omega
                exact at_ (rw := [(.conv .i32 (.var 1), .lit (.ofNat (nat_lit 11)))]) (iv := [(.conv .i32 (.var 0), (.negSucc (nat_lit 134217727)), (.negSucc (nat_lit 1048576)))]) (fun x y hm => by
                  simp only [List.mem_cons, List.not_mem_nil, or_false, Prod.mk.injEq] at hm
                  rcases hm with ⟨rfl, rfl⟩
                  · exact e1
                ) (iv1 e0) rm134217728tom1048577_11 w hgl
              ·
                by_cases q8 : IntKind.wrap .i32 a1 < 64
                ·
                  have e1 : 12 ≤ IntKind.wrap .i32 a1 ∧ IntKind.wrap .i32 a1 ≤ 63 := by omega
                  exact at_ (rw := []) (iv := [(.conv .i32 (.var 0), (.negSucc (nat_lit 134217727)), (.negSucc (nat_lit 1048576))), (.conv .i32 (.var 1), (.ofNat (nat_lit 12)), (.ofNat (nat_lit 63)))]) (fun _ _ hm => by cases hm) (iv2 e0 e1) rm134217728tom1048577_12to63 w hgl
                ·
                  have e1 : 64 ≤ IntKind.wrap .i32 a1 ∧ IntKind.wrap .i32 a1 ≤ 8191 := by omega
                  exact at_ (rw := []) (iv := [(.conv .i32 (.var 0), (.negSucc (nat_lit 134217727)), (.negSucc (nat_lit 1048576))), (.conv .i32 (.var 1), (.ofNat (nat_lit 64)), (.ofNat (nat_lit 8191)))]) (fun _ _ hm => by cases hm) (iv2 e0 e1) rm134217728tom1048577_64to8191 w hgl
            ·
              by_cases q7 : IntKind.wrap .i32 a1 < 1048576
              ·
                have e1 : 8192 ≤ IntKind.wrap .i32 a1 ∧ IntKind.wrap .i32 a1 ≤ 1048575 := by omega
                exact at_ (rw := []) (iv := [(.conv .i32 (.var 0), (.negSucc (nat_lit 134217727)), (.negSucc (nat_lit 1048576))), (.conv .i32 (.var 1), (.ofNat (nat_lit 8192)), (.ofNat (nat_lit 1048575)))]) (fun _ _ hm => by cases hm) (iv2 e0 e1) rm134217728tom1048577_8192to1048575 w hgl
              ·
                by_cases q8 : IntKind.wrap .i32 a1 < 134217728
                ·
                  have e1 : 1048576 ≤ IntKind.wrap .i32 a1 ∧ IntKind.wrap .i32 a1 ≤ 134217727 := by omega
                  exact at_ (rw := []) (iv := [(.conv .i32 (.var 0), (.negSucc (nat_lit 134217727)), (.negSucc (nat_lit 1048576))), (.conv .i32 (.var 1), (.ofNat (nat_lit 1048576)), (.ofNat (nat_lit 134217727)))]) (fun _ _ hm => by cases hm) (iv2 e0 e1) rm134217728tom1048577_1048576to134217727 w hgl
                ·
                  have e1 : 134217728 ≤ IntKind.wrap .i32 a1 ∧ IntKind.wrap .i32 a1 ≤ 2147483647 := by omega
                  exact at_ (rw := []) (iv := [(.conv .i32 (.var 0), (.negSucc (nat_lit 134217727)), (.negSucc (nat_lit 1048576))), (.conv .i32 (.var 1), (.ofNat (nat_lit 134217728)), (.ofNat (nat_lit 2147483647)))]) (fun _ _ hm => by cases hm) (iv2 e0 e1) rm134217728tom1048577_134217728to2147483647 w hgl
        ·
          have e0 : (-1048576) ≤ IntKind.wrap .i32 a0 ∧ IntKind.wrap .i32 a0 ≤ (-8193) := by omega
          have g1 := rng1 a1
          by_cases q5 : IntKind.wrap .i32 a1 < 11
          ·
            by_cases q6 : IntKind.wrap .i32 a1 < (-8192)
            ·
              by_cases q7 : IntKind.wrap .i32 a1 < (-134217728)
              ·
                have e1 : (-2147483648) ≤ IntKind.wrap .i32 a1 ∧ IntKind.wrap .i32 a1 ≤ (-134217729) := by omega
                exact at_ (rw := []) (iv := [(.conv .i32 (.var 0), (.negSucc (nat_lit 1048575)), (.negSucc (nat_lit 8192))), (.conv .i32 (.var 1), (.negSucc (nat_lit 2147483647)), (.negSucc (nat_lit 134217728)))]) (fun _ _ hm => by cases hm) (iv2 e0 e1) rm1048576tom8193_m2147483648tom134217729 w hgl
              ·
                by_cases q8 : IntKind.wrap .i32 a1 < (-1048576)
                ·
                  have e1 : (-134217728) ≤ IntKind.wrap .i32 a1 ∧ IntKind.wrap .i32 a1 ≤ (-1048577) := by omega
                  exact at_ (rw := []) (iv := [(.conv .i32 (.var 0), (.negSucc (nat_lit 1048575)), (.negSucc (nat_lit 8192))), (.conv .i32 (.var 1), (.negSucc (nat_lit 134217727)), (.negSucc (nat_lit 1048576)))]) (fun _ _ hm => by cases hm) (iv2 e0 e1) rm1048576tom8193_m134217728tom1048577 w hgl
                ·
                  have e1 : (-1048576) ≤ IntKind.wrap .i32 a1 ∧ IntKind.wrap .i32 a1 ≤ (-8193) := by omega
                  exact at_ (rw := []) (iv := [(.conv .i32 (.var 0), (.negSucc (nat_lit 1048575)), (.negSucc (nat_lit 8192))), (.conv .i32 (.var 1), (.negSucc (nat_lit 1048575)), (.negSucc (nat_lit 8192)))]) (fun _ _ hm => by cases hm) (iv2 e0 e1) rm1048576tom8193_m1048576tom8193 w hgl
            ·
              by_cases q7 : IntKind.wrap .i32 a1 < (-64)
              ·
                have e1 : (-8192) ≤ IntKind.wrap .i32 a1 ∧ IntKind.wrap .i32 a1 ≤ (-65) := by omega
                exact at_ (rw := []) (iv := [(.conv .i32 (.var 0), (.negSucc (nat_lit 1048575)), (.negSucc (nat_lit 8192))), (.conv .i32 (.var 1), (.negSucc (nat_lit 8191)), (.negSucc (nat_lit 64)))]) (fun _ _ hm => by cases hm) (iv2 e0 e1) rm1048576tom8193_m8192tom65 w hgl
              ·
                by_cases q8 : IntKind.wrap .i32 a1 < 0
                ·
                  have e1 : (-64) ≤ IntKind.wrap .i32 a1 ∧ IntKind.wrap .i32 a1 ≤ (-1) := by omega
                  exact at_ (rw := []) (iv := [(.conv .i32 (.var 0), (.negSucc (nat_lit 1048575)), (.negSucc (nat_lit 8192))), (.conv .i32 (.var 1), (.negSucc (nat_lit 63)), (.negSucc (nat_lit 0)))]) (fun _ _ hm => by cases hm) (iv2 e0 e1) rm1048576tom8193_m64tom1 w hgl
                ·
                  have e1 : 0 ≤ IntKind.wrap .i32 a1 ∧ IntKind.wrap .i32 a1 ≤ 10 := by omega
                  exact at_ (rw := []) (iv := [(.conv .i32 (.var 0), (.negSucc (nat_lit 1048575)), (.negSucc (nat_lit 8192))), (.conv .i32 (.var 1), (.ofNat (nat_lit 0)), (.ofNat (nat_lit 10)))]) (fun _ _ hm => by cases hm) (iv2 e0 e1) rm1048576tom8193_0to10 w hgl
          ·
            by_cases q6 : IntKind.wrap .i32 a1 < 8192
            ·
              by_cases q7 : IntKind.wrap .i32 a1 < 12
              ·
                have e1 : IntKind.wrap .i32 a1 = 11 := by omega
                exact at_ (rw := [(.conv .i32 (.var 1), .lit (.ofNat (nat_lit 11)))]) (iv := [(.conv .i32 (.var 0), (.negSucc (nat_lit 1048575)), (.negSucc (nat_lit 8192)))]) (fun x y hm => by
                  simp only [List.mem_cons, List.not_mem_nil, or_false, Prod.mk.injEq] at hm
                  rcases hm with ⟨rfl, rfl⟩
                  · exact e1
                ) (iv1 e0) rm1048576tom8193_11 w hgl
              ·
                by_cases q8 : IntKind.wrap .i32 a1 < 64
                ·
                  have e1 : 12 ≤ IntKind.wrap .i32 a1 ∧ IntKind.wrap .i32 a1 ≤ 63 := by omega
                  exact at_ (rw := []) (iv := [(.conv .i32 (.var 0), (.negSucc (nat_lit 1048575)), (.negSucc (nat_lit 8192))), (.conv .i32 (.var 1), (.ofNat (nat_lit 12)), (.ofNat (nat_lit 63)))]) (fun _ _ hm => by cases hm) (iv2 e0 e1) rm1048576tom8193_12to63 w hgl
                ·
                  have e1 : 64 ≤ IntKind.wrap .i32 a1 ∧ IntKind.wrap .i32 a1 ≤ 8191 := by omega
                  exact at_ (rw := []) (iv := [(.conv .i32 (.var 0), (.negSucc (nat_lit 1048575)), (.negSucc (nat_lit 8192))), (.conv .i32 (.var 1), (.ofNat (nat_lit 64)), (.ofNat (nat_lit 8191)))]) (fun _ _ hm => by cases hm) (iv2 e0 e1) rm1048576tom8193_64to8191 w hgl
            ·
              by_cases q7 : IntKind.wrap .i32 a1 < 1048576
              ·
                have e1 : 8192 ≤ IntKind.wrap .i32 a1 ∧ IntKind.wrap .i32 a1 ≤ 1048575 := by omega
                exact at_ (rw := []) (iv := [(.conv .i32 (.var 0), (.negSucc (nat_lit 1048575)), (.negSucc (nat_lit 8192))), (.conv .i32 (.var 1), (.ofNat (nat_lit 8192)), (.ofNat (nat_lit 1048575)))]) (fun _ _ hm => by cases hm) (iv2 e0 e1) rm1048576tom8193_8192to1048575 w hgl
              ·
                by_cases q8 : IntKind.wrap .i32 a1 < 134217728
                ·
                  have e1 : 1048576 ≤ IntKind.wrap .i32 a1 ∧ IntKind.wrap .i32 a1 ≤ 134217727 := by omega
                  exact at_ (rw := []) (iv := [(.conv .i32 (.var 0), (.negSucc (nat_lit 1048575)), (.negSucc (nat_lit 8192))), (.conv .i32 (.var 1), (.ofNat (nat_lit 1048576)), (.ofNat (nat_lit 134217727)))]) (fun _ _ hm => by cases hm) (iv2 e0 e1) rm1048576tom8193_1048576to134217727 w hgl
                ·
                  have e1 : 134217728 ≤ IntKind.wrap .i32 a1 ∧ IntKind.wrap .i32 a1 ≤ 2147483647 := by omega
                  exact at_ (rw := []) (iv := [(.conv .i32 (.var 0), (.negSucc (nat_lit 1048575)), (.negSucc (nat_lit 8192))), (.conv .i32 (.var 1), (.ofNat (nat_lit 134217728)), (.ofNat (nat_lit 2147483647)))]) (fun _ _ hm => by cases hm) (iv2 e0 e1) rm1048576tom8193_134217728to2147483647 w hgl
    ·
      by_cases q3 : IntKind.wrap .i32 a0 < (-64)
      ·
        have e0 : (-8192) ≤ IntKind.wrap .i32 a0 ∧ IntKind.wrap .i32 a0 ≤ (-65) := by omega
        have g1 := rng1 a1
        by_cases q4 : IntKind.wrap .i32 a1 < 11
        ·
          by_cases q5 : IntKind.wrap .i32 a1 < (-8192)
          ·
            by_cases q6 : IntKind.wrap .i32 a1 < (-134217728)
            ·
              have e1 : (-2147483648) ≤ IntKind.wrap .i32 a1 ∧ IntKind.wrap .i32 a1 ≤ (-134217729) := by omega
              exact at_ (rw := []) (iv := [(.conv .i32 (.var 0), (.negSucc (nat_lit 8191)), (.negSucc (nat_lit 64))), (.conv .i32 (.var 1), (.negSucc (nat_lit 2147483647)), (.negSucc (nat_lit 134217728)))]) (fun _ _ hm => by cases hm) (iv2 e0 e1) rm8192tom65_m2147483648tom134217729 w hgl
            ·
              by_cases q7 : IntKind.wrap .i32 a1 < (-1048576)
              ·
                have e1 : (-134217728) ≤ IntKind.wrap .i32 a1 ∧ IntKind.wrap .i32 a1 ≤ (-1048577) := by omega
                exact at_ (rw := []) (iv := [(.conv .i32 (.var 0), (.negSucc (nat_lit 8191)), (.negSucc (nat_lit 64))), (.conv .i32 (.var 1), (.negSucc (nat_lit 134217727)), (.negSucc (nat_lit 1048576)))]) (fun _ _ hm => by cases hm) (iv2 e0 e1) rm8192tom65_m134217728tom1048577 w hgl
              ·
                have e1 : (-1048576) ≤ IntKind.wrap .i32 a1 ∧ IntKind.wrap .i32 a1 ≤ (-8193) := by omega
                exact at_ (rw := []) (iv := [(.conv .i32 (.var 0), (.negSucc (nat_lit 8191)), (.negSucc (nat_lit 64))), (.conv .i32 (.var 1), (.negSucc (nat_lit 1048575)), (.negSucc (nat_lit 8192)))]) (fun _ _ hm => by cases hm) (iv2 e0 e1) rm8192tom65_m1048576tom8193 w hgl
          ·
            by_cases q6 : IntKind.wrap .i32 a1 < (-64)
            ·
              have e1 : (-8192) ≤ IntKind.wrap .i32 a1 ∧ IntKind.wrap .i32 a1 ≤ (-65) := by omega
              exact at_ (rw := []) (iv := [(.conv .i32 (.var 0), (.negSucc (nat_lit 8191)), (.negSucc (nat_lit 64))), (.conv .i32 (.var 1), (.negSucc (nat_lit 8191)), (.negSucc (nat_lit 64)))]) (fun _ _ hm => by cases hm) (iv2 e0 e1) rm8192tom65_m8192tom65 w hgl
            ·
              by_cases q7 : IntKind.wrap .i32 a1 < 0
              ·
                have e1 : (-64) ≤ IntKind.wrap .i32 a1 ∧ IntKind.wrap .i32 a1 ≤ (-1) := by omega
                exact at_ (rw := []) (iv := [(.conv .i32 (.var 0), (.negSucc (nat_lit 8191)), (.negSucc (nat_lit 64))), (.conv .i32 (.var 1), (.negSucc (nat_lit 63)), (.negSucc (nat_lit 0)))]) (fun _ _ hm => by cases hm) (iv2 e0 e1) rm8192tom65_m64tom1 w hgl
              ·
                have e1 : 0 ≤ IntKind.wrap .i32 a1 ∧ IntKind.wrap .i32 a1 ≤ 10 := by omega
                exact at_ (rw := []) (iv := [(.conv .i32 (.var 0), (.negSucc (nat_lit 8191)), (.negSucc (nat_lit 64))), (.conv .i32 (.var 1), (.ofNat (nat_lit 0)), (.ofNat (nat_lit 10)))]) (fun _ _ hm => by cases hm) (iv2 e0 e1) rm8192tom65_0to10 w hgl
        ·
          by_cases q5 : IntKind.wrap .i32 a1 < 8192
          ·
            by_cases q6 : IntKind.wrap .i32 a1 < 12
            ·
              have e1 : IntKind.wrap .i32 a1 = 11 := by omega
              exact at_ (rw := [(.conv .i32 (.var 1), .lit (.ofNat (nat_lit 11)))]) (iv := [(.conv .i32 (.var 0), (.negSucc (nat_lit 8191)), (.negSucc (nat_lit 64)))]) (fun x y hm => by
                simp only [List.mem_cons, List.not_mem_nil, or_false, Prod.mk.injEq] at hm
                rcases hm with ⟨rfl, rfl⟩
                · exact e1
              ) (iv1 e0) rm8192tom65_11 w hgl
            ·
              by_cases q7 : IntKind.wrap .i32 a1 < 64
              ·
                have e1 : 12 ≤ IntKind.wrap .i32 a1 ∧ IntKind.wrap .i32 a1 ≤ 63 := by omega
                exact at_ (rw := []) (iv := [(.conv .i32 (.var 0), (.negSucc (nat_lit 8191)), (.negSucc (nat_lit 64))), (.conv .i32 (.var 1), (.ofNat (nat_lit 12)), (.ofNat (nat_lit 63)))]) (fun _ _ hm => by cases hm) (iv2 e0 e1) rm8192tom65_12to63 w hgl
              ·
                have e1 : 64 ≤ IntKind.wrap .i32 a1 ∧ IntKind.wrap .i32 a1 ≤ 8191 := by omega
                exact at_ (rw := []) (iv := [(.conv .i32 (.var 0), (.negSucc (nat_lit 8191)), (.negSucc (nat_lit 64))), (.conv .i32 (.var 1), (.ofNat (nat_lit 64)), (.ofNat (nat_lit 8191)))]) (fun _ _ hm => by cases hm) (iv2 e0 e1) rm8192tom65_64to8191 w hgl
          ·
            by_cases q6 : IntKind.wrap .i32 a1 < 1048576
            ·
              have e1 : 8192 ≤ IntKind.wrap .i32 a1 ∧ IntKind.wrap .i32 a1 ≤ 1048575 := by omega
              exact at_ (rw := []) (iv := [(.conv .i32 (.var 0), (.negSucc (nat_lit 8191)), (.negSucc (nat_lit 64))), (.conv .i32 (.var 1), (.ofNat (nat_lit 8192)), (.ofNat (nat_lit 1048575)))]) (fun _ _ hm => by cases hm) (iv2 e0 e1) rm8192tom65_8192to1048575 w hgl
            ·
              by_cases q7 : IntKind.wrap .i32 a1 < 134217728
              ·
                have e1 : 1048576 ≤ IntKind.wrap .i32 a1 ∧ IntKind.wrap .i32 a1 ≤ 134217727 := by omega
                exact at_ (rw := []) (iv := [(.conv .i32 (.var 0), (.negSucc (nat_lit 8191)), (.negSucc (nat_lit 64))), (.conv .i32 (.var 1), (.ofNat (nat_lit 1048576)), (.ofNat (nat_lit 134217727)))]) (fun _ _ hm => by cases hm) (iv2 e0 e1) rm8192tom65_1048576to134217727 w hgl
              ·
                have e1 : 134217728 ≤ IntKind.wrap .i32 a1 ∧ IntKind.wrap .i32 a1 ≤ 2147483647 := by omega
                exact at_ (rw := []) (iv := [(.conv .i32 (.var 0), (.negSucc (nat_lit 8191)), (.negSucc (nat_lit 64))), (.conv .i32 (.var 1), (.ofNat (nat_lit 134217728)), (.ofNat (nat_lit 2147483647)))]) (fun _ _ hm => by cases hm) (iv2 e0 e1) rm8192tom65_134217728to2147483647 w hgl
      ·
        by_cases q4 : IntKind.wrap .i32 a0 < 0
        ·
          have e0 : (-64) ≤ IntKind.wrap .i32 a0 ∧ IntKind.wrap .i32 a0 ≤ (-1) := by omega
          have g1 := rng1 a1
          by_cases q5 : IntKind.wrap .i32 a1 < 11
          ·
            by_cases q6 : IntKind.wrap .i32 a1 < (-8192)
            ·
              by_cases q7 : IntKind.wrap .i32 a1 < (-134217728)
              ·
                have e1 : (-2147483648) ≤ IntKind.wrap .i32 a1 ∧ IntKind.wrap .i32 a1 ≤ (-134217729) := by omega
                exact at_ (rw := []) (iv := [(.conv .i32 (.var 0), (.negSucc (nat_lit 63)), (.negSucc (nat_lit 0))), (.conv .i32 (.var 1), (.negSucc (nat_lit 2147483647)), (.negSucc (nat_lit 134217728)))]) (fun _ _ hm => by cases hm) (iv2 e0 e1) rm64tom1_m2147483648tom134217729 w hgl
              ·
                by_cases q8 : IntKind.wrap .i32 a1 < (-1048576)
                ·
                  have e1 : (-134217728) ≤ IntKind.wrap .i32 a1 ∧ IntKind.wrap .i32 a1 ≤ (-1048577) := by omega
                  exact at_ (rw := []) (iv := [(.conv .i32 (.var 0), (.negSucc (nat_lit 63)), (.negSucc (nat_lit 0))), (.conv .i32 (.var 1), (.negSucc (nat_lit 134217727)), (.negSucc (nat_lit 1048576)))]) (fun _ _ hm => by cases hm) (iv2 e0 e1) rm64tom1_m134217728tom1048577 w hgl
                ·
                  have e1 : (-1048576) ≤ IntKind.wrap .i32 a1 ∧ IntKind.wrap .i32 a1 ≤ (-8193) := by omega
                  exact at_ (rw := []) (iv := [(.conv .i32 (.var 0), (.negSucc (nat_lit 63)), (.negSucc (nat_lit 0))), (.conv .i32 (.var 1), (.negSucc (nat_lit 1048575)), (.negSucc (nat_lit 8192)))]) (fun _ _ hm => by cases hm) (iv2 e0 e1) rm64tom1_m1048576tom8193 w hgl
            ·
              by_cases q7 : IntKind.wrap .i32 a1 < (-64)
              ·
                have e1 : (-8192) ≤ IntKind.wrap .i32 a1 ∧ IntKind.wrap .i32 a1 ≤ (-65) := by omega
                exact at_ (rw := []) (iv := [(.conv .i32 (.var 0), (.negSucc (nat_lit 63)), (.negSucc (nat_lit 0))), (.conv .i32 (.var 1), (.negSucc (nat_lit 8191)), (.negSucc (nat_lit 64)))]) (fun _ _ hm => by cases hm) (iv2 e0 e1) rm64tom1_m8192tom65 w hgl
              ·
                by_cases q8 : IntKind.wrap .i32 a1 < 0
                ·
                  have e1 : (-64) ≤ IntKind.wrap .i32 a1 ∧ IntKind.wrap .i32 a1 ≤ (-1) := by omega
                  exact at_ (rw := []) (iv := [(.conv .i32 (.var 0), (.negSucc (nat_lit 63)), (.negSucc (nat_lit 0))), (.conv .i32 (.var 1), (.negSucc (nat_lit 63)), (.negSucc (nat_lit 0)))]) (fun _ _ hm => by cases hm) (iv2 e0 e1) rm64tom1_m64tom1 w hgl
                ·
                  have e1 : 0 ≤ IntKind.wrap .i32 a1 ∧ IntKind.wrap .i32 a1 ≤ 10 := by omega
                  exact at_ (rw := []) (iv := [(.conv .i32 (.var 0), (.negSucc (nat_lit 63)), (.negSucc (nat_lit 0))), (.conv .i32 (.var 1), (.ofNat (nat_lit 0)), (.ofNat (nat_lit 10)))]) (fun _ _ hm => by cases hm) (iv2 e0 e1) rm64tom1_0to10 w hgl
          ·
            by_cases q6 : IntKind.wrap .i32 a1 < 8192
            ·
              by_cases q7 : IntKind.wrap .i32 a1 < 12
              ·
                have e1 : IntKind.wrap .i32 a1 = 11 := by omega
                exact at_ (rw := [(.conv .i32 (.var 1), .lit (.ofNat (nat_lit 11)))]) (iv := [(.conv .i32 (.var 0), (.negSucc (nat_lit 63)), (.negSucc (nat_lit 0)))]) (fun x y hm => by
                  simp only [List.mem_cons, List.not_mem_nil, or_false, Prod.mk.injEq] at hm
                  rcases hm with ⟨rfl, rfl⟩
                  · exact e1
                ) (iv1 e0) rm64tom1_11 w hgl
              ·
                by_cases q8 : IntKind.wrap .i32 a1 < 64
                ·
                  have e1 : 12 ≤ IntKind.wrap .i32 a1 ∧ IntKind.wrap .i32 a1 ≤ 63 := by omega
                  exact at_ (rw := []) (iv := [(.conv .i32 (.var 0), (.negSucc (nat_lit 63)), (.negSucc (nat_lit 0))), (.conv .i32 (.var 1), (.ofNat (nat_lit 12)), (.ofNat (nat_lit 63)))]) (fun _ _ hm => by cases hm) (iv2 e0 e1) rm64tom1_12to63 w hgl
                ·
                  have e1 : 64 ≤ IntKind.wrap .i32 a1 ∧ IntKind.wrap .i32 a1 ≤ 8191 := by omega
                  exact at_ (rw := []) (iv := [(.conv .i32 (.var 0), (.negSucc (nat_lit 63)), (.negSucc (nat_lit 0))), (.conv .i32 (.var 1), (.ofNat (nat_lit 64)), (.ofNat (nat_lit 8191)))]) (fun _ _ hm => by cases hm) (iv2 e0 e1) rm64tom1_64to8191 w hgl
            ·
              by_cases q7 : IntKind.wrap .i32 a1 < 1048576
              ·
                have e1 : 8192 ≤ IntKind.wrap .i32 a1 ∧ IntKind.wrap .i32 a1 ≤ 1048575 := by omega
                exact at_ (rw := []) (iv := [(.conv .i32 (.var 0), (.negSucc (nat_lit 63)), (.negSucc (nat_lit 0))), (.conv .i32 (.var 1), (.ofNat (nat_lit 8192)), (.ofNat (nat_lit 1048575)))]) (fun _ _ hm => by cases hm) (iv2 e0 e1) rm64tom1_8192to1048575 w hgl
              ·
                by_cases q8 : IntKind.wrap .i32 a1 < 134217728
                ·
                  have e1 : 1048576 ≤ IntKind.wrap .i32 a1 ∧ IntKind.wrap .i32 a1 ≤ 134217727 := by omega
                  exact at_ (rw := []) (iv := [(.conv .i32 (.var 0), (.negSucc (nat_lit 63)), (.negSucc (nat_lit 0))), (.conv .i32 (.var 1), (.ofNat (nat_lit 1048576)), (.ofNat (nat_lit 134217727)))]) (fun _ _ hm => by cases hm) (iv2 e0 e1) rm64tom1_1048576to134217727 w hgl
                ·
                  have e1 : 134217728 ≤ IntKind.wrap .i32 a1 ∧ IntKind.wrap .i32 a1 ≤ 2147483647 := by omega
                  exact at_ (rw := []) (iv := [(.conv .i32 (.var 0), (.negSucc (nat_lit 63)), (.negSucc (nat_lit 0))), (.conv .i32 (.var 1), (.ofNat (nat_lit 134217728)), (.ofNat (nat_lit 2147483647)))]) (fun _ _ hm => by cases hm) (iv2 e0 e1) rm64tom1_134217728to2147483647 w hgl
        ·
          have e0 : 0 ≤ IntKind.wrap .i32 a0 ∧ IntKind.wrap .i32 a0 ≤ 10 := by omega
          have g1 := rng1 a1
          by_cases q5 : IntKind.wrap .i32 a1 < 11
          ·
            by_cases q6 : IntKind.wrap .i32 a1 < (-8192)
            ·
              by_cases q7 : IntKind.wrap .i32 a1 < (-134217728)
              ·
                have e1 : (-2147483648) ≤ IntKind.wrap .i32 a1 ∧ IntKind.wrap .i32 a1 ≤ (-134217729) := by omega
                exact at_ (rw := []) (iv := [(.conv .i32 (.var 0), (.ofNat (nat_lit 0)), (.ofNat (nat_lit 10))), (.conv .i32 (.var 1), (.negSucc (nat_lit 2147483647)), (.negSucc (nat_lit 134217728)))]) (fun _ _ hm => by cases hm) (iv2 e0 e1) r0to10_m2147483648tom134217729 w hgl
              ·
                by_cases q8 : IntKind.wrap .i32 a1 < (-1048576)
                ·
                  have e1 : (-134217728) ≤ IntKind.wrap .i32 a1 ∧ IntKind.wrap .i32 a1 ≤ (-1048577) := by omega
                  exact at_ (rw := []) (iv := [(.conv .i32 (.var 0), (.ofNat (nat_lit 0)), (.ofNat (nat_lit 10))), (.conv .i32 (.var 1), (.negSucc (nat_lit 134217727)), (.negSucc (nat_lit 1048576)))]) (fun _ _ hm => by cases hm) (iv2 e0 e1) r0to10_m134217728tom1048577 w hgl
                ·
                  have e1 : (-1048576) ≤ IntKind.wrap .i32 a1 ∧ IntKind.wrap .i32 a1 ≤ (-8193) := by omega
                  exact at_ (rw := []) (iv := [(.conv .i32 (.var 0), (.ofNat (nat_lit 0)), (.ofNat (nat_lit 10))), (.conv .i32 (.var 1), (.negSucc (nat_lit 1048575)), (.negSucc (nat_lit 8192)))]) (fun _ _ hm => by cases hm) (iv2 e0 e1) r0to10_m1048576tom8193 w hgl
            ·
              by_cases q7 : IntKind.wrap .i32 a1 < (-64)
              ·
                have e1 : (-8192) ≤ IntKind.wrap .i32 a1 ∧ IntKind.wrap .i32 a1 ≤ (-65) := by omega
                exact at_ (rw := []) (iv := [(.conv .i32 (.var 0), (.ofNat (nat_lit 0)), (.ofNat (nat_lit 10))), (.conv .i32 (.var 1), (.negSucc (nat_lit 8191)), (.negSucc (nat_lit 64)))]) (fun _ _ hm => by cases hm) (iv2 e0 e1) r0to10_m8192tom65 w hgl
              ·
                by_cases q8 : IntKind.wrap .i32 a1 < 0
                ·
                  have e1 : (-64) ≤ IntKind.wrap .i32 a1 ∧ IntKind.wrap .i32 a1 ≤ (-1) := by omega
                  exact at_ (rw := []) (iv := [(.conv .i32 (.var 0), (.ofNat (nat_lit 0)), (.ofNat (nat_lit 10))), (.conv .i32 (.var 1), (.negSucc (nat_lit 63)), (.negSucc (nat_lit 0)))]) (fun _ _ hm => by cases hm) (iv2 e0 e1) r0to10_m64tom1 w hgl
                ·
                  have e1 : 0 ≤ IntKind.wrap .i32 a1 ∧ IntKind.wrap .i32 a1 ≤ 10 := by omega
                  exact at_ (rw := []) (iv := [(.conv .i32 (.var 0), (.ofNat (nat_lit 0)), (.ofNat (nat_lit 10))), (.conv .i32 (.var 1), (.ofNat (nat_lit 0)), (.ofNat (nat_lit 10)))]) (fun _ _ hm => by cases hm) (iv2 e0 e1) r0to10_0to10 w hgl
          ·
            by_cases q6 : IntKind.wrap .i32 a1 < 8192
            ·
              by_cases q7 : IntKind.wrap .i32 a1 < 12
              ·
                have e1 : IntKind.wrap .i32 a1 = 11 := by omega
                exact at_ (rw := [(.conv .i32 (.var 1), .lit (.ofNat (nat_lit 11)))]) (iv := [(.conv .i32 (.var 0), (.ofNat (nat_lit 0)), (.ofNat (nat_lit 10)))]) (fun x y hm => by
                  simp only [List.mem_cons, List.not_mem_nil, or_false, Prod.mk.injEq] at hm
                  rcases hm with ⟨rfl, rfl⟩
                  · exact e1
                ) (iv1 e0) r0to10_11 w hgl
              ·
                by_cases q8 : IntKind.wrap .i32 a1 < 64
                ·
                  have e1 : 12 ≤ IntKind.wrap .i32 a1 ∧ IntKind.wrap .i32 a1 ≤ 63 := by omega
                  exact at_ (rw := []) (iv := [(.conv .i32 (.var 0), (.ofNat (nat_lit 0)), (.ofNat (nat_lit 10))), (.conv .i32 (.var 1), (.ofNat (nat_lit 12)), (.ofNat (nat_lit 63)))]) (fun _ _ hm => by cases hm) (iv2 e0 e1) r0to10_12to63 w hgl
                ·
                  have e1 : 64 ≤ IntKind.wrap .i32 a1 ∧ IntKind.wrap .i32 a1 ≤ 8191 := by omega
                  exact at_ (rw := []) (iv := [(.conv .i32 (.var 0), (.ofNat (nat_lit 0)), (.ofNat (nat_lit 10))), (.conv .i32 (.var 1), (.ofNat (nat_lit 64)), (.ofNat (nat_lit 8191)))]) (fun _ _ hm => by cases hm) (iv2 e0 e1) r0to10_64to8191 w hgl
            ·
              by_cases q7 : IntKind.wrap .i32 a1 < 1048576
              ·
                have e1 : 8192 ≤ IntKind.wrap .i32 a1 ∧ IntKind.wrap .i32 a1 ≤ 1048575 := by omega
                exact at_ (rw := []) (iv := [(.conv .i32 (.var 0), (.ofNat (nat_lit 0)), (.ofNat (nat_lit 10))), (.conv .i32 (.var 1), (.ofNat (nat_lit 8192)), (.ofNat (nat_lit 1048575)))]) (fun _ _ hm => by cases hm) (iv2 e0 e1) r0to10_8192to1048575 w hgl
              ·
                by_cases q8 : IntKind.wrap .i32 a1 < 134217728
                ·
                  have e1 : 1048576 ≤ IntKind.wrap .i32 a1 ∧ IntKind.wrap .i32 a1 ≤ 134217727 := by omega
                  exact at_ (rw := []) (iv := [(.conv .i32 (.var 0), (.ofNat (nat_lit 0)), (.ofNat (nat_lit 10))), (.conv .i32 (.var 1), (.ofNat (nat_lit 1048576)), (.ofNat (nat_lit 134217727)))]) (fun _ _ hm => by cases hm) (iv2 e0 e1) r0to10_1048576to134217727 w hgl
                ·
                  have e1 : 134217728 ≤ IntKind.wrap .i32 a1 ∧ IntKind.wrap .i32 a1 ≤ 2147483647 := by omega
                  exact at_ (rw := []) (iv := [(.conv .i32 (.var 0), (.ofNat (nat_lit 0)), (.ofNat (nat_lit 10))), (.conv .i32 (.var 1), (.ofNat (nat_lit 134217728)), (.ofNat (nat_lit 2147483647)))]) (fun _ _ hm => by cases hm) (iv2 e0 e1) r0to10_134217728to2147483647 w hgl
  ·
    by_cases q2 : IntKind.wrap .i32 a0 < 8192
    ·
      by_cases q3 : IntKind.wrap .i32 a0 < 12
      ·
        have e0 : IntKind.wrap .i32 a0 = 11 := by omega
        have g1 := rng1 a1
        by_cases q4 : IntKind.wrap .i32 a1 < 11
        ·
          by_cases q5 : IntKind.wrap .i32 a1 < (-8192)
          ·
            by_cases q6 : IntKind.wrap .i32 a1 < (-134217728)
            ·
              have e1 : (-2147483648) ≤ IntKind.wrap .i32 a1 ∧ IntKind.wrap .i32 a1 ≤ (-134217729) := by omega
              exact at_ (rw := [(.conv .i32 (.var 0), .lit (.ofNat (nat_lit 11)))]) (iv := [(.conv .i32 (.var 1), (.negSucc (nat_lit 2147483647)), (.negSucc (nat_lit 134217728)))]) (fun x y hm => by
                simp only [List.mem_cons, List.not_mem_nil, or_false, Prod.mk.injEq] at hm
                rcases hm with ⟨rfl, rfl⟩
                · exact e0
              ) (iv1 e1) r11_m2147483648tom134217729 w hgl
            ·
              by_cases q7 : IntKind.wrap .i32 a1 < (-1048576)
              ·
                have e1 : (-134217728) ≤ IntKind.wrap .i32 a1 ∧ IntKind.wrap .i32 a1 ≤ (-1048577) := by omega
                exact at_ (rw := [(.conv .i32 (.var 0), .lit (.ofNat (nat_lit 11)))]) (iv := [(.conv .i32 (.var 1), (.negSucc (nat_lit 134217727)), (.negSucc (nat_lit 1048576)))]) (fun x y hm => by
                  simp only [List.mem_cons, List.not_mem_nil, or_false, Prod.mk.injEq] at hm
                  rcases hm with ⟨rfl, rfl⟩
                  · exact e0
                ) (iv1 e1) r11_m134217728tom1048577 w hgl
              ·
                have e1 : (-1048576) ≤ IntKind.wrap .i32 a1 ∧ IntKind.wrap .i32 a1 ≤ (-8193) := by omega
                exact at_ (rw := [(.conv .i32 (.var 0), .lit (.ofNat (nat_lit 11)))]) (iv := [(.conv .i32 (.var 1), (.negSucc (nat_lit 1048575)), (.negSucc (nat_lit 8192)))]) (fun x y hm => by
                  simp only [List.mem_cons, List.not_mem_nil, or_false, Prod.mk.injEq] at hm
                  rcases hm with ⟨rfl, rfl⟩
                  · exact e0
                ) (iv1 e1) r11_m1048576tom8193 w hgl
          ·
            by_cases q6 : IntKind.wrap .i32 a1 < (-64)
            ·
              have e1 : (-8192) ≤ IntKind.wrap .i32 a1 ∧ IntKind.wrap .i32 a1 ≤ (-65) := by omega
              exact at_ (rw := [(.conv .i32 (.var 0), .lit (.ofNat (nat_lit 11)))]) (iv := [(.conv .i32 (.var 1), (.negSucc (nat_lit 8191)), (.negSucc (nat_lit 64)))]) (fun x y hm => by
                simp only [List.mem_cons, List.not_mem_nil, or_false, Prod.mk.injEq] at hm
                rcases hm with ⟨rfl, rfl⟩
                · exact e0
              ) (iv1 e1) r11_m8192tom65 w hgl
            ·
              by_cases q7 : IntKind.wrap .i32 a1 < 0
              ·
                have e1 : (-64) ≤ IntKind.wrap .i32 a1 ∧ IntKind.wrap .i32 a1 ≤ (-1) := by omega
                exact at_ (rw := [(.conv .i32 (.var 0), .lit (.ofNat (nat_lit 11)))]) (iv := [(.conv .i32 (.var 1), (.negSucc (nat_lit 63)), (.negSucc (nat_lit 0)))]) (fun x y hm => by
                  simp only [List.mem_cons, List.not_mem_nil, or_false, Prod.mk.injEq] at hm
                  rcases hm with ⟨rfl, rfl⟩
                  · exact e0
                ) (iv1 e1) r11_m64tom1 w hgl
              ·
                have e1 : 0 ≤ IntKind.wrap .i32 a1 ∧ IntKind.wrap .i32 a1 ≤ 10 := by omega
                exact at_ (rw := [(.conv .i32 (.var 0), .lit (.ofNat (nat_lit 11)))]) (iv := [(.conv .i32 (.var 1), (.ofNat (nat_lit 0)), (.ofNat (nat_lit 10)))]) (fun x y hm => by
                  simp only [List.mem_cons, List.not_mem_nil, or_false, Prod.mk.injEq] at hm
                  rcases hm with ⟨rfl, rfl⟩
                  · exact e0
                ) (iv1 e1) r11_0to10 w hgl
        ·
          by_cases q5 : IntKind.wrap .i32 a1 < 8192
          ·
            by_cases q6 : IntKind.wrap .i32 a1 < 12
            ·
              have e1 : IntKind.wrap .i32 a1 = 11 := by omega
              exact at_ (rw := [(.conv .i32 (.var 0), .lit (.ofNat (nat_lit 11))), (.conv .i32 (.var 1), .lit (.ofNat (nat_lit 11)))]) (iv := []) (fun x y hm => by
                simp only [List.mem_cons, List.not_mem_nil, or_false, Prod.mk.injEq] at hm
                rcases hm with ⟨rfl, rfl⟩ | ⟨rfl, rfl⟩
                · exact e0
                · exact e1
              ) (fun _ _ _ hm => by cases hm) r11_11 w hgl
            ·
              by_cases q7 : IntKind.wrap .i32 a1 < 64
              ·
                have e1 : 12 ≤ IntKind.wrap .i32 a1 ∧ IntKind.wrap .i32 a1 ≤ 63 := by omega
                exact at_ (rw := [(.conv .i32 (.var 0), .lit (.ofNat (nat_lit 11)))]) (iv := [(.conv .i32 (.var 1), (.ofNat (nat_lit 12)), (.ofNat (nat_lit 63)))]) (fun x y hm => by
                  simp only [List.mem_cons, List.not_mem_nil, or_false, Prod.mk.injEq] at hm
                  rcases hm with ⟨rfl, rfl⟩
                  · exact e0
                ) (iv1 e1) r11_12to63 w hgl
              ·
                have e1 : 64 ≤ IntKind.wrap .i32 a1 ∧ IntKind.wrap .i32 a1 ≤ 8191 := by omega
                exact at_ (rw := [(.conv .i32 (.var 0), .lit (.ofNat (nat_lit 11)))]) (iv := [(.conv .i32 (.var 1), (.ofNat (nat_lit 64)), (.ofNat (nat_lit 8191)))]) (fun x y hm => by
                  simp only [List.mem_cons, List.not_mem_nil, or_false, Prod.mk.injEq] at hm
                  rcases hm with ⟨rfl, rfl⟩
                  · exact e0
                ) (iv1 e1) r11_64to8191 w hgl
          ·
            by_cases q6 : IntKind.wrap .i32 a1 < 1048576
            ·
              have e1 : 8192 ≤ IntKind.wrap .i32 a1 ∧ IntKind.wrap .i32 a1 ≤ 1048575 := by omega
              exact at_ (rw := [(.conv .i32 (.var 0), .lit (.ofNat (nat_lit 11)))]) (iv := [(.conv .i32 (.var 1), (.ofNat (nat_lit 8192)), (.ofNat (nat_lit 1048575)))]) (fun x y hm => by
                simp only [List.mem_cons, List.not_mem_nil, or_false, Prod.mk.injEq] at hm
                rcases hm with ⟨rfl, rfl⟩
                · exact e0
              ) (iv1 e1) r11_8192to1048575 w hgl
            ·
              by_cases q7 : IntKind.wrap .i32 a1 < 134217728
              ·
                have e1 : 1048576 ≤ IntKind.wrap .i32 a1 ∧ IntKind.wrap .i32 a1 ≤ 134217727 := by omega
                exact at_ (rw := [(.conv .i32 (.var 0), .lit (.ofNat (nat_lit 11)))]) (iv := [(.conv .i32 (.var 1), (.ofNat (nat_lit 1048576)), (.ofNat (nat_lit 134217727)))]) (fun x y hm => by
                  simp only [List.mem_cons, List.not_mem_nil, or_false, Prod.mk.injEq] at hm
                  rcases hm with ⟨rfl, rfl⟩
                  · exact e0
                ) (iv1 e1) r11_1048576to134217727 w hgl
              ·
                have e1 : 134217728 ≤ IntKind.wrap .i32 a1 ∧ IntKind.wrap .i32 a1 ≤ 2147483647 := by omega
                exact at_ (rw := [(.conv .i32 (.var 0), .lit (.ofNat (nat_lit 11)))]) (iv := [(.conv .i32 (.var 1), (.ofNat (nat_lit 134217728)), (.ofNat (nat_lit 2147483647)))]) (fun x y hm => by
                  simp only [List.mem_cons, List.not_mem_nil, or_false, Prod.mk.injEq] at hm
                  rcases hm with ⟨rfl, rfl⟩
                  · exact e0
                ) (iv1 e1) r11_134217728to2147483647 w hgl
      ·
        by_cases q4 : IntKind.wrap .i32 a0 < 64
        ·
          have e0 : 12 ≤ IntKind.wrap .i32 a0 ∧ IntKind.wrap .i32 a0 ≤ 63 := by omega
          have g1 := rng1 a1
          by_cases q5 : IntKind.wrap .i32 a1 < 11
          ·
            by_cases q6 : IntKind.wrap .i32 a1 < (-8192)
            ·
              by_cases q7 : IntKind.wrap .i32 a1 < (-134217728)
              ·
                have e1 : (-2147483648) ≤ IntKind.wrap .i32 a1 ∧ IntKind.wrap .i32 a1 ≤ (-134217729) := by omega
                exact at_ (rw := []) (iv := [(.conv .i32 (.var 0), (.ofNat (nat_lit 12)), (.ofNat (nat_lit 63))), (.conv .i32 (.var 1), (.negSucc (nat_lit 2147483647)), (.negSucc (nat_lit 134217728)))]) (fun _ _ hm => by cases hm) (iv2 e0 e1) r12to63_m2147483648tom134217729 w hgl
              ·
                by_cases q8 : IntKind.wrap .i32 a1 < (-1048576)
                ·
                  have e1 : (-134217728) ≤ IntKind.wrap .i32 a1 ∧ IntKind.wrap .i32 a1 ≤ (-1048577) := by omega
                  exact at_ (rw := []) (iv := [(.conv .i32 (.var 0), (.ofNat (nat_lit 12)), (.ofNat (nat_lit 63))), (.conv .i32 (.var 1), (.negSucc (nat_lit 134217727)), (.negSucc (nat_lit 1048576)))]) (fun _ _ hm => by cases hm) (iv2 e0 e1) r12to63_m134217728tom1048577 w hgl
                ·
                  have e1 : (-1048576) ≤ IntKind.wrap .i32 a1 ∧ IntKind.wrap .i32 a1 ≤ (-8193) := by omega
                  exact at_ (rw := []) (iv := [(.conv .i32 (.var 0), (.ofNat (nat_lit 12)), (.ofNat (nat_lit 63))), (.conv .i32 (.var 1), (.negSucc (nat_lit 1048575)), (.negSucc (nat_lit 8192)))]) (fun _ _ hm => by cases hm) (iv2 e0 e1) r12to63_m1048576tom8193 w hgl
            ·
              by_cases q7 : IntKind.wrap .i32 a1 < (-64)
              ·
                have e1 : (-8192) ≤ IntKind.wrap .i32 a1 ∧ IntKind.wrap .i32 a1 ≤ (-65) := by omega
                exact at_ (rw := []) (iv := [(.conv .i32 (.var 0), (.ofNat (nat_lit 12)), (.ofNat (nat_lit 63))), (.conv .i32 (.var 1), (.negSucc (nat_lit 8191)), (.negSucc (nat_lit 64)))]) (fun _ _ hm => by cases hm) (iv2 e0 e1) r12to63_m8192tom65 w hgl
              ·
                by_cases q8 : IntKind.wrap .i32 a1 < 0
                ·
                  have e1 : (-64) ≤ IntKind.wrap .i32 a1 ∧ IntKind.wrap .i32 a1 ≤ (-1) := by omega
                  exact at_ (rw := []) (iv := [(.conv .i32 (.var 0), (.ofNat (nat_lit 12)), (.ofNat (nat_lit 63))), (.conv .i32 (.var 1), (.negSucc (nat_lit 63)), (.negSucc (nat_lit 0)))]) (fun _ _ hm => by cases hm) (iv2 e0 e1) r12to63_m64tom1 w hgl
                ·
                  have e1 : 0 ≤ IntKind.wrap .i32 a1 ∧ IntKind.wrap .i32 a1 ≤ 10 := by omega
                  exact at_ (rw := []) (iv := [(.conv .i32 (.var 0), (.ofNat (nat_lit 12)), (.ofNat (nat_lit 63))), (.conv .i32 (.var 1), (.ofNat (nat_lit 0)), (.ofNat (nat_lit 10)))]) (fun _ _ hm => by cases hm) (iv2 e0 e1) r12to63_0to10 w hgl
          ·
            by_cases q6 : IntKind.wrap .i32 a1 < 8192
            ·
              by_cases q7 : IntKind.wrap .i32 a1 < 12
              ·
                have e1 : IntKind.wrap .i32 a1 = 11 := by omega
                exact at_ (rw := [(.conv .i32 (.var 1), .lit (.ofNat (nat_lit 11)))]) (iv := [(.conv .i32 (.var 0), (.ofNat (nat_lit 12)), (.ofNat (nat_lit 63)))]) (fun x y hm => by
                  simp only [List.mem_cons, List.not_mem_nil, or_false, Prod.mk.injEq] at hm
                  rcases hm with ⟨rfl, rfl⟩
                  · exact e1
                ) (iv1 e0) r12to63_11 w hgl
              ·
                by_cases q8 : IntKind.wrap .i32 a1 < 64
                ·
                  have e1 : 12 ≤ IntKind.wrap .i32 a1 ∧ IntKind.wrap .i32 a1 ≤ 63 := by omega
                  exact at_ (rw := []) (iv := [(.conv .i32 (.var 0), (.ofNat (nat_lit 12)), (.ofNat (nat_lit 63))), (.conv .i32 (.var 1), (.ofNat (nat_lit 12)), (.ofNat (nat_lit 63)))]) (fun _ _ hm => by cases hm) (iv2 e0 e1) r12to63_12to63 w hgl
                ·
                  have e1 : 64 ≤ IntKind.wrap .i32 a1 ∧ IntKind.wrap .i32 a1 ≤ 8191 := by omega
                  exact at_ (rw := []) (iv := [(.conv .i32 (.var 0), (.ofNat (nat_lit 12)), (.ofNat (nat_lit 63))), (.conv .i32 (.var 1), (.ofNat (nat_lit 64)), (.ofNat (nat_lit 8191)))]) (fun _ _ hm => by cases hm) (iv2 e0 e1) r12to63_64to8191 w hgl
            ·
              by_cases q7 : IntKind.wrap .i32 a1 < 1048576
              ·
                have e1 : 8192 ≤ IntKind.wrap .i32 a1 ∧ IntKind.wrap .i32 a1 ≤ 1048575 := by omega
                exact at_ (rw := []) (iv := [(.conv .i32 (.var 0), (.ofNat (nat_lit 12)), (.ofNat (nat_lit 63))), (.conv .i32 (.var 1), (.ofNat (nat_lit 8192)), (.ofNat (nat_lit 1048575)))]) (fun _ _ hm => by cases hm) (iv2 e0 e1) r12to63_8192to1048575 w hgl
              ·
                by_cases q8 : IntKind.wrap .i32 a1 < 134217728
                ·
                  have e1 : 1048576 ≤ IntKind.wrap .i32 a1 ∧ IntKind.wrap .i32 a1 ≤ 134217727 := by omega
                  exact at_ (rw := []) (iv := [(.conv .i32 (.var 0), (.ofNat (nat_lit 12)), (.ofNat (nat_lit 63))), (.conv .i32 (.var 1), (.ofNat (nat_lit 1048576)), (.ofNat (nat_lit 134217727)))]) (fun _ _ hm => by cases hm) (iv2 e0 e1) r12to63_1048576to134217727 w hgl
                ·
                  have e1 : 134217728 ≤ IntKind.wrap .i32 a1 ∧ IntKind.wrap .i32 a1 ≤ 2147483647 := by omega
                  exact at_ (rw := []) (iv := [(.conv .i32 (.var 0), (.ofNat (nat_lit 12)), (.ofNat (nat_lit 63))), (.conv .i32 (.var 1), (.ofNat (nat_lit 134217728)), (.ofNat (nat_lit 2147483647)))]) (fun _ _ hm => by cases hm) (iv2 e0 e1) r12to63_134217728to2147483647 w hgl
        ·
          have e0 : 64 ≤ IntKind.wrap .i32 a0 ∧ IntKind.wrap .i32 a0 ≤ 8191 := by omega
          have g1 := rng1 a1
          by_cases q5 : IntKind.wrap .i32 a1 < 11
          ·
            by_cases q6 : IntKind.wrap .i32 a1 < (-8192)
            ·
              by_cases q7 : IntKind.wrap .i32 a1 < (-134217728)
              ·
                have e1 : (-2147483648) ≤ IntKind.wrap .i32 a1 ∧ IntKind.wrap .i32 a1 ≤ (-134217729) := by omega
                exact at_ (rw := []) (iv := [(.conv .i32 (.var 0), (.ofNat (nat_lit 64)), (.ofNat (nat_lit 8191))), (.conv .i32 (.var 1), (.negSucc (nat_lit 2147483647)), (.negSucc (nat_lit 134217728)))]) (fun _ _ hm => by cases hm) (iv2 e0 e1) r64to8191_m2147483648tom134217729 w hgl
              ·
                by_cases q8 : IntKind.wrap .i32 a1 < (-1048576)
                ·
                  have e1 : (-134217728) ≤ IntKind.wrap .i32 a1 ∧ IntKind.wrap .i32 a1 ≤ (-1048577) := by omega
                  exact at_ (rw := []) (iv := [(.conv .i32 (.var 0), (.ofNat (nat_lit 64)), (.ofNat (nat_lit 8191))), (.conv .i32 (.var 1), (.negSucc (nat_lit 134217727)), (.negSucc (nat_lit 1048576)))]) (fun _ _ hm => by cases hm) (iv2 e0 e1) r64to8191_m134217728tom1048577 w hgl
                ·
                  have e1 : (-1048576) ≤ IntKind.wrap .i32 a1 ∧ IntKind.wrap .i32 a1 ≤ (-8193) := by omega
                  exact at_ (rw := []) (iv := [(.conv .i32 (.var 0), (.ofNat (nat_lit 64)), (.ofNat (nat_lit 8191))), (.conv .i32 (.var 1), (.negSucc (nat_lit 1048575)), (.negSucc (nat_lit 8192)))]) (fun _ _ hm => by cases hm) (iv2 e0 e1) r64to8191_m1048576tom8193 w hgl
            ·
              by_cases q7 : IntKind.wrap .i32 a1 < (-64)
              ·
                have e1 : (-8192) ≤ IntKind.wrap .i32 a1 ∧ IntKind.wrap .i32 a1 ≤ (-65) := by omega
                exact at_ (rw := []) (iv := [(.conv .i32 (.var 0), (.ofNat (nat_lit 64)), (.ofNat (nat_lit 8191))), (.conv .i32 (.var 1), (.negSucc (nat_lit 8191)), (.negSucc (nat_lit 64)))]) (fun _ _ hm => by cases hm) (iv2 e0 e1) r64to8191_m8192tom65 w hgl
              ·
                by_cases q8 : IntKind.wrap .i32 a1 < 0
                ·
                  have e1 : (-64) ≤ IntKind.wrap .i32 a1 ∧ IntKind.wrap .i32 a1 ≤ (-1) := by omega
                  exact at_ (rw := []) (iv := [(.conv .i32 (.var 0), (.ofNat (nat_lit 64)), (.ofNat (nat_lit 8191))), (.conv .i32 (.var 1), (.negSucc (nat_lit 63)), (.negSucc (nat_lit 0)))]) (fun _ _ hm => by cases hm) (iv2 e0 e1) r64to8191_m64tom1 w hgl
                ·
                  have e1 : 0 ≤ IntKind.wrap .i32 a1 ∧ IntKind.wrap .i32 a1 ≤ 10 := by omega
                  exact at_ (rw := []) (iv := [(.conv .i32 (.var 0), (.ofNat (nat_lit 64)), (.ofNat (nat_lit 8191))), (.conv .i32 (.var 1), (.ofNat (nat_lit 0)), (.ofNat (nat_lit 10)))]) (fun _ _ hm => by cases hm) (iv2 e0 e1) r64to8191_0to10 w hgl
          ·
            by_cases q6 : IntKind.wrap .i32 a1 < 8192
            ·
              by_cases q7 : IntKind.wrap .i32 a1 < 12
              ·
                have e1 : IntKind.wrap .i32 a1 = 11 := by omega
                exact at_ (rw := [(.conv .i32 (.var 1), .lit (.ofNat (nat_lit 11)))]) (iv := [(.conv .i32 (.var 0), (.ofNat (nat_lit 64)), (.ofNat (nat_lit 8191)))]) (fun x y hm => by
                  simp only [List.mem_cons, List.not_mem_nil, or_false, Prod.mk.injEq] at hm
                  rcases hm with ⟨rfl, rfl⟩
                  · exact e1
                ) (iv1 e0) r64to8191_11 w hgl
              ·
                by_cases q8 : IntKind.wrap .i32 a1 < 64
                ·
                  have e1 : 12 ≤ IntKind.wrap .i32 a1 ∧ IntKind.wrap .i32 a1 ≤ 63 := by omega
                  exact at_ (rw := []) (iv := [(.conv .i32 (.var 0), (.ofNat (nat_lit 64)), (.ofNat (nat_lit 8191))), (.conv .i32 (.var 1), (.ofNat (nat_lit 12)), (.ofNat (nat_lit 63)))]) (fun _ _ hm => by cases hm) (iv2 e0 e1) r64to8191_12to63 w hgl
                ·
                  have e1 : 64 ≤ IntKind.wrap .i32 a1 ∧ IntKind.wrap .i32 a1 ≤ 8191 := by omega
                  exact at_ (rw := []) (iv := [(.conv .i32 (.var 0), (.ofNat (nat_lit 64)), (.ofNat (nat_lit 8191))), (.conv .i32 (.var 1), (.ofNat (nat_lit 64)), (.ofNat (nat_lit 8191)))]) (fun _ _ hm => by cases hm) (iv2 e0 e1) r64to8191_64to8191 w hgl
            ·
              by_cases q7 : IntKind.wrap .i32 a1 < 1048576
              ·
                have e1 : 8192 ≤ IntKind.wrap .i32 a1 ∧ IntKind.wrap .i32 a1 ≤ 1048575 := by omega
                exact at_ (rw := []) (iv := [(.conv .i32 (.var 0), (.ofNat (nat_lit 64)), (.ofNat (nat_lit 8191))), (.conv .i32 (.var 1), (.ofNat (nat_lit 8192)), (.ofNat (nat_lit 1048575)))]) (fun _ _ hm => by cases hm) (iv2 e0 e1) r64to8191_8192to1048575 w hgl
              ·
                by_cases q8 : IntKind.wrap .i32 a1 < 134217728
                ·
                  have e1 : 1048576 ≤ IntKind.wrap .i32 a1 ∧ IntKind.wrap .i32 a1 ≤ 134217727 := by omega
                  exact at_ (rw := []) (iv := [(.conv .i32 (.var 0), (.ofNat (nat_lit 64)), (.ofNat (nat_lit 8191))), (.conv .i32 (.var 1), (.ofNat (nat_lit 1048576)), (.ofNat (nat_lit 134217727)))]) (fun _ _ hm => by cases hm) (iv2 e0 e1) r64to8191_1048576to134217727 w hgl
                ·
                  have e1 : 134217728 ≤ IntKind.wrap .i32 a1 ∧ IntKind.wrap .i32 a1 ≤ 2147483647 := by omega
                  exact at_ (rw := []) (iv := [(.conv .i32 (.var 0), (.ofNat (nat_lit 64)), (.ofNat (nat_lit 8191))), (.conv .i32 (.var 1), (.ofNat (nat_lit 134217728)), (.ofNat (nat_lit 2147483647)))]) (fun _ _ hm => by cases hm) (iv2 e0 e1) r64to8191_134217728to2147483647 w hgl
    ·
      by_cases q3 : IntKind.wrap .i32 a0 < 1048576
      ·
        have e0 : 8192 ≤ IntKind.wrap .i32 a0 ∧ IntKind.wrap .i32 a0 ≤ 1048575 := by omega
        have g1 := rng1 a1
        by_cases q4 : IntKind.wrap .i32 a1 < 11
        ·
          by_cases q5 : IntKind.wrap .i32 a1 < (-8192)
          ·
            by_cases q6 : IntKind.wrap .i32 a1 < (-134217728)
            ·
              have e1 : (-2147483648) ≤ IntKind.wrap .i32 a1 ∧ IntKind.wrap .i32 a1 ≤ (-134217729) := by omega
              exact at_ (rw := []) (iv := [(.conv .i32 (.var 0), (.ofNat (nat_lit 8192)), (.ofNat (nat_lit 1048575))), (.conv .i32 (.var 1), (.negSucc (nat_lit 2147483647)), (.negSucc (nat_lit 134217728)))]) (fun _ _ hm => by cases hm) (iv2 e0 e1) r8192to1048575_m2147483648tom134217729 w hgl
            ·
              by_cases q7 : IntKind.wrap .i32 a1 < (-1048576)
              ·
                have e1 : (-134217728) ≤ IntKind.wrap .i32 a1 ∧ IntKind.wrap .i32 a1 ≤ (-1048577) := by omega
                exact at_ (rw := []) (iv := [(.conv .i32 (.var 0), (.ofNat (nat_lit 8192)), (.ofNat (nat_lit 1048575))), (.conv .i32 (.var 1), (.negSucc (nat_lit 134217727)), (.negSucc (nat_lit 1048576)))]) (fun _ _ hm => by cases hm) (iv2 e0 e1) r8192to1048575_m134217728tom1048577 w hgl
              ·
                have e1 : (-1048576) ≤ IntKind.wrap .i32 a1 ∧ IntKind.wrap .i32 a1 ≤ (-8193) := by omega
                exact at_ (rw := []) (iv := [(.conv .i32 (.var 0), (.ofNat (nat_lit 8192)), (.ofNat (nat_lit 1048575))), (.conv .i32 (.var 1), (.negSucc (nat_lit 1048575)), (.negSucc (nat_lit 8192)))]) (fun _ _ hm => by cases hm) (iv2 e0 e1) r8192to1048575_m1048576tom8193 w hgl
          ·
            by_cases q6 : IntKind.wrap .i32 a1 < (-64)
            ·
              have e1 : (-8192) ≤ IntKind.wrap .i32 a1 ∧ IntKind.wrap .i32 a1 ≤ (-65) := by omega
              exact at_ (rw := []) (iv := [(.conv .i32 (.var 0), (.ofNat (nat_lit 8192)), (.ofNat (nat_lit 1048575))), (.conv .i32 (.var 1), (.negSucc (nat_lit 8191)), (.negSucc (nat_lit 64)))]) (fun _ _ hm => by cases hm) (iv2 e0 e1) r8192to1048575_m8192tom65 w hgl
            ·
              by_cases q7 : IntKind.wrap .i32 a1 < 0
              ·
                have e1 : (-64) ≤ IntKind.wrap .i32 a1 ∧ IntKind.wrap .i32 a1 ≤ (-1) := by omega
                exact at_ (rw := []) (iv := [(.conv .i32 (.var 0), (.ofNat (nat_lit 8192)), (.ofNat (nat_lit 1048575))), (.conv .i32 (.var 1), (.negSucc (nat_lit 63)), (.negSucc (nat_lit 0)))]) (fun _ _ hm => by cases hm) (iv2 e0 e1) r8192to1048575_m64tom1 w hgl
              ·
                have e1 : 0 ≤ IntKind.wrap .i32 a1 ∧ IntKind.wrap .i32 a1 ≤ 10 := by omega
                exact at_ (rw := []) (iv := [(.conv .i32 (.var 0), (.ofNat (nat_lit 8192)), (.ofNat (nat_lit 1048575))), (.conv .i32 (.var 1), (.ofNat (nat_lit 0)), (.ofNat (nat_lit 10)))]) (fun _ _ hm => by cases hm) (iv2 e0 e1) r8192to1048575_0to10 w hgl
        ·
          by_cases q5 : IntKind.wrap .i32 a1 < 8192
          ·
            by_cases q6 : IntKind.wrap .i32 a1 < 12
            ·
              have e1 : IntKind.wrap .i32 a1 = 11 := by omega
              exact at_ (rw := [(.conv .i32 (.var 1), .lit (.ofNat (nat_lit 11)))]) (iv := [(.conv .i32 (.var 0), (.ofNat (nat_lit 8192)), (.ofNat (nat_lit 1048575)))]) (fun x y hm => by
                simp only [List.mem_cons, List.not_mem_nil, or_false, Prod.mk.injEq] at hm
                rcases hm with ⟨rfl, rfl⟩
                · exact e1
              ) (iv1 e0) r8192to1048575_11 w hgl
            ·
              by_cases q7 : IntKind.wrap .i32 a1 < 64
              ·
                have e1 : 12 ≤ IntKind.wrap .i32 a1 ∧ IntKind.wrap .i32 a1 ≤ 63 := by omega
                exact at_ (rw := []) (iv := [(.conv .i32 (.var 0), (.ofNat (nat_lit 8192)), (.ofNat (nat_lit 1048575))), (.conv .i32 (.var 1), (.ofNat (nat_lit 12)), (.ofNat (nat_lit 63)))]) (fun _ _ hm => by cases hm) (iv2 e0 e1) r8192to1048575_12to63 w hgl
              ·
                have e1 : 64 ≤ IntKind.wrap .i32 a1 ∧ IntKind.wrap .i32 a1 ≤ 8191 := by omega
                exact at_ (rw := []) (iv := [(.conv .i32 (.var 0), (.ofNat (nat_lit 8192)), (.ofNat (nat_lit 1048575))), (.conv .i32 (.var 1), (.ofNat (nat_lit 64)), (.ofNat (nat_lit 8191)))]) (fun _ _ hm => by cases hm) (iv2 e0 e1) r8192to1048575_64to8191 w hgl
          ·
            by_cases q6 : IntKind.wrap .i32 a1 < 1048576
            ·
              have e1 : 8192 ≤ IntKind.wrap .i32 a1 ∧ IntKind.wrap .i32 a1 ≤ 1048575 := by omega
              exact at_ (rw := []) (iv := [(.conv .i32 (.var 0), (.ofNat (nat_lit 8192)), (.ofNat (nat_lit 1048575))), (.conv .i32 (.var 1), (.ofNat (nat_lit 8192)), (.ofNat (nat_lit 1048575)))]) (fun _ _ hm => by cases hm) (iv2 e0 e1) r8192to1048575_8192to1048575 w hgl
            ·
              by_cases q7 : IntKind.wrap .i32 a1 < 134217728
              ·
                have e1 : 1048576 ≤ IntKind.wrap .i32 a1 ∧ IntKind.wrap .i32 a1 ≤ 134217727 := by omega
                exact at_ (rw := []) (iv := [(.conv .i32 (.var 0), (.ofNat (nat_lit 8192)), (.ofNat (nat_lit 1048575))), (.conv .i32 (.var 1), (.ofNat (nat_lit 1048576)), (.ofNat (nat_lit 134217727)))]) (fun _ _ hm => by cases hm) (iv2 e0 e1) r8192to1048575_1048576to134217727 w hgl
              ·
                have e1 : 134217728 ≤ IntKind.wrap .i32 a1 ∧ IntKind.wrap .i32 a1 ≤ 2147483647 := by omega
                exact at_ (rw := []) (iv := [(.conv .i32 (.var 0), (.ofNat (nat_lit 8192)), (.ofNat (nat_lit 1048575))), (.conv .i32 (.var 1), (.ofNat (nat_lit 134217728)), (.ofNat (nat_lit 2147483647)))]) (fun _ _ hm => by cases hm) (iv2 e0 e1) r8192to1048575_134217728to2147483647 w hgl
      ·
        by_cases q4 : IntKind.wrap .i32 a0 < 134217728
        ·
          have e0 : 1048576 ≤ IntKind.wrap .i32 a0 ∧ IntKind.wrap .i32 a0 ≤ 134217727 := by omega
          have g1 := rng1 a1
          by_cases q5 : IntKind.wrap .i32 a1 < 11
          ·
            by_cases q6 : IntKind.wrap .i32 a1 < (-8192)
            ·
              by_cases q7 : IntKind.wrap .i32 a1 < (-134217728)
              ·
                have e1 : (-2147483648) ≤ IntKind.wrap .i32 a1 ∧ IntKind.wrap .i32 a1 ≤ (-134217729) := by omega
                exact at_ (rw := []) (iv := [(.conv .i32 (.var 0), (.ofNat (nat_lit 1048576)), (.ofNat (nat_lit 134217727))), (.conv .i32 (.var 1), (.negSucc (nat_lit 2147483647)), (.negSucc (nat_lit 134217728)))]) (fun _ _ hm => by cases hm) (iv2 e0 e1) r1048576to134217727_m2147483648tom134217729 w hgl
              ·
                by_cases q8 : IntKind.wrap .i32 a1 < (-1048576)
                ·
                  have e1 : (-134217728) ≤ IntKind.wrap .i32 a1 ∧ IntKind.wrap .i32 a1 ≤ (-1048577) := by omega
                  exact at_ (rw := []) (iv := [(.conv .i32 (.var 0), (.ofNat (nat_lit 1048576)), (.ofNat (nat_lit 134217727))), (.conv .i32 (.var 1), (.negSucc (nat_lit 134217727)), (.negSucc (nat_lit 1048576)))]) (fun _ _ hm => by cases hm) (iv2 e0 e1) r1048576to134217727_m134217728tom1048577 w hgl
                ·
                  have e1 : (-1048576) ≤ IntKind.wrap .i32 a1 ∧ IntKind.wrap .i32 a1 ≤ (-8193) := by omega
                  exact at_ (rw := []) (iv := [(.conv .i32 (.var 0), (.ofNat (nat_lit 1048576)), (.ofNat (nat_lit 134217727))), (.conv .i32 (.var 1), (.negSucc (nat_lit 1048575)), (.negSucc (nat_lit 8192)))]) (fun _ _ hm => by cases hm) (iv2 e0 e1) r1048576to134217727_m1048576tom8193 w hgl
            ·
              by_cases q7 : IntKind.wrap .i32 a1 < (-64)
              ·
                have e1 : (-8192) ≤ IntKind.wrap .i32 a1 ∧ IntKind.wrap .i32 a1 ≤ (-65) := by omega
                exact at_ (rw := []) (iv := [(.conv .i32 (.var 0), (.ofNat (nat_lit 1048576)), (.ofNat (nat_lit 134217727))), (.conv .i32 (.var 1), (.negSucc (nat_lit 8191)), (.negSucc (nat_lit 64)))]) (fun _ _ hm => by cases hm) (iv2 e0 e1) r1048576to134217727_m8192tom65 w hgl
              ·
                by_cases q8 : IntKind.wrap .i32 a1 < 0
                ·
                  have e1 : (-64) ≤ IntKind.wrap .i32 a1 ∧ IntKind.wrap .i32 a1 ≤ (-1) := by omega
                  exact at_ (rw := []) (iv := [(.conv .i32 (.var 0), (.ofNat (nat_lit 1048576)), (.ofNat (nat_lit 134217727))), (.conv .i32 (.var 1), (.negSucc (nat_lit 63)), (.negSucc (nat_lit 0)))]) (fun _ _ hm => by cases hm) (iv2 e0 e1) r1048576to134217727_m64tom1 w hgl
                ·
                  have e1 : 0 ≤ IntKind.wrap .i32 a1 ∧ IntKind.wrap .i32 a1 ≤ 10 := by omega
                  exact at_ (rw := []) (iv := [(.conv .i32 (.var 0), (.ofNat (nat_lit 1048576)), (.ofNat (nat_lit 134217727))), (.conv .i32 (.var 1), (.ofNat (nat_lit 0)), (.ofNat (nat_lit 10)))]) (fun _ _ hm => by cases hm) (iv2 e0 e1) r1048576to134217727_0to10 w hgl
          ·
            by_cases q6 : IntKind.wrap .i32 a1 < 8192
            ·
              by_cases q7 : IntKind.wrap .i32 a1 < 12
              ·
                have e1 : IntKind.wrap .i32 a1 = 11 := by omega
                exact at_ (rw := [(.conv .i32 (.var 1), .lit (.ofNat (nat_lit 11)))]) (iv := [(.conv .i32 (.var 0), (.ofNat (nat_lit 1048576)), (.ofNat (nat_lit 134217727)))]) (fun x y hm => by
                  simp only [List.mem_cons, List.not_mem_nil, or_false, Prod.mk.injEq] at hm
                  rcases hm with ⟨rfl, rfl⟩
                  · exact e1
                ) (iv1 e0) r1048576to134217727_11 w hgl
              ·
                by_cases q8 : IntKind.wrap .i32 a1 < 64
                ·
                  have e1 : 12 ≤ IntKind.wrap .i32 a1 ∧ IntKind.wrap .i32 a1 ≤ 63 := by omega
                  exact at_ (rw := []) (iv := [(.conv .i32 (.var 0), (.ofNat (nat_lit 1048576)), (.ofNat (nat_lit 134217727))), (.conv .i32 (.var 1), (.ofNat (nat_lit 12)), (.ofNat (nat_lit 63)))]) (fun _ _ hm => by cases hm) (iv2 e0 e1) r1048576to134217727_12to63 w hgl
                ·
                  have e1 : 64 ≤ IntKind.wrap .i32 a1 ∧ IntKind.wrap .i32 a1 ≤ 8191 := by omega
                  exact at_ (rw := []) (iv := [(.conv .i32 (.var 0), (.ofNat (nat_lit 1048576)), (.ofNat (nat_lit 134217727))), (.conv .i32 (.var 1), (.ofNat (nat_lit 64)), (.ofNat (nat_lit 8191)))]) (fun _ _ hm => by cases hm) (iv2 e0 e1) r1048576to134217727_64to8191 w hgl
            ·
              by_cases q7 : IntKind.wrap .i32 a1 < 1048576
              ·
                have e1 : 8192 ≤ IntKind.wrap .i32 a1 ∧ IntKind.wrap .i32 a1 ≤ 1048575 := by omega
                exact at_ (rw := []) (iv := [(.conv .i32 (.var 0), (.ofNat (nat_lit 1048576)), (.ofNat (nat_lit 134217727))), (.conv .i32 (.var 1), (.ofNat (nat_lit 8192)), (.ofNat (nat_lit 1048575)))]) (fun _ _ hm => by cases hm) (iv2 e0 e1) r1048576to134217727_8192to1048575 w hgl
              ·
                by_cases q8 : IntKind.wrap .i32 a1 < 134217728
                ·
                  have e1 : 1048576 ≤ IntKind.wrap .i32 a1 ∧ IntKind.wrap .i32 a1 ≤ 134217727 := by omega
                  exact at_ (rw := []) (iv := [(.conv .i32 (.var 0), (.ofNat (nat_lit 1048576)), (.ofNat (nat_lit 134217727))), (.conv .i32 (.var 1), (.ofNat (nat_lit 1048576)), (.ofNat (nat_lit 134217727)))]) (fun _ _ hm => by cases hm) (iv2 e0 e1) r1048576to134217727_1048576to134217727 w hgl
                ·
                  have e1 : 134217728 ≤ IntKind.wrap .i32 a1 ∧ IntKind.wrap .i32 a1 ≤ 2147483647 := by omega
                  exact at_ (rw := []) (iv := [(.conv .i32 (.var 0), (.ofNat (nat_lit 1048576)), (.ofNat (nat_lit 134217727))), (.conv .i32 (.var 1), (.ofNat (nat_lit 134217728)), (.ofNat (nat_lit 2147483647)))]) (fun _ _ hm => by cases hm) (iv2 e0 e1) r1048576to134217727_134217728to2147483647 w hgl
        ·
          have e0 : 134217728 ≤ IntKind.wrap .i32 a0 ∧ IntKind.wrap .i32 a0 ≤ 2147483647 := by omega
          have g1 := rng1 a1
          by_cases q5 : IntKind.wrap .i32 a1 < 11
          ·
            by_cases q6 : IntKind.wrap .i32 a1 < (-8192)
            ·
              by_cases q7 : IntKind.wrap .i32 a1 < (-134217728)
              ·
                have e1 : (-2147483648) ≤ IntKind.wrap .i32 a1 ∧ IntKind.wrap .i32 a1 ≤ (-134217729) := by omega
                exact at_ (rw := []) (iv := [(.conv .i32 (.var 0), (.ofNat (nat_lit 134217728)), (.ofNat (nat_lit 2147483647))), (.conv .i32 (.var 1), (.negSucc (nat_lit 2147483647)), (.negSucc (nat_lit 134217728)))]) (fun _ _ hm => by cases hm) (iv2 e0 e1) r134217728to2147483647_m2147483648tom134217729 w hgl
              ·
                by_cases q8 : IntKind.wrap .i32 a1 < (-1048576)
                ·
                  have e1 : (-134217728) ≤ IntKind.wrap .i32 a1 ∧ IntKind.wrap .i32 a1 ≤ (-1048577) := by omega
                  exact at_ (rw := []) (iv := [(.conv .i32 (.var 0), (.ofNat (nat_lit 134217728)), (.ofNat (nat_lit 2147483647))), (.conv .i32 (.var 1), (.negSucc (nat_lit 134217727)), (.negSucc (nat_lit 1048576)))]) (fun _ _ hm => by cases hm) (iv2 e0 e1) r134217728to2147483647_m134217728tom1048577 w hgl
                ·
                  have e1 : (-1048576) ≤ IntKind.wrap .i32 a1 ∧ IntKind.wrap .i32 a1 ≤ (-8193) := by omega
                  exact at_ (rw := []) (iv := [(.conv .i32 (.var 0), (.ofNat (nat_lit 134217728)), (.ofNat (nat_lit 2147483647))), (.conv .i32 (.var 1), (.negSucc (nat_lit 1048575)), (.negSucc (nat_lit 8192)))]) (fun _ _ hm => by cases hm) (iv2 e0 e1) r134217728to2147483647_m1048576tom8193 w hgl
            ·
              by_cases q7 : IntKind.wrap .i32 a1 < (-64)
              ·
                have e1 : (-8192) ≤ IntKind.wrap .i32 a1 ∧ IntKind.wrap .i32 a1 ≤ (-65) := by omega
                exact at_ (rw := []) (iv := [(.conv .i32 (.var 0), (.ofNat (nat_lit 134217728)), (.ofNat (nat_lit 2147483647))), (.conv .i32 (.var 1), (.negSucc (nat_lit 8191)), (.negSucc (nat_lit 64)))]) (fun _ _ hm => by cases hm) (iv2 e0 e1) r134217728to2147483647_m8192tom65 w hgl
              ·
                by_cases q8 : IntKind.wrap .i32 a1 < 0
                ·
                  have e1 : (-64) ≤ IntKind.wrap .i32 a1 ∧ IntKind.wrap .i32 a1 ≤ (-1) := by omega
                  exact at_ (rw := []) (iv := [(.conv .i32 (.var 0), (.ofNat (nat_lit 134217728)), (.ofNat (nat_lit 2147483647))), (.conv .i32 (.var 1), (.negSucc (nat_lit 63)), (.negSucc (nat_lit 0)))]) (fun _ _ hm => by cases hm) (iv2 e0 e1) r134217728to2147483647_m64tom1 w hgl
                ·
                  have e1 : 0 ≤ IntKind.wrap .i32 a1 ∧ IntKind.wrap .i32 a1 ≤ 10 := by omega
                  exact at_ (rw := []) (iv := [(.conv .i32 (.var 0), (.ofNat (nat_lit 134217728)), (.ofNat (nat_lit 2147483647))), (.conv .i32 (.var 1), (.ofNat (nat_lit 0)), (.ofNat (nat_lit 10)))]) (fun _ _ hm => by cases hm) (iv2 e0 e1) r134217728to2147483647_0to10 w hgl
          ·
            by_cases q6 : IntKind.wrap .i32 a1 < 8192
            ·
              by_cases q7 : IntKind.wrap .i32 a1 < 12
              ·
                have e1 : IntKind.wrap .i32 a1 = 11 := by omega
                exact at_ (rw := [(.conv .i32 (.var 1), .lit (.ofNat (nat_lit 11)))]) (iv := [(.conv .i32 (.var 0), (.ofNat (nat_lit 134217728)), (.ofNat (nat_lit 2147483647)))]) (fun x y hm => by
                  simp only [List.mem_cons, List.not_mem_nil, or_false, Prod.mk.injEq] at hm
                  rcases hm with ⟨rfl, rfl⟩
                  · exact e1
                ) (iv1 e0) r134217728to2147483647_11 w hgl
              ·
                by_cases q8 : IntKind.wrap .i32 a1 < 64
                ·
                  have e1 : 12 ≤ IntKind.wrap .i32 a1 ∧ IntKind.wrap .i32 a1 ≤ 63 := by omega
                  exact at_ (rw := []) (iv := [(.conv .i32 (.var 0), (.ofNat (nat_lit 134217728)), (.ofNat (nat_lit 2147483647))), (.conv .i32 (.var 1), (.ofNat (nat_lit 12)), (.ofNat (nat_lit 63)))]) (fun _ _ hm => by cases hm) (iv2 e0 e1) r134217728to2147483647_12to63 w hgl
                ·
                  have e1 : 64 ≤ IntKind.wrap .i32 a1 ∧ IntKind.wrap .i32 a1 ≤ 8191 := by omega
                  exact at_ (rw := []) (iv := [(.conv .i32 (.var 0), (.ofNat (nat_lit 134217728)), (.ofNat (nat_lit 2147483647))), (.conv .i32 (.var 1), (.ofNat (nat_lit 64)), (.ofNat (nat_lit 8191)))]) (fun _ _ hm => by cases hm) (iv2 e0 e1) r134217728to2147483647_64to8191 w hgl
            ·
              by_cases q7 : IntKind.wrap .i32 a1 < 1048576
              ·
                have e1 : 8192 ≤ IntKind.wrap .i32 a1 ∧ IntKind.wrap .i32 a1 ≤ 1048575 := by omega
                exact at_ (rw := []) (iv := [(.conv .i32 (.var 0), (.ofNat (nat_lit 134217728)), (.ofNat (nat_lit 2147483647))), (.conv .i32 (.var 1), (.ofNat (nat_lit 8192)), (.ofNat (nat_lit 1048575)))]) (fun _ _ hm => by cases hm) (iv2 e0 e1) r134217728to2147483647_8192to1048575 w hgl
              ·
                by_cases q8 : IntKind.wrap .i32 a1 < 134217728
                ·
                  have e1 : 1048576 ≤ IntKind.wrap .i32 a1 ∧ IntKind.wrap .i32 a1 ≤ 134217727 := by omega
                  exact at_ (rw := []) (iv := [(.conv .i32 (.var 0), (.ofNat (nat_lit 134217728)), (.ofNat (nat_lit 2147483647))), (.conv .i32 (.var 1), (.ofNat (nat_lit 1048576)), (.ofNat (nat_lit 134217727)))]) (fun _ _ hm => by cases hm) (iv2 e0 e1) r134217728to2147483647_1048576to134217727 w hgl
                ·
                  have e1 : 134217728 ≤ IntKind.wrap .i32 a1 ∧ IntKind.wrap .i32 a1 ≤ 2147483647 := by omega
                  exact at_ (rw := []) (iv := [(.conv .i32 (.var 0), (.ofNat (nat_lit 134217728)), (.ofNat (nat_lit 2147483647))), (.conv .i32 (.var 1), (.ofNat (nat_lit 134217728)), (.ofNat (nat_lit 2147483647)))]) (fun _ _ hm => by cases hm) (iv2 e0 e1) r134217728to2147483647_134217728to2147483647 w hgl

/-! ### THE ROW's STEP: WRITTEN OUT: LEAVE IT -/
set_option maxRecDepth 100000 in
theorem lifted (os : Os) (started : os.Started) (H : Type) (enc : TypeId × Value → H) :
    ReturnsInHanded {} Tryz.checked os 4 .any (fun w args => (Rows.modelStacksSpec.pre enc Tryz.prog Tryz.f4 Rows.modelStacksRow.domain false w args ∧ laidMet Tryz.prog Rows.modelStacksRow.laid w) ∧ sizedMet enc Tryz.prog Tryz.f4 (OpenSpec.ofChange Rows.modelStacksSpec) false w args) (Rows.modelStacksSpec.post enc Tryz.prog Tryz.f4 false true false false) := by
  refine returnsInHanded_of_change_and (C := Tryz.checked) (X := fun w _ => laidMet Tryz.prog Rows.modelStacksRow.laid w) (fun _ _ _ hh h => h.of_heap hh) own started (by kernel_rfl) Tryz.func4
    (ChangeSpec.witness_shaped (enc := enc) (C := Tryz.checked) (os := os) (X := fun w _ => laidMet Tryz.prog Rows.modelStacksRow.laid w) false (laidWorld os #[.int .i64 0, .int .i64 0]) #[.int .i64 0, .int .i64 0] 8 rfl (World.shaped_of_RefB (by kernel_rfl) (by kernel_rfl)) (by kernel_rfl) (by kernel_rfl) (by kernel_rfl) (laid_met_modelStacks os _ _)) ?_
  intro W base args ds gs before hval0 hW hcnd _ hL _
  have hval : ∀ (j : Nat) t v, Tryz.f4.params[j]? = some t → args[j]? = some v → Value.okWide Tryz.prog W .any base t v := hval0
  have hW' := hW
  obtain ⟨p, q, hA0, hV, rfl, hfz, hnd⟩ := hW
  have hA : DataW.TrodAll enc Tryz.prog W 0 (fun _ => true) true Tryz.f4.params.toList args.toList ds p := hA0
  rw [Tryz.params4] at hA hval
  obtain ⟨v0, vs0, d0, ds0, p0, q0, hargs, rfl, rfl, h0, r0⟩ := trodAll_cons hA
  obtain ⟨v1, vs1, d1, ds1, p1, q1, rfl, rfl, rfl, h1, r1⟩ := trodAll_cons r0
  obtain ⟨rfl, rfl, rfl⟩ := trodAll_nil r1
  obtain rfl : args = #[v0, v1] := by cases args; simp_all
  obtain ⟨rfl, rfl⟩ := trodVars_none hV
  obtain ⟨a0, rfl, rfl, rfl, w0⟩ := open_int Tryz.underlying3 (hval 0 3 v0 rfl rfl) h0
  obtain ⟨a1, rfl, rfl, rfl, w1⟩ := open_int Tryz.underlying3 (hval 1 3 v1 rfl rfl) h1
  clear hA0 hval0
  simp only [List.append_nil] at hW'
  refine (walk a0 a1 w0 w1 W).mono fun e W' ⟨he, hg⟩ => ?_
  subst he
  exact ⟨_, rfl, post_of_below (pa := []) (pv := []) hW' (fun _ _ _ => (trodAll_cons_mk (shut_bool Tryz.underlying4 _) trodAll_mk0)) (fun sp _ => (trodAll_cons_mk (shut_int Tryz.underlying3 w0) (trodAll_cons_mk (shut_int Tryz.underlying3 w1) trodAll_mk0))) (fun _ _ => rfl) rfl
    hg (ok_one (by kernel_rfl) rfl (okWide_bool_mk Tryz.underlying4 _))⟩

theorem over : Rows.modelStacksRow.holds Tryz.pinned (OpenSpec.ofChange Rows.modelStacksSpec) :=
  OpenClaim.holds_of_wide 4 Tryz.f4 rfl rfl rfl rfl rfl rfl rfl ⟨rfl, rfl, rfl, rfl, rfl⟩ rfl rfl rfl rfl rfl (by kernel_rfl) Tryz.func4 joined
    (of_decide_eq_true (by kernel_rfl)) (by unfold Func.isWrapper; first | (rw [if_pos (by decide +kernel)]; kernel_rfl) | (rw [if_neg (by decide +kernel)]; exact ⟨rfl, rfl⟩))
    (fun os started H enc _ => lifted os started H enc)

/-- ████ THE STATEMENT ████ -/
theorem proved : Rows.ModelStacksCardSaid :=
  Claim7.holds_tied_plain_at .later [] [.listed, .data] true (true, "bd2ea72fb570be8efd04e8da19323e007029b4ef2c57d9fc4236a2adb4d4b959") true
    over (fun _ h => by cases h) g0 (fun _ h => by cases h) modelStacks_row_tie rfl ⟨rfl, rfl⟩ g1 rfl
    (fun f fn hf hfn => by
      obtain rfl : f = 4 := Option.some.inj (g2.symm.trans hf) |>.symm
      obtain rfl : fn = Tryz.f4 := (Option.some.inj (Tryz.func4.symm.trans hfn)).symm
      exact ⟨g3, fun j t ht => by
        rw [Tryz.params4] at ht
        have hm : t ∈ (Tryz.f4.params : Array TypeId).toList := by
          rw [Tryz.params4]
          exact Array.mem_toList_iff.2 (Array.mem_of_getElem? ht)
        have := List.all_eq_true.1 g4 t hm
        have h2 : Tryz.prog.wantsStandIn t = false := by simpa using this
        exact h2⟩)
    g5
#print axioms proved
end Go.Proofs.YtfedjkcigdgcoaaGreatDoor.modelStacks
