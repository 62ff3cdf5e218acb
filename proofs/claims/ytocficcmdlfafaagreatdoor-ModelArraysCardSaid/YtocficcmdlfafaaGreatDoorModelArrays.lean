/- gneiss/gneisslaw21.ModelArrays answers true at every input, and leaves its arguments as they were. No conditions. -/
import Derived.Test.YtocficcmdlfafaaGreatDoorRows
import Derived.WalkKit
import Derived.ProofKit
import Derived.OpenShut
import Derived.Below
import Derived.ChangeSame
import Derived.Test.YtocficcmdlfafaaGreatDoorModelArraysM
import Derived.Test.YtocficcmdlfafaaGreatDoorModelArraysR0
import Derived.Test.YtocficcmdlfafaaGreatDoorModelArraysR1
import Derived.Test.YtocficcmdlfafaaGreatDoorModelArraysR2
import Derived.Test.YtocficcmdlfafaaGreatDoorModelArraysR3
import Derived.Test.YtocficcmdlfafaaGreatDoorModelArraysR4
import Derived.Test.YtocficcmdlfafaaGreatDoorModelArraysR5
import Derived.Test.YtocficcmdlfafaaGreatDoorLaid
import Derived.Test.YtocficcmdlfafaaGreatDoorTie
import Derived.Test.YtocficcmdlfafaaGreatDoorModelArraysJ
import Derived.Test.YtocficcmdlfafaaGreatDoorCards
import Derived.SevenTiedAt
namespace Go.Proofs.YtocficcmdlfafaaGreatDoor.modelArrays
open Go.Ai Go.ChangeShapes Go.WideShapes Go.ChangeAt Go.RowKit
set_option linter.unusedVariables false

theorem own : ownKnob Tryz.prog.godebug = none := by kernel_rfl

section
variable {H : Type} {enc : TypeId × Value → H} {P : Program}
theorem post_of_below {f : Func} {s : ChangeSpec} {apart fresh handsOn again : Bool} {W W' : World} {args : Array Value} {v : Value} {ds gs : List (DataW H)} {before pa pv : List MemPlace}
    (hW : DataW.Whole enc P f.params.toList s.vars apart W args.toList ds gs before)
    (hres : ∀ (b : Nat) (sp : Nat → Bool) (hd : Bool), DataW.TrodAll enc P W' b sp hd f.resultTypes.toList (v.resultList f.resultTypes.size) (s.fn H (ds ++ gs)).results [])
    (hargs : ∀ sp : Nat → Bool, (∀ p ∈ before, sp p.block = true) → DataW.TrodAll enc P W' 0 sp true f.params.toList args.toList (s.fn H (ds ++ gs)).args pa)
    (hvars : ∀ sp : Nat → Bool, (∀ p ∈ before, sp p.block = true) → DataW.TrodVars enc P W' sp s.vars (s.fn H (ds ++ gs)).vars pv)
    (hps : before = pa ++ pv) (hb : Below W.heap.size W W')
    (hok : ∀ (j : Nat) (t : TypeId) (r : Value), f.resultTypes[j]? = some t → (v.resultList f.resultTypes.size)[j]? = some r → Value.okWide P W' .any 0 t r) :
    s.post enc P f apart fresh handsOn again W args v W' := by
  have hlt : ∀ p ∈ before, p.block < W.heap.size := fun p hp => hW.lt p hp
  have hold : ∀ p ∈ before, (fun b => decide (b < W.heap.size)) p.block = true := fun p hp => by simpa using hlt p hp
  refine ⟨ds, gs, before, [], pa, pv, hW, hres _ _ _, hargs _ hold, hvars _ hold, World.keptBut_mono (fun p hp => ⟨hp, ?_⟩) (hb.frame (· ∈ before)), fun _ => ?_⟩
  · rw [hps, List.mem_append] at hp
    exact Or.inr hp
  · obtain ⟨_, _, _, _, _, hz, hn⟩ := hW
    refine ⟨hok, _, _, ([] ++ pa) ++ pv, ⟨[] ++ pa, pv, trodAll_append (hargs _ (fun _ _ => rfl)) (hres _ _ _), hvars _ (fun _ _ => rfl), rfl, ?_, ?_⟩, ?_⟩
    · intro b off hp
      have hin : MemPlace.cell b off ∈ before := by rw [hps]; simpa using hp
      rw [hb.frozen (hlt _ hin)]
      exact hz b off hin
    · intro ha
      have := hn ha
      rw [hps] at this
      simpa using this
    · intro p hp _
      rw [hps]
      simpa using hp
end
/-! ### the walk: by the abstract machine -/
theorem pr1 {a b : Int} (ha : 0 ≤ a) (hb : b ≤ 1000) {tl : List (SI × Int × Int)} (σ : Nat → Int) (h : ∀ x lo hi, (x, lo, hi) ∈ (.bin .rem .i64 (.var 0) (.lit 1100), a, b) :: tl → lo ≤ x.ev σ ∧ x.ev σ ≤ hi) : P1 σ := by
  have k := h _ _ _ List.mem_cons_self
  change a ≤ opVal .rem .i64 (σ 0) 1100 ∧ opVal .rem .i64 (σ 0) 1100 ≤ b at k
  unfold P1
  omega
theorem pr0 {a b : Int} (hb : b < 0) {tl : List (SI × Int × Int)} (σ : Nat → Int) (h : ∀ x lo hi, (x, lo, hi) ∈ (.bin .rem .i64 (.var 0) (.lit 1100), a, b) :: tl → lo ≤ x.ev σ ∧ x.ev σ ≤ hi) : P0 σ := by
  have k := h _ _ _ List.mem_cons_self
  change a ≤ opVal .rem .i64 (σ 0) 1100 ∧ opVal .rem .i64 (σ 0) 1100 ≤ b at k
  unfold P0
  omega
theorem pr0b {a b : Int} (ha : 1000 < a) {tl : List (SI × Int × Int)} (σ : Nat → Int) (h : ∀ x lo hi, (x, lo, hi) ∈ (.bin .rem .i64 (.var 0) (.lit 1100), a, b) :: tl → lo ≤ x.ev σ ∧ x.ev σ ≤ hi) : P0 σ := by
  have k := h _ _ _ List.mem_cons_self
  change a ≤ opVal .rem .i64 (σ 0) 1100 ∧ opVal .rem .i64 (σ 0) 1100 ≤ b at k
  unfold P0
  omega
theorem sing {a b : Int} (h : a = b) : b ≤ a ∧ a ≤ b := by omega
theorem cml0 {σ : Nat → Int} : ∀ op u v r, (op, u, v, r) ∈ ([] : List (BinOp × SI × SI × Bool)) → cmpVal op (u.ev σ) (v.ev σ) = r := fun _ _ _ _ hm => by cases hm
theorem rwl0 {σ : Nat → Int} : ∀ u v, (u, v) ∈ ([] : List (SI × SI)) → u.ev σ = v.ev σ := fun _ _ hm => by cases hm
theorem rwl1 {σ : Nat → Int} {x0 y0 : SI} (h0 : x0.ev σ = y0.ev σ) : ∀ u v, (u, v) ∈ [(x0, y0)] → u.ev σ = v.ev σ := by
  intro u v hm
  simp only [List.mem_cons, List.not_mem_nil, or_false, Prod.mk.injEq] at hm
  obtain ⟨rfl, rfl⟩ := hm
  exact h0
theorem at_0 {a0 : Int} {a1 : Int} {a2 : Int} {rw : List (SI × SI)} {cm : List (BinOp × SI × SI × Bool)} {iv : List (SI × Int × Int)} (r : yes (run m0 rw cm iv) = true) (hr : ∀ x y, (x, y) ∈ rw → x.ev (fun i => if i = 0 then a0 else if i = 1 then a1 else if i = 2 then a2 else 0) = y.ev (fun i => if i = 0 then a0 else if i = 1 then a1 else if i = 2 then a2 else 0)) (hc : ∀ op x y r, (op, x, y, r) ∈ cm → cmpVal op (x.ev (fun i => if i = 0 then a0 else if i = 1 then a1 else if i = 2 then a2 else 0)) (y.ev (fun i => if i = 0 then a0 else if i = 1 then a1 else if i = 2 then a2 else 0)) = r) (hi : ∀ x lo hi, (x, lo, hi) ∈ iv → lo ≤ x.ev (fun i => if i = 0 then a0 else if i = 1 then a1 else if i = 2 then a2 else 0) ∧ x.ev (fun i => if i = 0 then a0 else if i = 1 then a1 else if i = 2 then a2 else 0) ≤ hi)
    (hP : ∀ σ, (∀ x lo hi, (x, lo, hi) ∈ iv → lo ≤ x.ev σ ∧ x.ev σ ≤ hi) → P0 σ) (w : World) (hgl : GlOk gl w) : Calls Tryz.prog 6 #[.int .i64 a0, .int .i64 a1, .int .i64 a2] w fun e w' => e = .returned (.bool true) ∧ Below w.heap.size w w' :=
  haveI : GlOk gl w := hgl
  haveI : GlOk (cfR rw cm iv).gl w := hgl
  soundC comp.mixed comp.TOk (over := ovR m0 rw cm iv) (cf := cfR rw cm iv) (σ := fun i => if i = 0 then a0 else if i = 1 then a1 else if i = 2 then a2 else 0) (xs := [.int .i64 a0, .int .i64 a1, .int .i64 a2]) (fun _ h => ov0_ok rfl rfl (overM_okC (m0ok w) (fun σ h => hP σ h.2.2.1) (overJ_ok (fun e lo hi => subJ_ok w rw cm iv e lo hi) h)))
    ⟨hr, hc, hi, fun _ _ _ _ hm => (by cases hm)⟩
    (.cons (.int .i64 (.var 0)) (.cons (.int .i64 (.var 1)) (.cons (.int .i64 (.var 2)) .nil))) r
theorem at_1 {a0 : Int} {a1 : Int} {a2 : Int} {rw : List (SI × SI)} {cm : List (BinOp × SI × SI × Bool)} {iv : List (SI × Int × Int)} (r : yes (run m1 rw cm iv) = true) (hr : ∀ x y, (x, y) ∈ rw → x.ev (fun i => if i = 0 then a0 else if i = 1 then a1 else if i = 2 then a2 else 0) = y.ev (fun i => if i = 0 then a0 else if i = 1 then a1 else if i = 2 then a2 else 0)) (hc : ∀ op x y r, (op, x, y, r) ∈ cm → cmpVal op (x.ev (fun i => if i = 0 then a0 else if i = 1 then a1 else if i = 2 then a2 else 0)) (y.ev (fun i => if i = 0 then a0 else if i = 1 then a1 else if i = 2 then a2 else 0)) = r) (hi : ∀ x lo hi, (x, lo, hi) ∈ iv → lo ≤ x.ev (fun i => if i = 0 then a0 else if i = 1 then a1 else if i = 2 then a2 else 0) ∧ x.ev (fun i => if i = 0 then a0 else if i = 1 then a1 else if i = 2 then a2 else 0) ≤ hi)
    (hP : ∀ σ, (∀ x lo hi, (x, lo, hi) ∈ iv → lo ≤ x.ev σ ∧ x.ev σ ≤ hi) → P1 σ) (w : World) (hgl : GlOk gl w) : Calls Tryz.prog 6 #[.int .i64 a0, .int .i64 a1, .int .i64 a2] w fun e w' => e = .returned (.bool true) ∧ Below w.heap.size w w' :=
  haveI : GlOk gl w := hgl
  haveI : GlOk (cfR rw cm iv).gl w := hgl
  soundC comp.mixed comp.TOk (over := ovR m1 rw cm iv) (cf := cfR rw cm iv) (σ := fun i => if i = 0 then a0 else if i = 1 then a1 else if i = 2 then a2 else 0) (xs := [.int .i64 a0, .int .i64 a1, .int .i64 a2]) (fun _ h => ov0_ok rfl rfl (overM_okC (m1ok w) (fun σ h => hP σ h.2.2.1) (overJ_ok (fun e lo hi => subJ_ok w rw cm iv e lo hi) h)))
    ⟨hr, hc, hi, fun _ _ _ _ hm => (by cases hm)⟩
    (.cons (.int .i64 (.var 0)) (.cons (.int .i64 (.var 1)) (.cons (.int .i64 (.var 2)) .nil))) r
theorem walk (a0 : Int) (a1 : Int) (a2 : Int) (w0 : (Lit.int .i64 a0).wf = true) (w1 : (Lit.int .i64 a1).wf = true) (w2 : (Lit.int .i64 a2).wf = true) (w : World) (hgl : GlOk gl w) :
    Calls Tryz.prog 6 #[.int .i64 a0, .int .i64 a1, .int .i64 a2] w fun e w' => e = .returned (.bool true) ∧ Below w.heap.size w w' := by
  have g0 := rng0 a0
  have g1 := rng1 a1
  have g2 := rng2 a2
  by_cases n0 : opVal .rem .i64 a0 1100 < 0
  ·
    have c0 : -1099 ≤ opVal .rem .i64 a0 1100 ∧ opVal .rem .i64 a0 1100 ≤ -1 := by omega
    exact at_0 ra rwl0 cml0 (iv3 c0 g1 g2) (pr0 (by decide)) w hgl
  by_cases n1 : 1000 < opVal .rem .i64 a0 1100
  ·
    have c0 : 1001 ≤ opVal .rem .i64 a0 1100 ∧ opVal .rem .i64 a0 1100 ≤ 1099 := by omega
    exact at_0 rb rwl0 cml0 (iv3 c0 g1 g2) (pr0b (by decide)) w hgl
  by_cases n2 : opVal .rem .i64 a1 20 < 0
  ·
    have c0 : 0 ≤ opVal .rem .i64 a0 1100 ∧ opVal .rem .i64 a0 1100 ≤ 1000 := by omega
    have c1 : -19 ≤ opVal .rem .i64 a1 20 ∧ opVal .rem .i64 a1 20 ≤ -1 := by omega
    exact at_1 rn rwl0 cml0 (iv3 c0 c1 g2) (pr1 (by decide) (by decide)) w hgl
  by_cases q1 : opVal .rem .i64 a1 20 < 10
  ·
    by_cases q2 : opVal .rem .i64 a1 20 < 5
    ·
      by_cases q3 : opVal .rem .i64 a1 20 < 2
      ·
        by_cases q4 : opVal .rem .i64 a1 20 < 1
        ·
          have e1 : opVal .rem .i64 a1 20 = 0 := by omega
          by_cases c : opVal .rem .i64 a0 1100 ≤ 0
          ·
            have c0 : 0 ≤ opVal .rem .i64 a0 1100 ∧ opVal .rem .i64 a0 1100 ≤ 0 := by omega
            exact at_1 rl0 (rwl1 e1) cml0 (iv3 c0 (sing e1) g2) (pr1 (by decide) (by decide)) w hgl
          ·
            have c0 : 1 ≤ opVal .rem .i64 a0 1100 ∧ opVal .rem .i64 a0 1100 ≤ 1000 := by omega
            exact at_1 rh0 (rwl1 e1) cml0 (iv3 c0 (sing e1) g2) (pr1 (by decide) (by decide)) w hgl
        ·
          have e1 : opVal .rem .i64 a1 20 = 1 := by omega
          by_cases c : opVal .rem .i64 a0 1100 ≤ 1
          ·
            have c0 : 0 ≤ opVal .rem .i64 a0 1100 ∧ opVal .rem .i64 a0 1100 ≤ 1 := by omega
            exact at_1 rl1 (rwl1 e1) cml0 (iv3 c0 (sing e1) g2) (pr1 (by decide) (by decide)) w hgl
          ·
            have c0 : 2 ≤ opVal .rem .i64 a0 1100 ∧ opVal .rem .i64 a0 1100 ≤ 1000 := by omega
            exact at_1 rh1 (rwl1 e1) cml0 (iv3 c0 (sing e1) g2) (pr1 (by decide) (by decide)) w hgl
      ·
        by_cases q4 : opVal .rem .i64 a1 20 < 3
        ·
          have e1 : opVal .rem .i64 a1 20 = 2 := by omega
          by_cases c : opVal .rem .i64 a0 1100 ≤ 2
          ·
            have c0 : 0 ≤ opVal .rem .i64 a0 1100 ∧ opVal .rem .i64 a0 1100 ≤ 2 := by omega
            exact at_1 rl2 (rwl1 e1) cml0 (iv3 c0 (sing e1) g2) (pr1 (by decide) (by decide)) w hgl
          ·
            have c0 : 3 ≤ opVal .rem .i64 a0 1100 ∧ opVal .rem .i64 a0 1100 ≤ 1000 := by omega
            exact at_1 rh2 (rwl1 e1) cml0 (iv3 c0 (sing e1) g2) (pr1 (by decide) (by decide)) w hgl
        ·
          by_cases q5 : opVal .rem .i64 a1 20 < 4
          ·
            have e1 : opVal .rem .i64 a1 20 = 3 := by omega
            by_cases c : opVal .rem .i64 a0 1100 ≤ 3
            ·
              have c0 : 0 ≤ opVal .rem .i64 a0 1100 ∧ opVal .rem .i64 a0 1100 ≤ 3 := by omega
              exact at_1 rl3 (rwl1 e1) cml0 (iv3 c0 (sing e1) g2) (pr1 (by decide) (by decide)) w hgl
            ·
              have c0 : 4 ≤ opVal .rem .i64 a0 1100 ∧ opVal .rem .i64 a0 1100 ≤ 1000 := by omega
              exact at_1 rh3 (rwl1 e1) cml0 (iv3 c0 (sing e1) g2) (pr1 (by decide) (by decide)) w hgl
          ·
            have e1 : opVal .rem .i64 a1 20 = 4 := by omega
            by_cases c : opVal .rem .i64 a0 1100 ≤ 4
            ·
              have c0 : 0 ≤ opVal .rem .i64 a0 1100 ∧ opVal .rem .i64 a0 1100 ≤ 4 := by omega
              exact at_1 rl4 (rwl1 e1) cml0 (iv3 c0 (sing e1) g2) (pr1 (by decide) (by decide)) w hgl
            ·
              have c0 : 5 ≤ opVal .rem .i64 a0 1100 ∧ opVal .rem .i64 a0 1100 ≤ 1000 := by omega
              exact at_1 rh4 (rwl1 e1) cml0 (iv3 c0 (sing e1) g2) (pr1 (by decide) (by decide)) w hgl
    ·
      by_cases q3 : opVal .rem .i64 a1 20 < 7
      ·
        by_cases q4 : opVal .rem .i64 a1 20 < 6
        ·
          have e1 : opVal .rem .i64 a1 20 = 5 := by omega
          by_cases c : opVal .rem .i64 a0 1100 ≤ 5
          ·
            have c0 : 0 ≤ opVal .rem .i64 a0 1100 ∧ opVal .rem .i64 a0 1100 ≤ 5 := by omega
            exact at_1 rl5 (rwl1 e1) cml0 (iv3 c0 (sing e1) g2) (pr1 (by decide) (by decide)) w hgl
          ·
            have c0 : 6 ≤ opVal .rem .i64 a0 1100 ∧ opVal .rem .i64 a0 1100 ≤ 1000 := by omega
            exact at_1 rh5 (rwl1 e1) cml0 (iv3 c0 (sing e1) g2) (pr1 (by decide) (by decide)) w hgl
        ·
          have e1 : opVal .rem .i64 a1 20 = 6 := by omega
          by_cases c : opVal .rem .i64 a0 1100 ≤ 6
          ·
            have c0 : 0 ≤ opVal .rem .i64 a0 1100 ∧ opVal .rem .i64 a0 1100 ≤ 6 := by omega
            exact at_1 rl6 (rwl1 e1) cml0 (iv3 c0 (sing e1) g2) (pr1 (by decide) (by decide)) w hgl
          ·
            have c0 : 7 ≤ opVal .rem .i64 a0 1100 ∧ opVal .rem .i64 a0 1100 ≤ 1000 := by omega
            exact at_1 rh6 (rwl1 e1) cml0 (iv3 c0 (sing e1) g2) (pr1 (by decide) (by decide)) w hgl
      ·
        by_cases q4 : opVal .rem .i64 a1 20 < 8
        ·
          have e1 : opVal .rem .i64 a1 20 = 7 := by omega
          by_cases c : opVal .rem .i64 a0 1100 ≤ 7
          ·
            have c0 : 0 ≤ opVal .rem .i64 a0 1100 ∧ opVal .rem .i64 a0 1100 ≤ 7 := by omega
            exact at_1 rl7 (rwl1 e1) cml0 (iv3 c0 (sing e1) g2) (pr1 (by decide) (by decide)) w hgl
          ·
            have c0 : 8 ≤ opVal .rem .i64 a0 1100 ∧ opVal .rem .i64 a0 1100 ≤ 1000 := by omega
            exact at_1 rh7 (rwl1 e1) cml0 (iv3 c0 (sing e1) g2) (pr1 (by decide) (by decide)) w hgl
        ·
          by_cases q5 : opVal .rem .i64 a1 20 < 9
          ·
            have e1 : opVal .rem .i64 a1 20 = 8 := by omega
            by_cases c : opVal .rem .i64 a0 1100 ≤ 8
            ·
              have c0 : 0 ≤ opVal .rem .i64 a0 1100 ∧ opVal .rem .i64 a0 1100 ≤ 8 := by omega
              exact at_1 rl8 (rwl1 e1) cml0 (iv3 c0 (sing e1) g2) (pr1 (by decide) (by decide)) w hgl
            ·
              have c0 : 9 ≤ opVal .rem .i64 a0 1100 ∧ opVal .rem .i64 a0 1100 ≤ 1000 := by omega
              exact at_1 rh8 (rwl1 e1) cml0 (iv3 c0 (sing e1) g2) (pr1 (by decide) (by decide)) w hgl
          ·
            have e1 : opVal .rem .i64 a1 20 = 9 := by omega
            by_cases c : opVal .rem .i64 a0 1100 ≤ 9
            ·
              have c0 : 0 ≤ opVal .rem .i64 a0 1100 ∧ opVal .rem .i64 a0 1100 ≤ 9 := by omega
              exact at_1 rl9 (rwl1 e1) cml0 (iv3 c0 (sing e1) g2) (pr1 (by decide) (by decide)) w hgl
            ·
              have c0 : 10 ≤ opVal .rem .i64 a0 1100 ∧ opVal .rem .i64 a0 1100 ≤ 1000 := by omega
              exact at_1 rh9 (rwl1 e1) cml0 (iv3 c0 (sing e1) g2) (pr1 (by decide) (by decide)) w hgl
  ·
    by_cases q2 : opVal .rem .i64 a1 20 < 15
    ·
      by_cases q3 : opVal .rem .i64 a1 20 < 12
      ·
        by_cases q4 : opVal .rem .i64 a1 20 < 11
        ·
          have e1 : opVal .rem .i64 a1 20 = 10 := by omega
          by_cases c : opVal .rem .i64 a0 1100 ≤ 10
          ·
            have c0 : 0 ≤ opVal .rem .i64 a0 1100 ∧ opVal .rem .i64 a0 1100 ≤ 10 := by omega
            exact at_1 rl10 (rwl1 e1) cml0 (iv3 c0 (sing e1) g2) (pr1 (by decide) (by decide)) w hgl
          ·
            have c0 : 11 ≤ opVal .rem .i64 a0 1100 ∧ opVal .rem .i64 a0 1100 ≤ 1000 := by omega
            exact at_1 rh10 (rwl1 e1) cml0 (iv3 c0 (sing e1) g2) (pr1 (by decide) (by decide)) w hgl
        ·
          have e1 : opVal .rem .i64 a1 20 = 11 := by omega
          by_cases c : opVal .rem .i64 a0 1100 ≤ 11
          ·
            have c0 : 0 ≤ opVal .rem .i64 a0 1100 ∧ opVal .rem .i64 a0 1100 ≤ 11 := by omega
            exact at_1 rl11 (rwl1 e1) cml0 (iv3 c0 (sing e1) g2) (pr1 (by decide) (by decide)) w hgl
          ·
            have c0 : 12 ≤ opVal .rem .i64 a0 1100 ∧ opVal .rem .i64 a0 1100 ≤ 1000 := by omega
            exact at_1 rh11 (rwl1 e1) cml0 (iv3 c0 (sing e1) g2) (pr1 (by decide) (by decide)) w hgl
      ·
        by_cases q4 : opVal .rem .i64 a1 20 < 13
        ·
          have e1 : opVal .rem .i64 a1 20 = 12 := by omega
          by_cases c : opVal .rem .i64 a0 1100 ≤ 12
          ·
            have c0 : 0 ≤ opVal .rem .i64 a0 1100 ∧ opVal .rem .i64 a0 1100 ≤ 12 := by omega
            exact at_1 rl12 (rwl1 e1) cml0 (iv3 c0 (sing e1) g2) (pr1 (by decide) (by decide)) w hgl
          ·
            have c0 : 13 ≤ opVal .rem .i64 a0 1100 ∧ opVal .rem .i64 a0 1100 ≤ 1000 := by omega
            exact at_1 rh12 (rwl1 e1) cml0 (iv3 c0 (sing e1) g2) (pr1 (by decide) (by decide)) w hgl
        ·
          by_cases q5 : opVal .rem .i64 a1 20 < 14
          ·
            have e1 : opVal .rem .i64 a1 20 = 13 := by omega
            by_cases c : opVal .rem .i64 a0 1100 ≤ 13
            ·
              have c0 : 0 ≤ opVal .rem .i64 a0 1100 ∧ opVal .rem .i64 a0 1100 ≤ 13 := by omega
              exact at_1 rl13 (rwl1 e1) cml0 (iv3 c0 (sing e1) g2) (pr1 (by decide) (by decide)) w hgl
            ·
              have c0 : 14 ≤ opVal .rem .i64 a0 1100 ∧ opVal .rem .i64 a0 1100 ≤ 1000 := by omega
              exact at_1 rh13 (rwl1 e1) cml0 (iv3 c0 (sing e1) g2) (pr1 (by decide) (by decide)) w hgl
          ·
            have e1 : opVal .rem .i64 a1 20 = 14 := by omega
            by_cases c : opVal .rem .i64 a0 1100 ≤ 14
            ·
              have c0 : 0 ≤ opVal .rem .i64 a0 1100 ∧ opVal .rem .i64 a0 1100 ≤ 14 := by omega
              exact at_1 rl14 (rwl1 e1) cml0 (iv3 c0 (sing e1) g2) (pr1 (by decide) (by decide)) w hgl
            ·
              have c0 : 15 ≤ opVal .rem .i64 a0 1100 ∧ opVal .rem .i64 a0 1100 ≤ 1000 := by omega
              exact at_1 rh14 (rwl1 e1) cml0 (iv3 c0 (sing e1) g2) (pr1 (by decide) (by decide)) w hgl
    ·
      by_cases q3 : opVal .rem .i64 a1 20 < 17
      ·
        by_cases q4 : opVal .rem .i64 a1 20 < 16
        ·
          have e1 : opVal .rem .i64 a1 20 = 15 := by omega
          by_cases c : opVal .rem .i64 a0 1100 ≤ 15
          ·
            have c0 : 0 ≤ opVal .rem .i64 a0 1100 ∧ opVal .rem .i64 a0 1100 ≤ 15 := by omega
            exact at_1 rl15 (rwl1 e1) cml0 (iv3 c0 (sing e1) g2) (pr1 (by decide) (by decide)) w hgl
          ·
            have c0 : 16 ≤ opVal .rem .i64 a0 1100 ∧ opVal .rem .i64 a0 1100 ≤ 1000 := by omega
            exact at_1 rh15 (rwl1 e1) cml0 (iv3 c0 (sing e1) g2) (pr1 (by decide) (by decide)) w hgl
        ·
          have e1 : opVal .rem .i64 a1 20 = 16 := by omega
          by_cases c : opVal .rem .i64 a0 1100 ≤ 16
          ·
            have c0 : 0 ≤ opVal .rem .i64 a0 1100 ∧ opVal .rem .i64 a0 1100 ≤ 16 := by omega
            exact at_1 rl16 (rwl1 e1) cml0 (iv3 c0 (sing e1) g2) (pr1 (by decide) (by decide)) w hgl
          ·
            have c0 : 17 ≤ opVal .rem .i64 a0 1100 ∧ opVal .rem .i64 a0 1100 ≤ 1000 := by omega
            exact at_1 rh16 (rwl1 e1) cml0 (iv3 c0 (sing e1) g2) (pr1 (by decide) (by decide)) w hgl
      ·
        by_cases q4 : opVal .rem .i64 a1 20 < 18
        ·
          have e1 : opVal .rem .i64 a1 20 = 17 := by omega
          by_cases c : opVal .rem .i64 a0 1100 ≤ 17
          ·
            have c0 : 0 ≤ opVal .rem .i64 a0 1100 ∧ opVal .rem .i64 a0 1100 ≤ 17 := by omega
            exact at_1 rl17 (rwl1 e1) cml0 (iv3 c0 (sing e1) g2) (pr1 (by decide) (by decide)) w hgl
          ·
            have c0 : 18 ≤ opVal .rem .i64 a0 1100 ∧ opVal .rem .i64 a0 1100 ≤ 1000 := by omega
            exact at_1 rh17 (rwl1 e1) cml0 (iv3 c0 (sing e1) g2) (pr1 (by decide) (by decide)) w hgl
        ·
          by_cases q5 : opVal .rem .i64 a1 20 < 19
          ·
            have e1 : opVal .rem .i64 a1 20 = 18 := by omega
            by_cases c : opVal .rem .i64 a0 1100 ≤ 18
            ·
              have c0 : 0 ≤ opVal .rem .i64 a0 1100 ∧ opVal .rem .i64 a0 1100 ≤ 18 := by omega
              exact at_1 rl18 (rwl1 e1) cml0 (iv3 c0 (sing e1) g2) (pr1 (by decide) (by decide)) w hgl
            ·
              have c0 : 19 ≤ opVal .rem .i64 a0 1100 ∧ opVal .rem .i64 a0 1100 ≤ 1000 := by omega
              exact at_1 rh18 (rwl1 e1) cml0 (iv3 c0 (sing e1) g2) (pr1 (by decide) (by decide)) w hgl
          ·
            have e1 : opVal .rem .i64 a1 20 = 19 := by omega
            by_cases c : opVal .rem .i64 a0 1100 ≤ 19
            ·
              have c0 : 0 ≤ opVal .rem .i64 a0 1100 ∧ opVal .rem .i64 a0 1100 ≤ 19 := by omega
              exact at_1 rl19 (rwl1 e1) cml0 (iv3 c0 (sing e1) g2) (pr1 (by decide) (by decide)) w hgl
            ·
              have c0 : 20 ≤ opVal .rem .i64 a0 1100 ∧ opVal .rem .i64 a0 1100 ≤ 1000 := by omega
              exact at_1 rh19 (rwl1 e1) cml0 (iv3 c0 (sing e1) g2) (pr1 (by decide) (by decide)) w hgl

/-! ### THE ROW's STEP: WRITTEN OUT: LEAVE IT -/
set_option maxRecDepth 100000 in
theorem lifted (os : Os) (started : os.Started) (H : Type) (enc : TypeId × Value → H) :
    ReturnsInHanded {} Tryz.checked os 6 .any (fun w args => (Rows.modelArraysSpec.pre enc Tryz.prog Tryz.f6 Rows.modelArraysRow.domain false w args ∧ laidMet Tryz.prog Rows.modelArraysRow.laid w) ∧ sizedMet enc Tryz.prog Tryz.f6 (OpenSpec.ofChange Rows.modelArraysSpec) false w args) (Rows.modelArraysSpec.post enc Tryz.prog Tryz.f6 false true false false) := by
  refine returnsInHanded_of_change_and (C := Tryz.checked) (X := fun w _ => laidMet Tryz.prog Rows.modelArraysRow.laid w) (fun _ _ _ hh h => h.of_heap hh) own started (by kernel_rfl) Tryz.func6
    (ChangeSpec.witness_shaped (enc := enc) (C := Tryz.checked) (os := os) (X := fun w _ => laidMet Tryz.prog Rows.modelArraysRow.laid w) false (laidWorld os #[.int .i64 0, .int .i64 0, .int .i64 0]) #[.int .i64 0, .int .i64 0, .int .i64 0] 8 rfl (World.shaped_of_RefB (by kernel_rfl) (by kernel_rfl)) (by kernel_rfl) (by kernel_rfl) (by kernel_rfl) (laid_met_modelArrays os _ _)) ?_
  intro W base args ds gs before hval0 hW hcnd _ hL _
  have hval : ∀ (j : Nat) t v, Tryz.f6.params[j]? = some t → args[j]? = some v → Value.okWide Tryz.prog W .any base t v := hval0
  have hW' := hW
  obtain ⟨p, q, hA0, hV, rfl, hfz, hnd⟩ := hW
  have hA : DataW.TrodAll enc Tryz.prog W 0 (fun _ => true) true Tryz.f6.params.toList args.toList ds p := hA0
  rw [Tryz.params6] at hA hval
  obtain ⟨v0, vs0, d0, ds0, p0, q0, hargs, rfl, rfl, h0, r0⟩ := trodAll_cons hA
  obtain ⟨v1, vs1, d1, ds1, p1, q1, rfl, rfl, rfl, h1, r1⟩ := trodAll_cons r0
  obtain ⟨v2, vs2, d2, ds2, p2, q2, rfl, rfl, rfl, h2, r2⟩ := trodAll_cons r1
  obtain ⟨rfl, rfl, rfl⟩ := trodAll_nil r2
  obtain rfl : args = #[v0, v1, v2] := by cases args; simp_all
  obtain ⟨rfl, rfl⟩ := trodVars_none hV
  obtain ⟨a0, rfl, rfl, rfl, w0⟩ := open_int Tryz.underlying3 (hval 0 3 v0 rfl rfl) h0
  obtain ⟨a1, rfl, rfl, rfl, w1⟩ := open_int Tryz.underlying3 (hval 1 3 v1 rfl rfl) h1
  obtain ⟨a2, rfl, rfl, rfl, w2⟩ := open_int Tryz.underlying3 (hval 2 3 v2 rfl rfl) h2
  clear hA0 hval0
  simp only [List.append_nil] at hW'
  refine (walk a0 a1 a2 w0 w1 w2 W (gl_of_laid_modelArrays hL)).mono fun e W' ⟨he, hg⟩ => ?_
  subst he
  exact ⟨_, rfl, post_of_below (pa := []) (pv := []) hW' (fun _ _ _ => (trodAll_cons_mk (shut_bool Tryz.underlying4 _) trodAll_mk0)) (fun sp _ => (trodAll_cons_mk (shut_int Tryz.underlying3 w0) (trodAll_cons_mk (shut_int Tryz.underlying3 w1) (trodAll_cons_mk (shut_int Tryz.underlying3 w2) trodAll_mk0)))) (fun _ _ => rfl) rfl
    hg (ok_one (by kernel_rfl) rfl (okWide_bool_mk Tryz.underlying4 _))⟩

theorem over : Rows.modelArraysRow.holds Tryz.pinned (OpenSpec.ofChange Rows.modelArraysSpec) :=
  OpenClaim.holds_of_wide 6 Tryz.f6 rfl rfl rfl rfl rfl rfl rfl ⟨rfl, rfl, rfl, rfl, rfl⟩ rfl rfl rfl rfl rfl (by kernel_rfl) Tryz.func6 joined
    (of_decide_eq_true (by kernel_rfl)) (by unfold Func.isWrapper; first | (rw [if_pos (by decide +kernel)]; kernel_rfl) | (rw [if_neg (by decide +kernel)]; exact ⟨rfl, rfl⟩))
    (fun os started H enc _ => lifted os started H enc)

/-- ████ THE STATEMENT ████ -/
theorem proved : Rows.ModelArraysCardSaid :=
  Claim7.holds_tied_plain_at .later [] [.listed, .data] true (true, "8609ea2ad4fb1bdddae7411b9f3c1d7cdb53ccd46ab9348ec24f64e3358e183c") true
    over (fun _ h => by cases h) g0 (fun _ h => by cases h) modelArrays_row_tie rfl ⟨rfl, rfl⟩ g1 rfl
    (fun f fn hf hfn => by
      obtain rfl : f = 6 := Option.some.inj (g2.symm.trans hf) |>.symm
      obtain rfl : fn = Tryz.f6 := (Option.some.inj (Tryz.func6.symm.trans hfn)).symm
      exact ⟨g3, fun j t ht => by
        rw [Tryz.params6] at ht
        have hm : t ∈ (Tryz.f6.params : Array TypeId).toList := by
          rw [Tryz.params6]
          exact Array.mem_toList_iff.2 (Array.mem_of_getElem? ht)
        have := List.all_eq_true.1 g4 t hm
        have h2 : Tryz.prog.wantsStandIn t = false := by simpa using this
        exact h2⟩)
    g5
#print axioms proved
end Go.Proofs.YtocficcmdlfafaaGreatDoor.modelArrays
