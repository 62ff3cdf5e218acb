/- The runs of gneiss/gneisslaw21.ModelArrays: what they are; where they come to class.Encode. -/
import Derived.Test.YtocficcmdlfafaaGreatDoorCompK
import Derived.Test.YtocficcmdlfafaaGreatDoorAj2
import Derived.Test.YtocficcmdlfafaaGreatDoorFact
import Derived.Test.YtocficcmdlfafaaGreatDoorLaid
import Derived.Laws.Bits64
namespace Go.Proofs.YtocficcmdlfafaaGreatDoor.modelArrays
open Go Go.RowKit Go.Proofs Go.Ai Go.Proofs.YtocficcmdlfafaaGreatDoor.comp
set_option linter.unusedVariables false
noncomputable def gl : Nat → Option (List AV) := laidGl
noncomputable def cfl : Cf := ⟨[], [], [], fun _ _ _ => none, gl⟩
noncomputable def cfR (rw : List (SI × SI)) (cm : List (BinOp × SI × SI × Bool)) (iv : List (SI × Int × Int)) : Cf := ⟨rw, cm, iv, fun _ _ _ => none, gl⟩
noncomputable def cfB (iv : List (SI × Int × Int)) : Cf := cfR [] [] iv
noncomputable def ov0 (rw : List (SI × SI)) (c : CallF) : CallF := overC 8 (overF 9 (Go.Proofs.YtocficcmdlfafaaGreatDoor.fact.ruleR rw) c)
noncomputable def stop (iv : List (SI × Int × Int)) : KR := runC Tryz.prog (cfR [] [] iv) T (fun c => ov0 [] (stopAt 54 c)) 1000000 200 6 [.int .i64 (.var 0), .int .i64 (.var 1), .int .i64 (.var 2)]
noncomputable def mOf (q : KR) : Fm := ⟨54, argsOf q, reachV hpOf q (argsOf q), (hpOf q).nx, P.of 20000, .tup [.top, .int .i64 (.lit (.ofNat (nat_lit 0)))]⟩
noncomputable def m0 : Fm := mOf (stop [(.bin .rem .i64 (.var 0) (.lit 1100), (.negSucc (nat_lit 1098)), (.negSucc (nat_lit 0))), (.bin .rem .i64 (.var 1) (.lit 20), (.negSucc (nat_lit 18)), (.ofNat (nat_lit 19))), (.conv .i32 (.var 2), (.negSucc (nat_lit 2147483647)), (.ofNat (nat_lit 2147483647)))])
noncomputable def m1 : Fm := mOf (stop [(.bin .rem .i64 (.var 0) (.lit 1100), (.ofNat (nat_lit 0)), (.ofNat (nat_lit 1000))), (.bin .rem .i64 (.var 1) (.lit 20), (.negSucc (nat_lit 18)), (.negSucc (nat_lit 0))), (.conv .i32 (.var 2), (.negSucc (nat_lit 2147483647)), (.ofNat (nat_lit 2147483647)))])
noncomputable def callE (iv : List (SI × Int × Int)) : CallF := (bothC Tryz.prog (cfB iv) T (ov0 []) 1000000 200).1
noncomputable def cutsO : List Int := [(.ofNat (nat_lit 11)), (.ofNat (nat_lit 12))]
noncomputable def subJ (rw : List (SI × SI)) (cm : List (BinOp × SI × SI × Bool)) (iv : List (SI × Int × Int)) (e : SI) (lo hi : Int) : CallF := (bothC Tryz.prog (addIv (cfR rw cm iv) e lo hi) T (ov0 rw) 1000000 200).1
noncomputable def ovR (m : Fm) (rw : List (SI × SI)) (cm : List (BinOp × SI × SI × Bool)) (iv : List (SI × Int × Int)) (c : CallF) : CallF := ov0 rw (overM (cfR rw cm iv) m (overJ (cfR rw cm iv) 168 cutsO (subJ rw cm iv) c))
noncomputable def run (m : Fm) (rw : List (SI × SI)) (cm : List (BinOp × SI × SI × Bool)) (iv : List (SI × Int × Int)) : KR := runC Tryz.prog (cfR rw cm iv) T (ovR m rw cm iv) 1000000 200 6 [.int .i64 (.var 0), .int .i64 (.var 1), .int .i64 (.var 2)]
theorem awakes : Awake Tryz.prog gl 8 := fun w hw =>
  haveI : GlOk cfl.gl w := hw
  soundC mixed TOk (over := id) (cf := cfl) (fuel := 1000000) (d := 200) (f := 8) (avs := []) (xs := []) (σ := fun _ => 0) (fun _ h => h)
    ⟨fun _ _ hm => (by cases hm), fun _ _ _ _ hm => (by cases hm), fun _ _ _ hm => (by cases hm), fun _ _ _ _ hm => (by cases hm)⟩ .nil (by kernel_rfl)
theorem ov0_ok {W0 : World} {cf : Cf} [GlOk cf.gl W0] (hg : cf.gl = gl) {rw : List (SI × SI)} (hrw : cf.rw = rw) {c : CallF} (h : CallOk Tryz.prog W0 cf c) : CallOk Tryz.prog W0 cf (ov0 rw c) := by
  subst hrw
  exact overC_ok (by rw [hg]; exact awakes) (overF_ok (Go.Proofs.YtocficcmdlfafaaGreatDoor.fact.okR cf) h)
theorem callE_ok (W0 : World) [hg : GlOk gl W0] (iv : List (SI × Int × Int)) : CallOk Tryz.prog W0 (cfB iv) (callE iv) :=
  haveI : GlOk (cfB iv).gl W0 := hg
  (bothC_ok TOk (fun call h => drawK_ok mixed h) (fun c h => ov0_ok rfl rfl h) 1000000 200).1
theorem subJ_ok (W0 : World) [hg : GlOk gl W0] (rw : List (SI × SI)) (cm : List (BinOp × SI × SI × Bool)) (iv : List (SI × Int × Int)) (e : SI) (lo hi : Int) : CallOk Tryz.prog W0 (addIv (cfR rw cm iv) e lo hi) (subJ rw cm iv e lo hi) :=
  haveI : GlOk (addIv (cfR rw cm iv) e lo hi).gl W0 := hg
  (bothC_ok TOk (fun call h => drawK_ok mixed h) (fun c h => ov0_ok rfl rfl h) 1000000 200).1
theorem case_ {m : Fm} {W0 : World} [hg : GlOk gl W0] {iv : List (SI × Int × Int)} {E : Env} {w : World} {xs : List Value} (r : outOk (cfB iv) m (callE iv m.g m.args ⟨m.nx0, m.T0⟩) = true) (hi : ∀ x lo hi, (x, lo, hi) ∈ iv → lo ≤ x.ev E.σ ∧ x.ev E.σ ≤ hi)
    (hr : HR Tryz.prog W0 E (Hp.mk m.nx0 m.T0).f m.nx0.toNat w) (hx : VRs E m.args xs) : CallRes Tryz.prog W0 E ⟨m.nx0, m.T0⟩ w m.g xs (.ret m.v ⟨m.nx1, m.T0⟩) := by
  have hcf : (cfB iv).ok E.σ := ⟨fun _ _ hm => (by cases hm), fun _ _ _ _ hm => (by cases hm), hi, fun _ _ _ _ hm => (by cases hm)⟩
  exact fm_case hcf (callE_ok W0 iv m.g m.args ⟨m.nx0, m.T0⟩ E w xs hcf hr hx) r
theorem rng0 (a : Int) : -1099 ≤ opVal .rem .i64 a 1100 ∧ opVal .rem .i64 a 1100 ≤ 1099 := by
  have h1 : a.tmod 1100 < 1100 := Int.tmod_lt_of_pos _ (by omega)
  have h2 : -1100 < a.tmod 1100 := Int.lt_tmod_of_pos a (by omega)
  show -1099 ≤ a.tmod 1100 ∧ a.tmod 1100 ≤ 1099
  omega
theorem rng1 (a : Int) : -19 ≤ opVal .rem .i64 a 20 ∧ opVal .rem .i64 a 20 ≤ 19 := by
  have h1 : a.tmod 20 < 20 := Int.tmod_lt_of_pos _ (by omega)
  have h2 : -20 < a.tmod 20 := Int.lt_tmod_of_pos a (by omega)
  show -19 ≤ a.tmod 20 ∧ a.tmod 20 ≤ 19
  omega
theorem rng2 (a : Int) : -2147483648 ≤ IntKind.wrap .i32 a ∧ IntKind.wrap .i32 a ≤ 2147483647 := by
  rw [IntKind.wrap_i32]
  omega
def P0 (σ : Nat → Int) : Prop := opVal .rem .i64 (σ 0) 1100 < 0 ∨ 1000 < opVal .rem .i64 (σ 0) 1100
def P1 (σ : Nat → Int) : Prop := 0 ≤ opVal .rem .i64 (σ 0) 1100 ∧ opVal .rem .i64 (σ 0) 1100 ≤ 1000
theorem iv3 {σ : Nat → Int} {x0 x1 x2 : SI} {a0 b0 a1 b1 a2 b2 : Int} (h0 : a0 ≤ x0.ev σ ∧ x0.ev σ ≤ b0) (h1 : a1 ≤ x1.ev σ ∧ x1.ev σ ≤ b1) (h2 : a2 ≤ x2.ev σ ∧ x2.ev σ ≤ b2) : ∀ u lo hi, (u, lo, hi) ∈ [(x0, a0, b0), (x1, a1, b1), (x2, a2, b2)] → lo ≤ u.ev σ ∧ u.ev σ ≤ hi := by
  intro u lo hi hm
  simp only [List.mem_cons, List.not_mem_nil, or_false, Prod.mk.injEq] at hm
  rcases hm with ⟨rfl, rfl, rfl⟩ | ⟨rfl, rfl, rfl⟩ | ⟨rfl, rfl, rfl⟩
  · exact h0
  · exact h1
  · exact h2
end Go.Proofs.YtocficcmdlfafaaGreatDoor.modelArrays
