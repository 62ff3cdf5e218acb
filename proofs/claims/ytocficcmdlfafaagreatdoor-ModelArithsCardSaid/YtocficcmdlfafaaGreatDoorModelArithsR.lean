/- The runs of gneiss/gneisslaw21.ModelAriths: what they are; where they come to class.Encode. -/
import Derived.Test.YtocficcmdlfafaaGreatDoorCompK
import Derived.Test.YtocficcmdlfafaaGreatDoorAiZe
import Derived.Test.YtocficcmdlfafaaGreatDoorFact
import Derived.Test.YtocficcmdlfafaaGreatDoorLaid
import Derived.Laws.Bits64
namespace Go.Proofs.YtocficcmdlfafaaGreatDoor.modelAriths
open Go Go.RowKit Go.Proofs Go.Ai Go.Proofs.YtocficcmdlfafaaGreatDoor.comp
set_option linter.unusedVariables false
noncomputable def gl : Nat → Option (List AV) := laidGl
noncomputable def cfl : Cf := ⟨[], [], [], fun _ _ _ => none, gl⟩
noncomputable def cfR (rw : List (SI × SI)) (cm : List (BinOp × SI × SI × Bool)) (iv : List (SI × Int × Int)) : Cf := ⟨rw, cm, iv, fun _ _ _ => none, gl⟩
noncomputable def cfB (iv : List (SI × Int × Int)) : Cf := cfR [] [] iv
noncomputable def ov0 (rw : List (SI × SI)) (c : CallF) : CallF := overC 8 (overF 9 (Go.Proofs.YtocficcmdlfafaaGreatDoor.fact.ruleR rw) c)
/-- where the stop is reckoned: a function's value is passed over (of the operation o) -/
noncomputable def fakeAt (g : Nat) (o : Int) (v : AV) (c : CallF) : CallF := fun f args H => Bool.rec (c f args H) (match c f (.int .i64 (.lit o) :: List.tail args) H with | .ret _ H' => .ret v H' | r => r) (Nat.beq f g)
noncomputable def stop (rw : List (SI × SI)) (cm : List (BinOp × SI × SI × Bool)) (o : Int) (v : AV) : KR := runC Tryz.prog (cfR rw cm [(.bin .rem .u64 (.conv .u64 (.var 0)) (.lit 12), (.ofNat (nat_lit 0)), (.ofNat (nat_lit 11))), (.conv .i32 (.var 1), (.negSucc (nat_lit 2147483647)), (.ofNat (nat_lit 2147483647))), (.conv .i32 (.var 2), (.negSucc (nat_lit 2147483647)), (.ofNat (nat_lit 2147483647)))]) T (fun c => ov0 rw (fakeAt 11 o v (stopAt 54 c))) 1000000 200 3 [.int .i64 (.var 0), .int .i64 (.var 1), .int .i64 (.var 2)]
noncomputable def mOf (q : KR) : Fm := ⟨54, argsOf q, reachV hpOf q (argsOf q), (hpOf q).nx, P.of 20000, .tup [.top, .int .i64 (.lit (.ofNat (nat_lit 0)))]⟩
noncomputable def m0 : Fm := mOf (stop [] [(.eql, .bin .rem .u64 (.conv .u64 (.var 0)) (.lit 12), .lit (.ofNat (nat_lit 5)), false)] 0 (.tup [.int .i64 (.lit (.ofNat (nat_lit 0))), .bool true]))
noncomputable def m1 : Fm := mOf (stop [(.bin .rem .u64 (.conv .u64 (.var 0)) (.lit 12), .lit (.ofNat (nat_lit 5)))] [] 5 (.tup [.int .i64 (.lit (.ofNat (nat_lit 0))), .bool true]))
noncomputable def m2 : Fm := mOf (stop [(.conv .i32 (.var 2), .lit (.ofNat (nat_lit 0)))] [(.eql, .bin .rem .u64 (.conv .u64 (.var 0)) (.lit 12), .lit (.ofNat (nat_lit 5)), false)] 3 (.tup [.int .i64 (.lit (.ofNat (nat_lit 0))), .bool false]))
noncomputable def callE (iv : List (SI × Int × Int)) : CallF := (bothC Tryz.prog (cfB iv) T (ov0 []) 1000000 200).1
noncomputable def cutsO : List Int := [(.ofNat (nat_lit 11)), (.ofNat (nat_lit 12))]
noncomputable def subJ (rw : List (SI × SI)) (cm : List (BinOp × SI × SI × Bool)) (iv : List (SI × Int × Int)) (e : SI) (lo hi : Int) : CallF := (bothC Tryz.prog (addIv (cfR rw cm iv) e lo hi) T (ov0 rw) 1000000 200).1
noncomputable def ovR (m : Fm) (rw : List (SI × SI)) (cm : List (BinOp × SI × SI × Bool)) (iv : List (SI × Int × Int)) (c : CallF) : CallF := ov0 rw (overM (cfR rw cm iv) m (overJ (cfR rw cm iv) 168 cutsO (subJ rw cm iv) c))
noncomputable def run (m : Fm) (rw : List (SI × SI)) (cm : List (BinOp × SI × SI × Bool)) (iv : List (SI × Int × Int)) : KR := runC Tryz.prog (cfR rw cm iv) T (ovR m rw cm iv) 1000000 200 3 [.int .i64 (.var 0), .int .i64 (.var 1), .int .i64 (.var 2)]
theorem awakes : Awake Tryz.prog gl 8 := fun w hw =>
  haveI : GlOk cfl.gl w := hw
  soundC mixed TOk (over := id) (cf := cfl) (fuel := 1000000) (d := 200) (f := 8) (avs := []) (xs := []) (σ := fun _ => 0) (fun _ h => h)
    ⟨fun _ _ hm => (by cases hm), fun _ _ _ _ hm => (by cases hm), fun _ _ _ hm => (by cases hm), fun _ _ _ _ hm => (by cases hm)⟩ .nil (by kernel_rfl)
theorem ov0_ok {W0 : World} {cf : Cf} [GlOk cf.gl W0] (hg : cf.gl = gl) {rw : List (SI × SI)} (hrw : cf.rw = rw) {c : CallF} (h : CallOk Tryz.prog W0 cf c) : CallOk Tryz.prog W0 cf (ov0 rw c) := by
  subst hrw
  exact overC_ok (by rw [hg]; exact awakes) (overF_ok (Go.Proofs.YtocficcmdlfafaaGreatDoor.fact.okR cf) h)
theorem callE_ok (W0 : World) [hg : GlOk gl W0] (iv : List (SI × Int × Int)) : CallOk Tryz.prog W0 (cfB iv) (callE iv) :=
  haveI : GlOk (cfB iv).gl W0 := hg
  (bothC_ok TOk (fun call h => drawK_ok mixed h) (fun c h => ov0_ok rfl rfl h) 1000000 200).1
theorem subJ_ok (W0 : World) [hg : GlOk gl W0] (rw : List (SI × SI)) (cm : List (BinOp × SI × SI × Bool)) (iv : List (SI × Int × Int)) (e : SI) (lo hi : Int) : CallOk Tryz.prog W0 (addIv (cfR rw cm iv) e lo hi) (subJ rw cm iv e lo hi) :=
  haveI : GlOk (addIv (cfR rw cm iv) e lo hi).gl W0 := hg
  (bothC_ok TOk (fun call h => drawK_ok mixed h) (fun c h => ov0_ok rfl rfl h) 1000000 200).1
theorem case_ {m : Fm} {W0 : World} [hg : GlOk gl W0] {iv : List (SI × Int × Int)} {E : Env} {w : World} {xs : List Value} (r : outOk (cfB iv) m (callE iv m.g m.args ⟨m.nx0, m.T0⟩) = true) (hi : ∀ x lo hi, (x, lo, hi) ∈ iv → lo ≤ x.ev E.σ ∧ x.ev E.σ ≤ hi)
    (hr : HR Tryz.prog W0 E (Hp.mk m.nx0 m.T0).f m.nx0.toNat w) (hx : VRs E m.args xs) : CallRes Tryz.prog W0 E ⟨m.nx0, m.T0⟩ w m.g xs (.ret m.v ⟨m.nx1, m.T0⟩) := by
  have hcf : (cfB iv).ok E.σ := ⟨fun _ _ hm => (by cases hm), fun _ _ _ _ hm => (by cases hm), hi, fun _ _ _ _ hm => (by cases hm)⟩
  exact fm_case hcf (callE_ok W0 iv m.g m.args ⟨m.nx0, m.T0⟩ E w xs hcf hr hx) r
theorem rng0 (a : Int) : 0 ≤ opVal .rem .u64 (IntKind.wrap .u64 a) 12 ∧ opVal .rem .u64 (IntKind.wrap .u64 a) 12 ≤ 11 := by
  have hw : 0 ≤ IntKind.wrap .u64 a := by
    rw [IntKind.wrap_u64]
    omega
  have h1 : (IntKind.wrap .u64 a).tmod 12 < 12 := Int.tmod_lt_of_pos _ (by omega)
  have h2 : 0 ≤ (IntKind.wrap .u64 a).tmod 12 := Int.tmod_nonneg _ hw
  show 0 ≤ (IntKind.wrap .u64 a).tmod 12 ∧ (IntKind.wrap .u64 a).tmod 12 ≤ 11
  omega
theorem rng1 (a : Int) : -2147483648 ≤ IntKind.wrap .i32 a ∧ IntKind.wrap .i32 a ≤ 2147483647 := by
  rw [IntKind.wrap_i32]
  omega
theorem rng2 (a : Int) : -2147483648 ≤ IntKind.wrap .i32 a ∧ IntKind.wrap .i32 a ≤ 2147483647 := rng1 a
theorem iv3 {σ : Nat → Int} {x0 x1 x2 : SI} {a0 b0 a1 b1 a2 b2 : Int} (h0 : a0 ≤ x0.ev σ ∧ x0.ev σ ≤ b0) (h1 : a1 ≤ x1.ev σ ∧ x1.ev σ ≤ b1) (h2 : a2 ≤ x2.ev σ ∧ x2.ev σ ≤ b2) : ∀ u lo hi, (u, lo, hi) ∈ [(x0, a0, b0), (x1, a1, b1), (x2, a2, b2)] → lo ≤ u.ev σ ∧ u.ev σ ≤ hi := by
  intro u lo hi hm
  simp only [List.mem_cons, List.not_mem_nil, or_false, Prod.mk.injEq] at hm
  rcases hm with ⟨rfl, rfl, rfl⟩ | ⟨rfl, rfl, rfl⟩ | ⟨rfl, rfl, rfl⟩
  · exact h0
  · exact h1
  · exact h2
end Go.Proofs.YtocficcmdlfafaaGreatDoor.modelAriths
