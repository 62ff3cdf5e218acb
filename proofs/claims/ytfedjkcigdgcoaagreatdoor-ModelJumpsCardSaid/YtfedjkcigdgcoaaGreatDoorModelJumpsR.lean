/- The runs of gneiss/gneisslaw21.ModelJumps: what they are; where they come to class.Encode. -/
import Derived.Test.YtfedjkcigdgcoaaGreatDoorCompK
import Derived.Test.YtfedjkcigdgcoaaGreatDoorAiZe
import Derived.Test.YtfedjkcigdgcoaaGreatDoorFact
import Derived.Test.YtfedjkcigdgcoaaGreatDoorLaid
namespace Go.Proofs.YtfedjkcigdgcoaaGreatDoor.modelJumps
open Go Go.RowKit Go.Proofs Go.Ai Go.Proofs.YtfedjkcigdgcoaaGreatDoor.comp
set_option linter.unusedVariables false
noncomputable def gl : Nat → Option (List AV) := laidGl
noncomputable def cfl : Cf := ⟨[], [], [], fun _ _ _ => none, gl⟩
noncomputable def cfR (rw : List (SI × SI)) (cm : List (BinOp × SI × SI × Bool)) (iv : List (SI × Int × Int)) : Cf := ⟨rw, cm, iv, fun _ _ _ => none, gl⟩
noncomputable def cfB (iv : List (SI × Int × Int)) : Cf := cfR [] [] iv
noncomputable def ov0 (rw : List (SI × SI)) (c : CallF) : CallF := overC 19 (overF 20 (Go.Proofs.YtfedjkcigdgcoaaGreatDoor.fact.ruleR rw) c)
noncomputable def cutsO : List Int := [(.ofNat (nat_lit 11)), (.ofNat (nat_lit 12))]
noncomputable def subJ (rw : List (SI × SI)) (cm : List (BinOp × SI × SI × Bool)) (iv : List (SI × Int × Int)) (e : SI) (lo hi : Int) : CallF := (bothC Tryz.prog (addIv (cfR rw cm iv) e lo hi) T (ov0 rw) 1000000 200).1
noncomputable def ovJ (rw : List (SI × SI)) (cm : List (BinOp × SI × SI × Bool)) (iv : List (SI × Int × Int)) (c : CallF) : CallF := overJ (cfR rw cm iv) 235 cutsO (subJ rw cm iv) c
noncomputable def mOf (n : Nat) (q : KR) : Fm := ⟨116, argsOf q, reachV hpOf q (argsOf q), (hpOf q).nx, P.of n, .tup [.top, .int .i64 (.lit (.ofNat (nat_lit 0)))]⟩
/-- the second program -/
noncomputable def m2 : Fm := mOf 20000 (runC Tryz.prog (cfB [(.conv .i32 (.var 0), (.ofNat (nat_lit 1)), (.ofNat (nat_lit 2147483647))), (.conv .i32 (.var 1), (.negSucc (nat_lit 2147483647)), (.ofNat (nat_lit 2147483647)))]) T (fun c => ov0 [] (stopFrom 116 (P.of 31) c)) 1000000 200 6 [.int .i64 (.var 0), .int .i64 (.var 1)])
/-- the third one -/
noncomputable def stop3 (n : P) (rw : List (SI × SI)) (cm : List (BinOp × SI × SI × Bool)) (iv : List (SI × Int × Int)) : KR := runC Tryz.prog (cfR rw cm iv) T (fun c => ov0 rw (stopFrom 116 n (overM (cfR rw cm iv) m2 (ovJ rw cm iv c)))) 1000000 200 6 [.int .i64 (.var 0), .int .i64 (.var 1)]
noncomputable def m3z : Fm := mOf 40000 (stop3 (P.of 3200) [(.conv .i32 (.var 0), .lit (.ofNat (nat_lit 0)))] [] [(.conv .i32 (.var 0), (.ofNat (nat_lit 0)), (.ofNat (nat_lit 0))), (.conv .i32 (.var 1), (.ofNat (nat_lit 1)), (.ofNat (nat_lit 2147483647)))])
noncomputable def m3n : Fm := mOf 40000 (stop3 (P.of 20001) [] [(.lss, .conv .i32 (.var 0), .conv .i32 (.var 1), true)] [(.conv .i32 (.var 0), (.negSucc (nat_lit 2147483647)), (.negSucc (nat_lit 0))), (.conv .i32 (.var 1), (.negSucc (nat_lit 2147483647)), (.ofNat (nat_lit 2147483647)))])
noncomputable def m3p : Fm := mOf 40000 (stop3 (P.of 20001) [] [(.lss, .conv .i32 (.var 0), .conv .i32 (.var 1), true)] [(.conv .i32 (.var 0), (.ofNat (nat_lit 1)), (.ofNat (nat_lit 2147483647))), (.conv .i32 (.var 1), (.negSucc (nat_lit 2147483647)), (.ofNat (nat_lit 2147483647)))])
noncomputable def callE (iv : List (SI × Int × Int)) : CallF := (bothC Tryz.prog (cfB iv) T (ov0 []) 1000000 200).1
noncomputable def okE (m : Fm) (iv : List (SI × Int × Int)) : Bool := outOk (cfB iv) m (callE iv m.g m.args ⟨m.nx0, m.T0⟩)
noncomputable def ovR (m : Fm) (rw : List (SI × SI)) (cm : List (BinOp × SI × SI × Bool)) (iv : List (SI × Int × Int)) (c : CallF) : CallF := ov0 rw (overM (cfR rw cm iv) m (overM (cfR rw cm iv) m2 (ovJ rw cm iv c)))
noncomputable def run (m : Fm) (rw : List (SI × SI)) (cm : List (BinOp × SI × SI × Bool)) (iv : List (SI × Int × Int)) : KR := runC Tryz.prog (cfR rw cm iv) T (ovR m rw cm iv) 1000000 200 6 [.int .i64 (.var 0), .int .i64 (.var 1)]
theorem awakes : Awake Tryz.prog gl 19 := fun w hw =>
  haveI : GlOk cfl.gl w := hw
  soundC mixed TOk (over := id) (cf := cfl) (fuel := 1000000) (d := 200) (f := 19) (avs := []) (xs := []) (σ := fun _ => 0) (fun _ h => h)
    ⟨fun _ _ hm => (by cases hm), fun _ _ _ _ hm => (by cases hm), fun _ _ _ hm => (by cases hm), fun _ _ _ _ hm => (by cases hm)⟩ .nil (by kernel_rfl)
theorem ov0_ok {W0 : World} {cf : Cf} [GlOk cf.gl W0] (hg : cf.gl = gl) {rw : List (SI × SI)} (hrw : cf.rw = rw) {c : CallF} (h : CallOk Tryz.prog W0 cf c) : CallOk Tryz.prog W0 cf (ov0 rw c) := by
  subst hrw
  exact overC_ok (by rw [hg]; exact awakes) (overF_ok (Go.Proofs.YtfedjkcigdgcoaaGreatDoor.fact.okR cf) h)
theorem callE_ok (W0 : World) [hg : GlOk gl W0] (iv : List (SI × Int × Int)) : CallOk Tryz.prog W0 (cfB iv) (callE iv) :=
  haveI : GlOk (cfB iv).gl W0 := hg
  (bothC_ok TOk (fun call h => drawK_ok mixed h) (fun c h => ov0_ok rfl rfl h) 1000000 200).1
theorem subJ_ok (W0 : World) [hg : GlOk gl W0] (rw : List (SI × SI)) (cm : List (BinOp × SI × SI × Bool)) (iv : List (SI × Int × Int)) (e : SI) (lo hi : Int) : CallOk Tryz.prog W0 (addIv (cfR rw cm iv) e lo hi) (subJ rw cm iv e lo hi) :=
  haveI : GlOk (addIv (cfR rw cm iv) e lo hi).gl W0 := hg
  (bothC_ok TOk (fun call h => drawK_ok mixed h) (fun c h => ov0_ok rfl rfl h) 1000000 200).1
theorem iv2 {σ : Nat → Int} {x0 x1 : SI} {a0 b0 a1 b1 : Int} (h0 : a0 ≤ x0.ev σ ∧ x0.ev σ ≤ b0) (h1 : a1 ≤ x1.ev σ ∧ x1.ev σ ≤ b1) : ∀ u lo hi, (u, lo, hi) ∈ [(x0, a0, b0), (x1, a1, b1)] → lo ≤ u.ev σ ∧ u.ev σ ≤ hi := by
  intro u lo hi hm
  simp only [List.mem_cons, List.not_mem_nil, or_false, Prod.mk.injEq] at hm
  rcases hm with ⟨rfl, rfl, rfl⟩ | ⟨rfl, rfl, rfl⟩
  · exact h0
  · exact h1
/-- a class of a row of classes that are shown together -/
theorem case_ {m : Fm} {W0 : World} [hg : GlOk gl W0] {l : List (List (SI × Int × Int))} (r : allL (okE m) l = true) {iv : List (SI × Int × Int)} (hm : iv ∈ l) {E : Env} {w : World} {xs : List Value} (hi : ∀ x lo hi, (x, lo, hi) ∈ iv → lo ≤ x.ev E.σ ∧ x.ev E.σ ≤ hi)
    (hr : HR Tryz.prog W0 E (Hp.mk m.nx0 m.T0).f m.nx0.toNat w) (hx : VRs E m.args xs) : CallRes Tryz.prog W0 E ⟨m.nx0, m.T0⟩ w m.g xs (.ret m.v ⟨m.nx1, m.T0⟩) := by
  have hcf : (cfB iv).ok E.σ := ⟨fun _ _ hm => (by cases hm), fun _ _ _ _ hm => (by cases hm), hi, fun _ _ _ _ hm => (by cases hm)⟩
  exact fm_case hcf (callE_ok W0 iv m.g m.args ⟨m.nx0, m.T0⟩ E w xs hcf hr hx) (allL_mem' r iv hm)
theorem rgv (a : Int) : -2147483648 ≤ IntKind.wrap .i32 a ∧ IntKind.wrap .i32 a ≤ 2147483647 := by
  rw [IntKind.wrap_i32]
  omega
end Go.Proofs.YtfedjkcigdgcoaaGreatDoor.modelJumps
