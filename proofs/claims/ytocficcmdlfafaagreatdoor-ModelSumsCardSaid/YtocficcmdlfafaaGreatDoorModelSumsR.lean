/- The runs of gneiss/gneisslaw21.ModelSums: what they are; where they come to class.Encode. -/
import Derived.Test.YtocficcmdlfafaaGreatDoorCompK
import Derived.Test.YtocficcmdlfafaaGreatDoorAj2
import Derived.Test.YtocficcmdlfafaaGreatDoorLaid
import Derived.Laws.Bits64
namespace Go.Proofs.YtocficcmdlfafaaGreatDoor.modelSums
open Go Go.RowKit Go.Proofs Go.Ai Go.Proofs.YtocficcmdlfafaaGreatDoor.comp
set_option linter.unusedVariables false
noncomputable def gl : Nat → Option (List AV) := laidGl
noncomputable def cfl : Cf := ⟨[], [], [], fun _ _ _ => none, gl⟩
noncomputable def cfR (rw : List (SI × SI)) (cm : List (BinOp × SI × SI × Bool)) (iv : List (SI × Int × Int)) : Cf := ⟨rw, cm, iv, fun _ _ _ => none, gl⟩
noncomputable def cfB (iv : List (SI × Int × Int)) : Cf := cfR [] [] iv
noncomputable def ov0 (rw : List (SI × SI)) (c : CallF) : CallF := overC 8 c
noncomputable def stop (iv : List (SI × Int × Int)) : KR := runC Tryz.prog (cfR [] [] iv) T (fun c => ov0 [] (stopAt 54 c)) 1000000 200 5 [.int .i64 (.var 0), .int .i64 (.var 1)]
noncomputable def mOf (q : KR) : Fm := ⟨54, argsOf q, reachV hpOf q (argsOf q), (hpOf q).nx, P.of 20000, .tup [.top, .int .i64 (.lit (.ofNat (nat_lit 0)))]⟩
noncomputable def m0 : Fm := mOf (stop [(.bin .and .i64 (.var 0) (.lit 63), (.ofNat (nat_lit 0)), (.ofNat (nat_lit 63))), (.bin .and .i64 (.var 1) (.lit 65535), (.ofNat (nat_lit 0)), (.ofNat (nat_lit 65535)))])
noncomputable def callE (iv : List (SI × Int × Int)) : CallF := (bothC Tryz.prog (cfB iv) T (ov0 []) 1000000 200).1
noncomputable def cutsO : List Int := [(.ofNat (nat_lit 11)), (.ofNat (nat_lit 12))]
noncomputable def subJ (rw : List (SI × SI)) (cm : List (BinOp × SI × SI × Bool)) (iv : List (SI × Int × Int)) (e : SI) (lo hi : Int) : CallF := (bothC Tryz.prog (addIv (cfR rw cm iv) e lo hi) T (ov0 rw) 1000000 200).1
noncomputable def ovR (m : Fm) (rw : List (SI × SI)) (cm : List (BinOp × SI × SI × Bool)) (iv : List (SI × Int × Int)) (c : CallF) : CallF := ov0 rw (overM (cfR rw cm iv) m (overJ (cfR rw cm iv) 168 cutsO (subJ rw cm iv) c))
noncomputable def run (m : Fm) (rw : List (SI × SI)) (cm : List (BinOp × SI × SI × Bool)) (iv : List (SI × Int × Int)) : KR := runC Tryz.prog (cfR rw cm iv) T (ovR m rw cm iv) 1000000 200 5 [.int .i64 (.var 0), .int .i64 (.var 1)]
theorem awakes : Awake Tryz.prog gl 8 := fun w hw =>
  haveI : GlOk cfl.gl w := hw
  soundC mixed TOk (over := id) (cf := cfl) (fuel := 1000000) (d := 200) (f := 8) (avs := []) (xs := []) (σ := fun _ => 0) (fun _ h => h)
    ⟨fun _ _ hm => (by cases hm), fun _ _ _ _ hm => (by cases hm), fun _ _ _ hm => (by cases hm), fun _ _ _ _ hm => (by cases hm)⟩ .nil (by kernel_rfl)
theorem ov0_ok {W0 : World} {cf : Cf} [GlOk cf.gl W0] (hg : cf.gl = gl) {rw : List (SI × SI)} (hrw : cf.rw = rw) {c : CallF} (h : CallOk Tryz.prog W0 cf c) : CallOk Tryz.prog W0 cf (ov0 rw c) := by
  subst hrw
  exact overC_ok (by rw [hg]; exact awakes) h
theorem callE_ok (W0 : World) [hg : GlOk gl W0] (iv : List (SI × Int × Int)) : CallOk Tryz.prog W0 (cfB iv) (callE iv) :=
  haveI : GlOk (cfB iv).gl W0 := hg
  (bothC_ok TOk (fun call h => drawK_ok mixed h) (fun c h => ov0_ok rfl rfl h) 1000000 200).1
theorem subJ_ok (W0 : World) [hg : GlOk gl W0] (rw : List (SI × SI)) (cm : List (BinOp × SI × SI × Bool)) (iv : List (SI × Int × Int)) (e : SI) (lo hi : Int) : CallOk Tryz.prog W0 (addIv (cfR rw cm iv) e lo hi) (subJ rw cm iv e lo hi) :=
  haveI : GlOk (addIv (cfR rw cm iv) e lo hi).gl W0 := hg
  (bothC_ok TOk (fun call h => drawK_ok mixed h) (fun c h => ov0_ok rfl rfl h) 1000000 200).1
theorem case_ {m : Fm} {W0 : World} [hg : GlOk gl W0] {iv : List (SI × Int × Int)} {E : Env} {w : World} {xs : List Value} (r : outOk (cfB iv) m (callE iv m.g m.args ⟨m.nx0, m.T0⟩) = true) (hi : ∀ x lo hi, (x, lo, hi) ∈ iv → lo ≤ x.ev E.σ ∧ x.ev E.σ ≤ hi)
    (hr : HR Tryz.prog W0 E (Hp.mk m.nx0 m.T0).f m.nx0.toNat w) (hx : VRs E m.args xs) : CallRes Tryz.prog W0 E ⟨m.nx0, m.T0⟩ w m.g xs (.ret m.v ⟨m.nx1, m.T0⟩) := by
  have hcf : (cfB iv).ok E.σ := ⟨fun _ _ hm => (by cases hm), fun _ _ _ _ hm => (by cases hm), hi, fun _ _ _ _ hm => (by cases hm)⟩
  exact fm_case hcf (callE_ok W0 iv m.g m.args ⟨m.nx0, m.T0⟩ E w xs hcf hr hx) r
theorem rngm (a : Int) (m : Nat) (hm : m < 2 ^ 62) : 0 ≤ opVal .and .i64 a m ∧ opVal .and .i64 a m ≤ m := by
  have h : (BitVec.ofInt 64 a &&& BitVec.ofInt 64 m).toNat ≤ m := by
    rw [BitVec.toNat_and]
    refine Nat.le_trans Nat.and_le_right ?_
    rw [BitVec.toNat_ofInt]
    omega
  show 0 ≤ IntKind.wrap .i64 ((BitVec.ofInt 64 a &&& BitVec.ofInt 64 m).toNat : Int) ∧ IntKind.wrap .i64 ((BitVec.ofInt 64 a &&& BitVec.ofInt 64 m).toNat : Int) ≤ m
  rw [IntKind.wrap_i64]
  omega
theorem rng0 (a : Int) : 0 ≤ opVal .and .i64 a 63 ∧ opVal .and .i64 a 63 ≤ 63 := rngm a 63 (by decide)
theorem rng1 (a : Int) : 0 ≤ opVal .and .i64 a 65535 ∧ opVal .and .i64 a 65535 ≤ 65535 := rngm a 65535 (by decide)
noncomputable def ivS (k : Nat) : List (SI × Int × Int) := [(.bin .and .i64 (.var 0) (.lit 63), .ofNat k, .ofNat k), (.bin .and .i64 (.var 1) (.lit 65535), 0, 65535)]
/-- multiples of the number -/
noncomputable def eB : SI := .bin .and .i64 (.var 1) (.lit 65535)
noncomputable def mul_ (j : Nat) : SI := .bin .mul .i64 (.lit (.ofNat j)) eB
noncomputable def muls (k : Nat) : List (SI × SI) := Nat.rec [] (fun j ih => (.bin .add .i32 (mul_ (Nat.succ j)) eB, mul_ (Nat.succ (Nat.succ j))) :: ih) k
noncomputable def rwS (k : Nat) : List (SI × SI) := (.bin .and .i64 (.var 0) (.lit 63), .lit (.ofNat k)) :: (.bin .add .i32 (.lit 0) eB, eB) :: (.bin .add .i32 eB eB, mul_ 2) :: (.bin .mul .i64 (.lit 1) eB, eB) :: muls 62
theorem and_i64 (a : Int) : opVal .and .i64 a 65535 = opVal .and .i64 a 65535 := rfl
theorem add_ok (σ : Nat → Int) (j : Nat) (hj : j ≤ 62) : (SI.bin .add .i32 (mul_ j) eB).ev σ = (mul_ (j + 1)).ev σ := by
  have h := rng1 (σ 1)
  show IntKind.wrap .i32 (IntKind.wrap .i64 ((j : Int) * opVal .and .i64 (σ 1) 65535) + opVal .and .i64 (σ 1) 65535) = IntKind.wrap .i64 (((j + 1 : Nat) : Int) * opVal .and .i64 (σ 1) 65535)
  generalize opVal .and .i64 (σ 1) 65535 = b at h
  have e : (((j + 1 : Nat) : Int) * b) = (j : Int) * b + b := by rw [Int.natCast_add, Int.add_mul]; simp
  rw [e]
  have h1 : 0 ≤ (j : Int) * b := Int.mul_nonneg (by omega) h.1
  have h2 : (j : Int) * b ≤ 62 * 65535 := Int.mul_le_mul (by omega) h.2 h.1 (by omega)
  generalize (j : Int) * b = x at h1 h2
  rw [IntKind.wrap_i32, IntKind.wrap_i64, IntKind.wrap_i64]
  omega
theorem muls_ok (σ : Nat → Int) : ∀ k, k ≤ 62 → ∀ u v, (u, v) ∈ muls k → u.ev σ = v.ev σ
  | 0, _, _, _, hm => by cases hm
  | k + 1, hk, u, v, hm => by
    rcases List.mem_cons.1 hm with hm | hm
    · cases hm; exact add_ok σ (k + 1) hk
    · exact muls_ok σ k (by omega) u v hm
theorem rwS_ok (σ : Nat → Int) (k : Nat) (h0 : opVal .and .i64 (σ 0) 63 = k) : ∀ u v, (u, v) ∈ rwS k → u.ev σ = v.ev σ := by
  intro u v hm
  have h := rng1 (σ 1)
  have one : ∀ b : Int, 0 ≤ b → b ≤ 65535 → IntKind.wrap .i64 (1 * b) = b := fun b h1 h2 => by rw [IntKind.wrap_i64]; omega
  rcases List.mem_cons.1 hm with hm | hm
  · cases hm; exact h0
  rcases List.mem_cons.1 hm with hm | hm
  · cases hm
    show IntKind.wrap .i32 (0 + opVal .and .i64 (σ 1) 65535) = opVal .and .i64 (σ 1) 65535
    generalize opVal .and .i64 (σ 1) 65535 = b at h
    rw [IntKind.wrap_i32]
    omega
  rcases List.mem_cons.1 hm with hm | hm
  · cases hm
    have := add_ok σ 1 (by omega)
    show IntKind.wrap .i32 (opVal .and .i64 (σ 1) 65535 + opVal .and .i64 (σ 1) 65535) = (mul_ 2).ev σ
    rw [← this]
    show _ = IntKind.wrap .i32 (IntKind.wrap .i64 (1 * opVal .and .i64 (σ 1) 65535) + opVal .and .i64 (σ 1) 65535)
    rw [one _ h.1 h.2]
  rcases List.mem_cons.1 hm with hm | hm
  · cases hm; exact one _ h.1 h.2
  · exact muls_ok σ 62 (by omega) u v hm
theorem iv2 {σ : Nat → Int} {x0 x1 : SI} {a0 b0 a1 b1 : Int} (h0 : a0 ≤ x0.ev σ ∧ x0.ev σ ≤ b0) (h1 : a1 ≤ x1.ev σ ∧ x1.ev σ ≤ b1) : ∀ u lo hi, (u, lo, hi) ∈ [(x0, a0, b0), (x1, a1, b1)] → lo ≤ u.ev σ ∧ u.ev σ ≤ hi := by
  intro u lo hi hm
  simp only [List.mem_cons, List.not_mem_nil, or_false, Prod.mk.injEq] at hm
  rcases hm with ⟨rfl, rfl, rfl⟩ | ⟨rfl, rfl, rfl⟩
  · exact h0
  · exact h1
noncomputable def runS (k : Nat) : KR := run m0 (rwS k) [] (ivS k)
end Go.Proofs.YtocficcmdlfafaaGreatDoor.modelSums
