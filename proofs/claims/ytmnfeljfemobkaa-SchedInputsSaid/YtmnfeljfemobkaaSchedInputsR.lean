/- The loop of gneiss/gneisslaw4.SchedInputs: its states by patterns; what is assumed in each class. -/
import Derived.Test.YtmnfeljfemobkaaCompK
import Derived.Test.YtmnfeljfemobkaaAg
import Derived.Test.YtmnfeljfemobkaaClone
import Derived.Laws.Bits64
namespace Go.Proofs.Ytmnfeljfemobkaa.schedInputs
open Go Go.RowKit Go.Proofs Go.Ai Go.Proofs.Ytmnfeljfemobkaa.comp
set_option linter.unusedVariables false
noncomputable def gl : Nat → Option (List AV) := fun _ => none
noncomputable def cfR (rw : List (SI × SI)) (cm : List (BinOp × SI × SI × Bool)) (iv : List (SI × Int × Int)) : Cf := ⟨rw, cm, iv, fun _ _ _ => none, gl⟩
noncomputable def ovr (cf : Cf) (c : CallF) : CallF := overC 7 (overR 25 (rClone cf 3) c)
noncomputable def bt (cf : Cf) : CallF × RndF := bothC Try.prog cf T (ovr cf) 1000000 200
noncomputable def bodyOf (f : Nat) : Code := match Try.prog.funcs[f]? with | some fn => fn.body.getD .skip | none => .skip
noncomputable def lp : CC × Code := (loopsOf c3.code (bodyOf 3)).headD (.skip, .skip)
noncomputable def FF (cf : Cf) : IH := codeC Try.prog cf (bt cf).1 (bt cf).2 c3.V.n 1000000 lp.1 lp.2
noncomputable def layP {α : Type} (l : List (P × α)) : PT α := List.rec .e (fun x _ ih => PT.put x.1 ih (some x.2)) l
noncomputable def hErr (_ : IH) : IH := fun _ _ _ _ => .err 404
noncomputable def th (x10 x11 x12 x13 x14 x16 x17 x18 : SI) : List (Nat × SI) := [(nat_lit 10, x10), (nat_lit 11, x11), (nat_lit 12, x12), (nat_lit 13, x13), (nat_lit 14, x14), (nat_lit 16, x16), (nat_lit 17, x17), (nat_lit 18, x18)]
noncomputable def thX : List (Nat × SI) := th (.lit (.ofNat (nat_lit 0))) (.lit (.ofNat (nat_lit 0))) (.lit (.ofNat (nat_lit 0))) (.lit (.ofNat (nat_lit 0))) (.lit (.ofNat (nat_lit 0))) (.lit (.ofNat (nat_lit 0))) (.lit (.ofNat (nat_lit 0))) (.lit (.ofNat (nat_lit 0)))
noncomputable def keysB (V : Kp) (t : PT AV) : (P → P) → Bool := PT.rec (fun _ => true) (fun _ v _ ihl ihr k => Option.rec true (fun _ => V.has (k .h).toNat) v && (ihl (fun p => k (.o p)) && ihr (fun p => k (.i p)))) t
theorem keysB_ok (V : Kp) : ∀ (t : PT AV) (k : P → P), keysB V t k = true → ∀ p v, PT.get p t = some v → V.has (k p).toNat = true
  | .e, k, _, p, v, h => by rw [PT.get_e] at h; cases h
  | .n l u r, k, hb, p, v, h => by
    have hb' : (Option.rec true (fun _ => V.has (k .h).toNat) u && (keysB V l (fun p => k (.o p)) && keysB V r (fun p => k (.i p)))) = true := hb
    simp only [Bool.and_eq_true] at hb'
    cases p with
    | h =>
      have hu : u = some v := h
      subst hu
      exact hb'.1
    | o p => exact keysB_ok V l _ hb'.2.1 p v h
    | i p => exact keysB_ok V r _ hb'.2.2 p v h
/-- lists of assumptions, one by one -/
def AllRw (σ : Nat → Int) : List (SI × SI) → Prop
  | [] => True
  | x :: l => x.1.ev σ = x.2.ev σ ∧ AllRw σ l
def AllCm (σ : Nat → Int) : List (BinOp × SI × SI × Bool) → Prop
  | [] => True
  | x :: l => cmpVal x.1 (x.2.1.ev σ) (x.2.2.1.ev σ) = x.2.2.2 ∧ AllCm σ l
def AllIv (σ : Nat → Int) : List (SI × Int × Int) → Prop
  | [] => True
  | x :: l => (x.2.1 ≤ x.1.ev σ ∧ x.1.ev σ ≤ x.2.2) ∧ AllIv σ l
theorem allRw {σ : Nat → Int} : ∀ {l : List (SI × SI)}, AllRw σ l → ∀ a b, (a, b) ∈ l → a.ev σ = b.ev σ
  | x :: l, h, a, b, hm => by
    rcases List.mem_cons.1 hm with e | hm
    · cases e; exact h.1
    · exact allRw h.2 a b hm
theorem allCm {σ : Nat → Int} : ∀ {l : List (BinOp × SI × SI × Bool)}, AllCm σ l → ∀ op a b r, (op, a, b, r) ∈ l → cmpVal op (a.ev σ) (b.ev σ) = r
  | x :: l, h, op, a, b, r, hm => by
    rcases List.mem_cons.1 hm with e | hm
    · cases e; exact h.1
    · exact allCm h.2 op a b r hm
theorem allIv {σ : Nat → Int} : ∀ {l : List (SI × Int × Int)}, AllIv σ l → ∀ a lo hi, (a, lo, hi) ∈ l → lo ≤ a.ev σ ∧ a.ev σ ≤ hi
  | x :: l, h, a, lo, hi, hm => by
    rcases List.mem_cons.1 hm with e | hm
    · cases e; exact h.1
    · exact allIv h.2 a lo hi hm
theorem rn {σ : Nat → Int} : AllRw σ [] := trivial
theorem rc {σ : Nat → Int} {x : SI × SI} {l : List (SI × SI)} (h : x.1.ev σ = x.2.ev σ) (k : AllRw σ l) : AllRw σ (x :: l) := ⟨h, k⟩
theorem cn {σ : Nat → Int} : AllCm σ [] := trivial
theorem cc {σ : Nat → Int} {x : BinOp × SI × SI × Bool} {l : List (BinOp × SI × SI × Bool)} (h : cmpVal x.1 (x.2.1.ev σ) (x.2.2.1.ev σ) = x.2.2.2) (k : AllCm σ l) : AllCm σ (x :: l) := ⟨h, k⟩
theorem inl {σ : Nat → Int} : AllIv σ [] := trivial
theorem ic {σ : Nat → Int} {x : SI × Int × Int} {l : List (SI × Int × Int)} (h : x.2.1 ≤ x.1.ev σ ∧ x.1.ev σ ≤ x.2.2) (k : AllIv σ l) : AllIv σ (x :: l) := ⟨h, k⟩
theorem of_iv {σ : Nat → Int} : ∀ {l : List (SI × Int × Int)}, (∀ a lo hi, (a, lo, hi) ∈ l → lo ≤ a.ev σ ∧ a.ev σ ≤ hi) → AllIv σ l
  | [], _ => trivial
  | x :: l, h => ⟨h x.1 x.2.1 x.2.2 (List.mem_cons_self ..), of_iv (fun a lo hi hm => h a lo hi (List.mem_cons_of_mem _ hm))⟩
theorem cfOk {σ : Nat → Int} {rw : List (SI × SI)} {cm : List (BinOp × SI × SI × Bool)} {iv : List (SI × Int × Int)} (h1 : AllRw σ rw) (h2 : AllCm σ cm) (h3 : AllIv σ iv) : (cfR rw cm iv).ok σ := ⟨allRw h1, allCm h2, allIv h3, fun _ _ _ _ h => by cases h⟩
theorem awakes : Awake Try.prog gl 7 := fun w hw =>
  haveI : GlOk (cfR [] [] []).gl w := hw
  soundC mixed TOk (over := id) (cf := cfR [] [] []) (fuel := 1000000) (d := 200) (f := 7) (avs := []) (xs := []) (σ := fun _ => 0) (fun _ h => h) (cfOk trivial trivial trivial) .nil (by kernel_rfl)
theorem ovr_ok {W0 : World} [hg : GlOk gl W0] {rw : List (SI × SI)} {cm : List (BinOp × SI × SI × Bool)} {iv : List (SI × Int × Int)} {c : CallF} (h : CallOk Try.prog W0 (cfR rw cm iv) c) : CallOk Try.prog W0 (cfR rw cm iv) (ovr (cfR rw cm iv) c) :=
  haveI : GlOk (cfR rw cm iv).gl W0 := hg
  overC_ok awakes (overR_ok (rClone_ok clone.cloneOk clone.cloneZ) h)
theorem bt_ok {W0 : World} [hg : GlOk gl W0] (rw : List (SI × SI)) (cm : List (BinOp × SI × SI × Bool)) (iv : List (SI × Int × Int)) : CallOk Try.prog W0 (cfR rw cm iv) (bt (cfR rw cm iv)).1 ∧ RndOk Try.prog W0 (cfR rw cm iv) (bt (cfR rw cm iv)).2 :=
  haveI : GlOk (cfR rw cm iv).gl W0 := hg
  bothC_ok TOk (fun call h => drawK_ok mixed h) (fun c h => ovr_ok h) 1000000 200
theorem qC : chkC Try.prog c3.V lp.1 lp.2 = true := by kernel_rfl
theorem qN : Nat.beq (loopsOf c3.code (bodyOf 3)).length (nat_lit 1) = true := by kernel_rfl
theorem qF : okF Try.prog 3 c3 = true := by kernel_rfl
theorem ff_ok {W0 : World} [hg : GlOk gl W0] (rw : List (SI × SI)) (cm : List (BinOp × SI × SI × Bool)) (iv : List (SI × Int × Int)) (b : Frame) : BodyOk Try.prog W0 (cfR rw cm iv) c3.V b (FF (cfR rw cm iv)) lp.2 :=
  haveI : GlOk (cfR rw cm iv).gl W0 := hg
  fun tm ds H rc E w arr dv cs k hcf st hk => codeC_ok (bt_ok rw cm iv).1 (bt_ok rw cm iv).2 (drawK_ok mixed (bt_ok rw cm iv).1) lp.1 lp.2 qC tm ds H rc E w arr dv cs k hcf st hk
theorem ff_keys (cf : Cf) : BodyKeys c3.V (FF cf) := fun _ _ _ _ _ _ _ _ _ hk h => codeC_keys lp.1 lp.2 qC hk h
theorem hErr_ok {W0 : World} {cf : Cf} {V : Kp} {y : Code} : LhOk Try.prog W0 cf V hErr y := fun b F _ _ _ _ _ _ _ _ _ _ _ _ _ _ _ => trivial
theorem names_of {t t' : PT AObj} (h : subG (fun (_ _ : AObj) => true) t t' = true) : ∀ l o, PT.get l t = some o → ∃ o', PT.get l t' = some o' := fun l o e => by obtain ⟨o', h1, _⟩ := subG_ok h e; exact ⟨o', h1⟩
theorem loopsQ : ∀ fn c, Try.prog.funcs[3]? = some fn → fn.body = some c → LoopsP (fun y => y = lp.2) c3.code c := by
  intro fn c hf hc
  refine loopsP_of _ _ (fun p hp => ?_)
  have hc' : c = bodyOf 3 := by unfold bodyOf; rw [hf]; show c = fn.body.getD .skip; rw [hc]; rfl
  subst hc'
  have hn := Nat.eq_of_beq_eq_true qN
  unfold lp
  revert hp hn
  generalize loopsOf c3.code (bodyOf 3) = l
  intro hp hn
  match l, hn with
  | [q], _ => rw [List.mem_singleton.1 hp]; rfl
/-! ### the numbers -/
def Gh (i : Nat) : Prop := i = 10 ∨ i = 11 ∨ i = 12 ∨ i = 13 ∨ i = 14 ∨ i = 16 ∨ i = 17 ∨ i = 18
/-- sc: is the script open? inn: are the inputs open? -/
def J (s : Nat → Int) (sc inn : Bool) (t : Nat → Int) : Prop := (∀ i, ¬ Gh i → t i = s i) ∧ (0 ≤ t 10 ∧ t 10 ≤ s 1501 + 3) ∧ (inn = true → t 10 < s 1501 ∧ t 17 = s 1501 - t 10) ∧ (inn = false → s 1501 ≤ t 10) ∧ (sc = true → 0 ≤ t 11 ∧ t 11 < s 1500 ∧ t 18 = s 1500 - t 11)
def JJ (s : Nat → Int) (a : Nat) (t : Nat → Int) : Prop := match a with
  | 0 => J s true true t
  | 1 => J s true false t
  | 2 => J s false true t
  | 3 => J s false false t
  | _ => False
def mu (s : Nat → Int) (_ : Nat) (t : Nat → Int) : Nat := (s 1501 + 3 - t 10).toNat
theorem w64 (x : Int) (h0 : -4611686018427387904 ≤ x) (h1 : x ≤ 4611686018427387904) : IntKind.wrap .i64 x = x := by rw [IntKind.wrap_i64]; omega
theorem th_other {x10 x11 x12 x13 x14 x16 x17 x18 : SI} (t : Nat → Int) (i : Nat) (h : ¬ Gh i) : evs (thL (th x10 x11 x12 x13 x14 x16 x17 x18)) t i = t i := by
  unfold Gh at h
  unfold evs th
  rw [thL_cons, if_neg (fun e => h (by simp only at e; omega)), thL_cons, if_neg (fun e => h (by simp only at e; omega)), thL_cons, if_neg (fun e => h (by simp only at e; omega)), thL_cons, if_neg (fun e => h (by simp only at e; omega)), thL_cons, if_neg (fun e => h (by simp only at e; omega)), thL_cons, if_neg (fun e => h (by simp only at e; omega)), thL_cons, if_neg (fun e => h (by simp only at e; omega)), thL_cons, if_neg (fun e => h (by simp only at e; omega))]
  rfl
theorem th_big {x10 x11 x12 x13 x14 x16 x17 x18 : SI} (t : Nat → Int) : ∀ i, 1000 ≤ i → evs (thL (th x10 x11 x12 x13 x14 x16 x17 x18)) t i = t i := fun i hi => th_other t i (by unfold Gh; omega)
theorem and1 (a : Int) : opVal .and .i64 a 1 = 0 ∨ opVal .and .i64 a 1 = 1 := by
  have h : (BitVec.ofInt 64 a &&& BitVec.ofInt 64 1).toNat ≤ 1 := by
    rw [BitVec.toNat_and]
    exact Nat.and_le_right
  show IntKind.wrap .i64 ((BitVec.ofInt 64 a &&& BitVec.ofInt 64 1).toNat : Int) = 0 ∨ IntKind.wrap .i64 ((BitVec.ofInt 64 a &&& BitVec.ofInt 64 1).toNat : Int) = 1
  rw [IntKind.wrap_i64]
  omega
theorem rem3 (a : Int) : -2 ≤ opVal .rem .i64 a 3 ∧ opVal .rem .i64 a 3 ≤ 2 := by
  have h1 : a.tmod 3 < 3 := Int.tmod_lt_of_pos _ (by omega)
  have h2 : -3 < a.tmod 3 := Int.lt_tmod_of_pos a (by omega)
  show -2 ≤ a.tmod 3 ∧ a.tmod 3 ≤ 2
  omega
end Go.Proofs.Ytmnfeljfemobkaa.schedInputs
