/- The runs of gneiss/gneisslaw24.ReplayPicks: what they are. -/
import Derived.Test.YtpgebnmcphedgaaGreatDoorCompK
import Derived.Test.YtpgebnmcphedgaaGreatDoorAj3
import Derived.Test.YtpgebnmcphedgaaGreatDoorLaid
import Derived.Laws.Bits64
namespace Go.Proofs.YtpgebnmcphedgaaGreatDoor.replayPicks
set_option linter.unusedVariables false
open Go Go.RowKit Go.Proofs Go.Ai Go.Proofs.YtpgebnmcphedgaaGreatDoor.comp
set_option maxRecDepth 1000000
noncomputable def gl : Nat → Option (List AV) := laidGl
noncomputable def cfl : Cf := ⟨[], [], [], fun _ _ _ => none, gl⟩
noncomputable def cfR (cm : List (BinOp × SI × SI × Bool)) (iv : List (SI × Int × Int)) : Cf := ⟨[], cm, iv, fun _ _ _ => none, gl⟩
noncomputable def ov0 (c : CallF) : CallF := overC 4 c
noncomputable def btF (cf : Cf) : CallF × RndF := bothC Tryz.prog cf T ov0 1000000 200
noncomputable def bodyOf (f : Nat) : Code := match Tryz.prog.funcs[f]? with | some fn => fn.body.getD .skip | none => .skip
noncomputable def lp : CC × Code := (loopsOf c6.code (bodyOf 6)).headD (.skip, .skip)
noncomputable def FF (cf : Cf) : IH := codeC Tryz.prog cf (btF cf).1 (btF cf).2 c6.V.n 1000000 lp.1 lp.2
noncomputable def rdF (cm : List (BinOp × SI × SI × Bool)) (iv : List (SI × Int × Int)) (e : Option (SI × SI)) : IH := match e with
  | none => FF (cfR cm iv)
  | some (x, y) => joinB (cfR cm iv) (FF (cfR ((.eql, x, y, false) :: cm) iv)) (FF (cfR ((.eql, x, y, true) :: cm) iv))
noncomputable def lhF (cm : List (BinOp × SI × SI × Bool)) (iv : List (SI × Int × Int)) (es : List (Option (SI × SI))) : IH → IH := fun F => hSeq (hLoop 5) F (es.map (rdF cm iv))
noncomputable def chkF (cm : List (BinOp × SI × SI × Bool)) (iv : List (SI × Int × Int)) (es : List (Option (SI × SI))) (args : List AV) (H : Hp) : KR := frameL Tryz.prog (cfR cm iv) (btF (cfR cm iv)).1 (btF (cfR cm iv)).2 1000000 (lhF cm iv es) c6 6 args H
/-- a slice of the caller's -/
noncomputable def A0 : AV := .gsl none (nat_lit 0) (.lit (.ofNat (nat_lit 0))) (.var (nat_lit 1500))
noncomputable def run (v : AV) (cm : List (BinOp × SI × SI × Bool)) (iv : List (SI × Int × Int)) (es : List (Option (SI × SI))) : KR := runC Tryz.prog (cfR cm iv) T (fun c => ov0 (overG 6 (chkF cm iv es) c)) 1000000 200 3 [v]
theorem qC : chkC Tryz.prog c6.V lp.1 lp.2 = true := by kernel_rfl
theorem qN : Nat.beq (loopsOf c6.code (bodyOf 6)).length (nat_lit 1) = true := by kernel_rfl
theorem qF : okF Tryz.prog 6 c6 = true := by kernel_rfl
theorem awakes : Awake Tryz.prog gl 4 := fun w hw =>
  haveI : GlOk cfl.gl w := hw
  soundC mixed TOk (over := id) (cf := cfl) (fuel := 1000000) (d := 200) (f := 4) (avs := []) (xs := []) (σ := fun _ => 0) (fun _ h => h)
    ⟨fun _ _ hm => (by cases hm), fun _ _ _ _ hm => (by cases hm), fun _ _ _ hm => (by cases hm), fun _ _ _ _ hm => (by cases hm)⟩ .nil (by kernel_rfl)
theorem ov0_ok {W0 : World} {cf : Cf} [GlOk cf.gl W0] (hg : cf.gl = gl) {c : CallF} (h : CallOk Tryz.prog W0 cf c) : CallOk Tryz.prog W0 cf (ov0 c) := overC_ok (by rw [hg]; exact awakes) h
section
variable {W0 : World} [hg : GlOk gl W0] (cm : List (BinOp × SI × SI × Bool)) (iv : List (SI × Int × Int))
theorem bt_ok : CallOk Tryz.prog W0 (cfR cm iv) (btF (cfR cm iv)).1 ∧ RndOk Tryz.prog W0 (cfR cm iv) (btF (cfR cm iv)).2 :=
  haveI : GlOk (cfR cm iv).gl W0 := hg
  bothC_ok TOk (fun call h => drawK_ok mixed h) (fun c h => ov0_ok rfl h) 1000000 200
theorem ff_ok (b : Frame) : BodyOk Tryz.prog W0 (cfR cm iv) c6.V b (FF (cfR cm iv)) lp.2 :=
  haveI : GlOk (cfR cm iv).gl W0 := hg
  fun tm ds H rc E w arr dv cs k hcf st hk => codeC_ok (bt_ok cm iv).1 (bt_ok cm iv).2 (drawK_ok mixed (bt_ok cm iv).1) lp.1 lp.2 qC tm ds H rc E w arr dv cs k hcf st hk
omit hg
theorem ff_keys (cf : Cf) : BodyKeys c6.V (FF cf) := fun _ _ _ _ _ _ _ _ _ hk h => codeC_keys lp.1 lp.2 qC hk h
theorem cls (x y : SI) (σ : Nat → Int) (h : (cfR cm iv).ok σ) : (cfR ((.eql, x, y, false) :: cm) iv).ok σ ∨ (cfR ((.eql, x, y, true) :: cm) iv).ok σ := by
  have one : ∀ r : Bool, decide (x.ev σ = y.ev σ) = r → (cfR ((.eql, x, y, r) :: cm) iv).ok σ := fun r hr => ⟨fun _ _ hm => (by cases hm), fun op u v q hm => by
    rcases List.mem_cons.1 hm with hm | hm
    · cases hm; exact hr
    · exact h.2.1 op u v q hm, h.2.2.1, fun _ _ _ _ hm => (by cases hm)⟩
  cases hd : decide (x.ev σ = y.ev σ) with
  | false => exact .inl (one false hd)
  | true => exact .inr (one true hd)
theorem rd_ok [hg : GlOk gl W0] (e : Option (SI × SI)) : (∀ b, BodyOk Tryz.prog W0 (cfR cm iv) c6.V b (rdF cm iv e) lp.2) ∧ BodyKeys c6.V (rdF cm iv e) := by
  match e with
  | none => exact ⟨fun b => ff_ok cm iv b, ff_keys _⟩
  | some (x, y) => exact ⟨fun b => joinB_ok (ff_ok _ iv b) (ff_ok _ iv b) (cls cm iv x y), joinB_keys (ff_keys _)⟩
theorem chk_ok [hg : GlOk gl W0] (es : List (Option (SI × SI))) (args : List AV) (H : Hp) (E : Env) (w : World) (xs : List Value) (hcf : (cfR cm iv).ok E.σ) (hr : HR Tryz.prog W0 E H.f H.nx.toNat w) (hx : VRs E args xs) : CallRes Tryz.prog W0 E H w 6 xs (chkF cm iv es args H) := by
  haveI : GlOk (cfR cm iv).gl W0 := hg
  refine frameL_ok (bt_ok cm iv).1 (bt_ok cm iv).2 (drawK_ok mixed (bt_ok cm iv).1) 1000000 (lh := lhF cm iv es) (Q := fun y => y = lp.2)
    (hSeq_keys (fun F h => h.loop 5) (fun g hg => by obtain ⟨e, _, rfl⟩ := List.mem_map.1 hg; exact (rd_ok (W0 := W0) cm iv e).2))
    (fun y hy => by subst hy; exact hSeq_ok (hLoop_ok 5) (fun g hg => by obtain ⟨e, _, rfl⟩ := List.mem_map.1 hg; exact rd_ok cm iv e)) qF (fun fn c hf hc => loopsP_of _ _ (fun p hp => ?_)) args H E w xs hcf hr hx
  have hc' : c = bodyOf 6 := by unfold bodyOf; rw [hf]; show c = fn.body.getD .skip; rw [hc]; rfl
  subst hc'
  have hn := Nat.eq_of_beq_eq_true qN
  unfold lp
  revert hp hn
  generalize loopsOf c6.code (bodyOf 6) = l
  intro hp hn
  match l, hn with
  | [q], _ => rw [List.mem_singleton.1 hp]; rfl
end
theorem yes_of {xs : List Value} {w : World} {cm : List (BinOp × SI × SI × Bool)} {iv : List (SI × Int × Int)} {es : List (Option (SI × SI))} [hg : GlOk gl w] (v : AV) (σ : Nat → Int) (hv : VRs ⟨σ, fun _ => none⟩ [v] xs) (hcm : ∀ op u v r, (op, u, v, r) ∈ cm → cmpVal op (u.ev σ) (v.ev σ) = r) (hiv : ∀ x lo hi, (x, lo, hi) ∈ iv → lo ≤ x.ev σ ∧ x.ev σ ≤ hi)
    (hX : XOk w σ) (r : yes (run v cm iv es) = true) : Calls Tryz.prog 3 xs.toArray w fun e w' => e = .returned (.bool true) ∧ Below w.heap.size w w' := by
  haveI : GlOk (cfR cm iv).gl w := hg
  exact soundC mixed TOk (over := fun c => ov0 (overG 6 (chkF cm iv es) c)) (cf := cfR cm iv) (σ := σ) (xs := xs) (fun _ h => ov0_ok rfl (overG_ok (chk_ok cm iv es) h)) ⟨fun _ _ hm => (by cases hm), hcm, hiv, fun _ _ _ _ hm => (by cases hm)⟩ hv r hX
/-! ### the caller's slice -/
def sg (x : Addr) (len : Nat) (z : List Int) (i : Nat) : Int := if i = 1200 then 1 else if i = 1300 then x.block else if i = 1400 then x.off else if i = 1500 then len else if 2000 ≤ i then z.getD ((i - 2000) / 64) 0 else 0
theorem sg_at (x : Addr) (len : Nat) (z : List Int) (i : Nat) : sg x len z (gix 0 i) = z.getD i 0 := by
  unfold sg gix
  rw [if_neg (by omega), if_neg (by omega), if_neg (by omega), if_neg (by omega), if_pos (by omega)]
  congr 1
  omega
theorem cell_open {w : World} {a : Addr} {v : Value} (h : w.cell? a = some v) : ∃ arr ty fz, w.heap[a.block]? = some (.cells arr ty fz) ∧ arr[a.off]? = some v ∧ a.spot = none := by
  unfold World.cell? at h
  split at h
  · rename_i arr ty fz hb
    split at h
    · cases h
    · rename_i hs
      refine ⟨arr, ty, fz, hb, h, ?_⟩
      cases e : a.spot with
      | none => rfl
      | some s => rw [e] at hs; exact absurd rfl hs
  · cases h
theorem add_block (x : Addr) (i : Nat) : (x.add i).block = x.block := by unfold Addr.add; split <;> rfl
theorem add_off (x : Addr) (i : Nat) : (x.add i).off = x.off + i := by
  unfold Addr.add
  split
  · rename_i h; subst h; rfl
  · rfl
theorem xok {w : World} {x : Addr} {len : Nat} {z : List Int} (hl : len ≤ z.length) (hc : ∀ i, i < z.length → w.cell? (x.add i) = some (.int .i64 (z.getD i 0))) : XOk w (sg x len z) := by
  refine ⟨(fun e => by have e : (0 : Int) = 1 := e; omega), fun a ha j hj => ?_⟩
  have ha : (a : Int) < 1 := ha
  obtain rfl : a = 0 := by omega
  have hj : (j : Int) < (len : Int) := hj
  obtain ⟨arr, ty, fz, k1, k2, _⟩ := cell_open (hc j (by omega))
  rw [add_block] at k1
  rw [add_off] at k2
  exact ⟨arr, ty, fz, k1, by rw [sg_at]; exact k2⟩
/-! ### what is told of the picks -/
noncomputable def pk (i : Nat) : SI := .bin .and .i64 (.sel 0 (.lit (.ofNat i))) (.lit (.ofNat (nat_lit 31)))
def pv (z : List Int) (i : Nat) : Int := opVal .and .i64 (z.getD i 0) 31
theorem pk_ev (x : Addr) (len : Nat) (z : List Int) (i : Nat) : (pk i).ev (sg x len z) = pv z i := by
  show opVal .and .i64 (sg x len z (gix 0 i)) 31 = _
  rw [sg_at]
  rfl
theorem rng (a : Int) : 0 ≤ opVal .and .i64 a 31 ∧ opVal .and .i64 a 31 ≤ 31 := by
  have h : (BitVec.ofInt 64 a &&& BitVec.ofInt 64 31).toNat ≤ 31 := by
    rw [BitVec.toNat_and]
    exact Nat.and_le_right
  show 0 ≤ IntKind.wrap .i64 ((BitVec.ofInt 64 a &&& BitVec.ofInt 64 31).toNat : Int) ∧ IntKind.wrap .i64 ((BitVec.ofInt 64 a &&& BitVec.ofInt 64 31).toNat : Int) ≤ 31
  rw [IntKind.wrap_i64]
  omega
noncomputable def cmN : Nat → List (BinOp × SI × SI × Bool)
  | 0 => []
  | k + 1 => (.lss, pk (k + 1), pk k, false) :: cmN k
noncomputable def cmB (k : Nat) : List (BinOp × SI × SI × Bool) := (.lss, pk (k + 1), pk k, true) :: cmN k
noncomputable def ivP : Nat → List (SI × Int × Int)
  | 0 => []
  | k + 1 => (pk k, .ofNat 0, .ofNat 31) :: ivP k
noncomputable def ivF (m : Nat) (lo hi : Nat) : List (SI × Int × Int) := (.var 1500, .ofNat lo, .ofNat hi) :: ivP m
/-- none of the first ones falls -/
def Lo (z : List Int) (k : Nat) : Prop := ∀ j, j < k → ¬ pv z (j + 1) < pv z j
theorem Lo.zero (z : List Int) : Lo z 0 := fun j h => absurd h (Nat.not_lt_zero j)
theorem Lo.succ {z : List Int} {k : Nat} (h : Lo z k) (q : ¬ pv z (k + 1) < pv z k) : Lo z (k + 1) := fun j hj => by
  rcases Nat.lt_or_ge j k with h1 | h1
  · exact h j h1
  · obtain rfl : j = k := by omega
    exact q
theorem cmN_ok (x : Addr) (len : Nat) {z : List Int} : ∀ {k : Nat}, Lo z k → ∀ op u v r, (op, u, v, r) ∈ cmN k → cmpVal op (u.ev (sg x len z)) (v.ev (sg x len z)) = r
  | 0, _, _, _, _, _, hm => by cases hm
  | k + 1, h, op, u, v, r, hm => by
    rcases List.mem_cons.1 hm with hm | hm
    · cases hm
      show decide (_ < _) = false
      rw [pk_ev, pk_ev]
      exact decide_eq_false (h k (Nat.lt_succ_self k))
    · exact cmN_ok x len (k := k) (fun j hj => h j (Nat.lt_succ_of_lt hj)) op u v r hm
theorem cmB_ok (x : Addr) (len : Nat) {z : List Int} {k : Nat} (h : Lo z k) (q : pv z (k + 1) < pv z k) : ∀ op u v r, (op, u, v, r) ∈ cmB k → cmpVal op (u.ev (sg x len z)) (v.ev (sg x len z)) = r := by
  intro op u v r hm
  rcases List.mem_cons.1 hm with hm | hm
  · cases hm
    show decide (_ < _) = true
    rw [pk_ev, pk_ev]
    exact decide_eq_true q
  · exact cmN_ok x len h op u v r hm
theorem ivP_ok (x : Addr) (len : Nat) (z : List Int) : ∀ m u lo hi, (u, lo, hi) ∈ ivP m → lo ≤ u.ev (sg x len z) ∧ u.ev (sg x len z) ≤ hi
  | 0, _, _, _, hm => by cases hm
  | k + 1, u, lo, hi, hm => by
    rcases List.mem_cons.1 hm with hm | hm
    · cases hm
      rw [pk_ev]
      exact rng _
    · exact ivP_ok x len z k u lo hi hm
theorem ivF_ok (x : Addr) (z : List Int) (m : Nat) {len lo hi : Nat} (h : lo ≤ len ∧ len ≤ hi) : ∀ u l h, (u, l, h) ∈ ivF m lo hi → l ≤ u.ev (sg x len z) ∧ u.ev (sg x len z) ≤ h := by
  intro u l h' hm
  rcases List.mem_cons.1 hm with hm | hm
  · cases hm
    show (lo : Int) ≤ (len : Int) ∧ (len : Int) ≤ (hi : Int)
    omega
  · exact ivP_ok x len z m u l h' hm
section
variable {w : World} {x : Addr} {len cap m : Nat} {z : List Int} {lo hi : Nat} {es : List (Option (SI × SI))}
theorem at_x {cm : List (BinOp × SI × SI × Bool)} (hz : len ≤ z.length) (hc : ∀ i, i < z.length → w.cell? (x.add i) = some (.int .i64 (z.getD i 0))) (hk : len ≤ cap) (r : yes (run A0 cm (ivF m lo hi) es) = true) (hcm : ∀ op u v r, (op, u, v, r) ∈ cm → cmpVal op (u.ev (sg x len z)) (v.ev (sg x len z)) = r) (hl : lo ≤ len ∧ len ≤ hi) (hgl : GlOk gl w) :
    Calls Tryz.prog 3 #[.slice (some x) len cap] w fun e w' => e = .returned (.bool true) ∧ Below w.heap.size w w' := by
  haveI := hgl
  refine yes_of (xs := [.slice (some x) len cap]) A0 (sg x len z) (.cons (.gsl (y := ⟨((x.block : Nat) : Int).toNat, ((x.off : Nat) : Int).toNat + 0, none⟩) (o := 0) rfl rfl (.ext (by show (0 : Int) < 1; decide)) (fun h => ?_) hk) .nil) hcm (ivF_ok x z m hl) (xok hz hc) r
  obtain ⟨arr, ty, fz, _, _, h3⟩ := cell_open (hc 0 (by omega))
  obtain ⟨b, o, s⟩ := x
  have h3 : s = none := by
    revert h3
    unfold Addr.add
    rw [if_pos rfl]
    exact id
  subst h3
  rfl
theorem good {k : Nat} (hz : len ≤ z.length) (hc : ∀ i, i < z.length → w.cell? (x.add i) = some (.int .i64 (z.getD i 0))) (hk : len ≤ cap) (r : yes (run A0 (cmN k) (ivF m lo hi) es) = true) (h : Lo z k) (hl : lo ≤ len ∧ len ≤ hi) (hgl : GlOk gl w) :
    Calls Tryz.prog 3 #[.slice (some x) len cap] w fun e w' => e = .returned (.bool true) ∧ Below w.heap.size w w' := at_x hz hc hk r (cmN_ok x len h) hl hgl
theorem bad_ {k : Nat} (hz : len ≤ z.length) (hc : ∀ i, i < z.length → w.cell? (x.add i) = some (.int .i64 (z.getD i 0))) (hk : len ≤ cap) (r : yes (run A0 (cmB k) (ivF m lo hi) es) = true) (h : Lo z k) (q : pv z (k + 1) < pv z k) (hl : lo ≤ len ∧ len ≤ hi) (hgl : GlOk gl w) :
    Calls Tryz.prog 3 #[.slice (some x) len cap] w fun e w' => e = .returned (.bool true) ∧ Below w.heap.size w w' := at_x hz hc hk r (cmB_ok x len h q) hl hgl
end
theorem at_n {w : World} {es : List (Option (SI × SI))} (r : yes (run .sl0 [] [] es) = true) (hgl : GlOk gl w) : Calls Tryz.prog 3 #[.slice none 0 0] w fun e w' => e = .returned (.bool true) ∧ Below w.heap.size w w' := by
  haveI := hgl
  exact yes_of (xs := [.slice none 0 0]) .sl0 (fun i => 0) (.cons .sl0 .nil) (fun _ _ _ _ hm => (by cases hm)) (fun _ _ _ hm => (by cases hm)) (XOk.none rfl) r
/-! ### written out -/
noncomputable def p0 : SI := .bin .and .i64 (.sel (nat_lit 0) (.lit (.ofNat (nat_lit 0)))) (.lit (.ofNat (nat_lit 31)))
noncomputable def p1 : SI := .bin .and .i64 (.sel (nat_lit 0) (.lit (.ofNat (nat_lit 1)))) (.lit (.ofNat (nat_lit 31)))
noncomputable def p2 : SI := .bin .and .i64 (.sel (nat_lit 0) (.lit (.ofNat (nat_lit 2)))) (.lit (.ofNat (nat_lit 31)))
noncomputable def p3 : SI := .bin .and .i64 (.sel (nat_lit 0) (.lit (.ofNat (nat_lit 3)))) (.lit (.ofNat (nat_lit 31)))
noncomputable def p4 : SI := .bin .and .i64 (.sel (nat_lit 0) (.lit (.ofNat (nat_lit 4)))) (.lit (.ofNat (nat_lit 31)))
noncomputable def p5 : SI := .bin .and .i64 (.sel (nat_lit 0) (.lit (.ofNat (nat_lit 5)))) (.lit (.ofNat (nat_lit 31)))
noncomputable def p6 : SI := .bin .and .i64 (.sel (nat_lit 0) (.lit (.ofNat (nat_lit 6)))) (.lit (.ofNat (nat_lit 31)))
noncomputable def p7 : SI := .bin .and .i64 (.sel (nat_lit 0) (.lit (.ofNat (nat_lit 7)))) (.lit (.ofNat (nat_lit 31)))
noncomputable def p8 : SI := .bin .and .i64 (.sel (nat_lit 0) (.lit (.ofNat (nat_lit 8)))) (.lit (.ofNat (nat_lit 31)))
noncomputable def p9 : SI := .bin .and .i64 (.sel (nat_lit 0) (.lit (.ofNat (nat_lit 9)))) (.lit (.ofNat (nat_lit 31)))
noncomputable def p10 : SI := .bin .and .i64 (.sel (nat_lit 0) (.lit (.ofNat (nat_lit 10)))) (.lit (.ofNat (nat_lit 31)))
noncomputable def p11 : SI := .bin .and .i64 (.sel (nat_lit 0) (.lit (.ofNat (nat_lit 11)))) (.lit (.ofNat (nat_lit 31)))
noncomputable def p12 : SI := .bin .and .i64 (.sel (nat_lit 0) (.lit (.ofNat (nat_lit 12)))) (.lit (.ofNat (nat_lit 31)))
noncomputable def p13 : SI := .bin .and .i64 (.sel (nat_lit 0) (.lit (.ofNat (nat_lit 13)))) (.lit (.ofNat (nat_lit 31)))
noncomputable def p14 : SI := .bin .and .i64 (.sel (nat_lit 0) (.lit (.ofNat (nat_lit 14)))) (.lit (.ofNat (nat_lit 31)))
noncomputable def p15 : SI := .bin .and .i64 (.sel (nat_lit 0) (.lit (.ofNat (nat_lit 15)))) (.lit (.ofNat (nat_lit 31)))
noncomputable def p16 : SI := .bin .and .i64 (.sel (nat_lit 0) (.lit (.ofNat (nat_lit 16)))) (.lit (.ofNat (nat_lit 31)))
noncomputable def p17 : SI := .bin .and .i64 (.sel (nat_lit 0) (.lit (.ofNat (nat_lit 17)))) (.lit (.ofNat (nat_lit 31)))
noncomputable def p18 : SI := .bin .and .i64 (.sel (nat_lit 0) (.lit (.ofNat (nat_lit 18)))) (.lit (.ofNat (nat_lit 31)))
noncomputable def p19 : SI := .bin .and .i64 (.sel (nat_lit 0) (.lit (.ofNat (nat_lit 19)))) (.lit (.ofNat (nat_lit 31)))
noncomputable def n0 : List (BinOp × SI × SI × Bool) := []
noncomputable def n1 : List (BinOp × SI × SI × Bool) := (.lss, p1, p0, false) :: n0
noncomputable def n2 : List (BinOp × SI × SI × Bool) := (.lss, p2, p1, false) :: n1
noncomputable def n3 : List (BinOp × SI × SI × Bool) := (.lss, p3, p2, false) :: n2
noncomputable def n4 : List (BinOp × SI × SI × Bool) := (.lss, p4, p3, false) :: n3
noncomputable def n5 : List (BinOp × SI × SI × Bool) := (.lss, p5, p4, false) :: n4
noncomputable def n6 : List (BinOp × SI × SI × Bool) := (.lss, p6, p5, false) :: n5
noncomputable def n7 : List (BinOp × SI × SI × Bool) := (.lss, p7, p6, false) :: n6
noncomputable def n8 : List (BinOp × SI × SI × Bool) := (.lss, p8, p7, false) :: n7
noncomputable def n9 : List (BinOp × SI × SI × Bool) := (.lss, p9, p8, false) :: n8
noncomputable def n10 : List (BinOp × SI × SI × Bool) := (.lss, p10, p9, false) :: n9
noncomputable def n11 : List (BinOp × SI × SI × Bool) := (.lss, p11, p10, false) :: n10
noncomputable def n12 : List (BinOp × SI × SI × Bool) := (.lss, p12, p11, false) :: n11
noncomputable def n13 : List (BinOp × SI × SI × Bool) := (.lss, p13, p12, false) :: n12
noncomputable def n14 : List (BinOp × SI × SI × Bool) := (.lss, p14, p13, false) :: n13
noncomputable def n15 : List (BinOp × SI × SI × Bool) := (.lss, p15, p14, false) :: n14
noncomputable def n16 : List (BinOp × SI × SI × Bool) := (.lss, p16, p15, false) :: n15
noncomputable def n17 : List (BinOp × SI × SI × Bool) := (.lss, p17, p16, false) :: n16
noncomputable def n18 : List (BinOp × SI × SI × Bool) := (.lss, p18, p17, false) :: n17
noncomputable def n19 : List (BinOp × SI × SI × Bool) := (.lss, p19, p18, false) :: n18
noncomputable def b0 : List (BinOp × SI × SI × Bool) := (.lss, p1, p0, true) :: n0
noncomputable def b1 : List (BinOp × SI × SI × Bool) := (.lss, p2, p1, true) :: n1
noncomputable def b2 : List (BinOp × SI × SI × Bool) := (.lss, p3, p2, true) :: n2
noncomputable def b3 : List (BinOp × SI × SI × Bool) := (.lss, p4, p3, true) :: n3
noncomputable def b4 : List (BinOp × SI × SI × Bool) := (.lss, p5, p4, true) :: n4
noncomputable def b5 : List (BinOp × SI × SI × Bool) := (.lss, p6, p5, true) :: n5
noncomputable def b6 : List (BinOp × SI × SI × Bool) := (.lss, p7, p6, true) :: n6
noncomputable def b7 : List (BinOp × SI × SI × Bool) := (.lss, p8, p7, true) :: n7
noncomputable def b8 : List (BinOp × SI × SI × Bool) := (.lss, p9, p8, true) :: n8
noncomputable def b9 : List (BinOp × SI × SI × Bool) := (.lss, p10, p9, true) :: n9
noncomputable def b10 : List (BinOp × SI × SI × Bool) := (.lss, p11, p10, true) :: n10
noncomputable def b11 : List (BinOp × SI × SI × Bool) := (.lss, p12, p11, true) :: n11
noncomputable def b12 : List (BinOp × SI × SI × Bool) := (.lss, p13, p12, true) :: n12
noncomputable def b13 : List (BinOp × SI × SI × Bool) := (.lss, p14, p13, true) :: n13
noncomputable def b14 : List (BinOp × SI × SI × Bool) := (.lss, p15, p14, true) :: n14
noncomputable def b15 : List (BinOp × SI × SI × Bool) := (.lss, p16, p15, true) :: n15
noncomputable def b16 : List (BinOp × SI × SI × Bool) := (.lss, p17, p16, true) :: n16
noncomputable def b17 : List (BinOp × SI × SI × Bool) := (.lss, p18, p17, true) :: n17
noncomputable def b18 : List (BinOp × SI × SI × Bool) := (.lss, p19, p18, true) :: n18
noncomputable def q0 : List (SI × Int × Int) := []
noncomputable def q1 : List (SI × Int × Int) := (p0, (.ofNat (nat_lit 0)), (.ofNat (nat_lit 31))) :: q0
noncomputable def q2 : List (SI × Int × Int) := (p1, (.ofNat (nat_lit 0)), (.ofNat (nat_lit 31))) :: q1
noncomputable def q3 : List (SI × Int × Int) := (p2, (.ofNat (nat_lit 0)), (.ofNat (nat_lit 31))) :: q2
noncomputable def q4 : List (SI × Int × Int) := (p3, (.ofNat (nat_lit 0)), (.ofNat (nat_lit 31))) :: q3
noncomputable def q5 : List (SI × Int × Int) := (p4, (.ofNat (nat_lit 0)), (.ofNat (nat_lit 31))) :: q4
noncomputable def q6 : List (SI × Int × Int) := (p5, (.ofNat (nat_lit 0)), (.ofNat (nat_lit 31))) :: q5
noncomputable def q7 : List (SI × Int × Int) := (p6, (.ofNat (nat_lit 0)), (.ofNat (nat_lit 31))) :: q6
noncomputable def q8 : List (SI × Int × Int) := (p7, (.ofNat (nat_lit 0)), (.ofNat (nat_lit 31))) :: q7
noncomputable def q9 : List (SI × Int × Int) := (p8, (.ofNat (nat_lit 0)), (.ofNat (nat_lit 31))) :: q8
noncomputable def q10 : List (SI × Int × Int) := (p9, (.ofNat (nat_lit 0)), (.ofNat (nat_lit 31))) :: q9
noncomputable def q11 : List (SI × Int × Int) := (p10, (.ofNat (nat_lit 0)), (.ofNat (nat_lit 31))) :: q10
noncomputable def q12 : List (SI × Int × Int) := (p11, (.ofNat (nat_lit 0)), (.ofNat (nat_lit 31))) :: q11
noncomputable def q13 : List (SI × Int × Int) := (p12, (.ofNat (nat_lit 0)), (.ofNat (nat_lit 31))) :: q12
noncomputable def q14 : List (SI × Int × Int) := (p13, (.ofNat (nat_lit 0)), (.ofNat (nat_lit 31))) :: q13
noncomputable def q15 : List (SI × Int × Int) := (p14, (.ofNat (nat_lit 0)), (.ofNat (nat_lit 31))) :: q14
noncomputable def q16 : List (SI × Int × Int) := (p15, (.ofNat (nat_lit 0)), (.ofNat (nat_lit 31))) :: q15
noncomputable def q17 : List (SI × Int × Int) := (p16, (.ofNat (nat_lit 0)), (.ofNat (nat_lit 31))) :: q16
noncomputable def q18 : List (SI × Int × Int) := (p17, (.ofNat (nat_lit 0)), (.ofNat (nat_lit 31))) :: q17
noncomputable def q19 : List (SI × Int × Int) := (p18, (.ofNat (nat_lit 0)), (.ofNat (nat_lit 31))) :: q18
noncomputable def q20 : List (SI × Int × Int) := (p19, (.ofNat (nat_lit 0)), (.ofNat (nat_lit 31))) :: q19
noncomputable def v0 : List (SI × Int × Int) := (.var (nat_lit 1500), (.ofNat (nat_lit 0)), (.ofNat (nat_lit 0))) :: q0
noncomputable def v1 : List (SI × Int × Int) := (.var (nat_lit 1500), (.ofNat (nat_lit 1)), (.ofNat (nat_lit 1))) :: q1
noncomputable def v2 : List (SI × Int × Int) := (.var (nat_lit 1500), (.ofNat (nat_lit 2)), (.ofNat (nat_lit 2))) :: q2
noncomputable def v3 : List (SI × Int × Int) := (.var (nat_lit 1500), (.ofNat (nat_lit 3)), (.ofNat (nat_lit 3))) :: q3
noncomputable def v4 : List (SI × Int × Int) := (.var (nat_lit 1500), (.ofNat (nat_lit 4)), (.ofNat (nat_lit 4))) :: q4
noncomputable def v5 : List (SI × Int × Int) := (.var (nat_lit 1500), (.ofNat (nat_lit 5)), (.ofNat (nat_lit 5))) :: q5
noncomputable def v6 : List (SI × Int × Int) := (.var (nat_lit 1500), (.ofNat (nat_lit 6)), (.ofNat (nat_lit 6))) :: q6
noncomputable def v7 : List (SI × Int × Int) := (.var (nat_lit 1500), (.ofNat (nat_lit 7)), (.ofNat (nat_lit 7))) :: q7
noncomputable def v8 : List (SI × Int × Int) := (.var (nat_lit 1500), (.ofNat (nat_lit 8)), (.ofNat (nat_lit 8))) :: q8
noncomputable def v9 : List (SI × Int × Int) := (.var (nat_lit 1500), (.ofNat (nat_lit 9)), (.ofNat (nat_lit 9))) :: q9
noncomputable def v10 : List (SI × Int × Int) := (.var (nat_lit 1500), (.ofNat (nat_lit 10)), (.ofNat (nat_lit 10))) :: q10
noncomputable def v11 : List (SI × Int × Int) := (.var (nat_lit 1500), (.ofNat (nat_lit 11)), (.ofNat (nat_lit 11))) :: q11
noncomputable def v12 : List (SI × Int × Int) := (.var (nat_lit 1500), (.ofNat (nat_lit 12)), (.ofNat (nat_lit 12))) :: q12
noncomputable def v13 : List (SI × Int × Int) := (.var (nat_lit 1500), (.ofNat (nat_lit 13)), (.ofNat (nat_lit 13))) :: q13
noncomputable def v14 : List (SI × Int × Int) := (.var (nat_lit 1500), (.ofNat (nat_lit 14)), (.ofNat (nat_lit 14))) :: q14
noncomputable def v15 : List (SI × Int × Int) := (.var (nat_lit 1500), (.ofNat (nat_lit 15)), (.ofNat (nat_lit 15))) :: q15
noncomputable def v16 : List (SI × Int × Int) := (.var (nat_lit 1500), (.ofNat (nat_lit 16)), (.ofNat (nat_lit 16))) :: q16
noncomputable def v17 : List (SI × Int × Int) := (.var (nat_lit 1500), (.ofNat (nat_lit 17)), (.ofNat (nat_lit 17))) :: q17
noncomputable def v18 : List (SI × Int × Int) := (.var (nat_lit 1500), (.ofNat (nat_lit 18)), (.ofNat (nat_lit 18))) :: q18
noncomputable def v19 : List (SI × Int × Int) := (.var (nat_lit 1500), (.ofNat (nat_lit 19)), (.ofNat (nat_lit 19))) :: q19
noncomputable def v20 : List (SI × Int × Int) := (.var (nat_lit 1500), (.ofNat (nat_lit 20)), (.ofNat (nat_lit 20))) :: q20
noncomputable def v21 : List (SI × Int × Int) := (.var (nat_lit 1500), (.ofNat (nat_lit 21)), (.ofNat (nat_lit 9223372036854775807))) :: q20
abbrev En : Type := List (Option (SI × SI))
noncomputable def s1 : Option (SI × SI) := some (p1, p0)
noncomputable def s2 : Option (SI × SI) := some (p2, p1)
noncomputable def s3 : Option (SI × SI) := some (p3, p2)
noncomputable def s4 : Option (SI × SI) := some (p4, p3)
noncomputable def s5 : Option (SI × SI) := some (p5, p4)
noncomputable def s6 : Option (SI × SI) := some (p6, p5)
noncomputable def s7 : Option (SI × SI) := some (p7, p6)
noncomputable def s8 : Option (SI × SI) := some (p8, p7)
noncomputable def s9 : Option (SI × SI) := some (p9, p8)
noncomputable def s10 : Option (SI × SI) := some (p10, p9)
noncomputable def s11 : Option (SI × SI) := some (p11, p10)
noncomputable def s12 : Option (SI × SI) := some (p12, p11)
noncomputable def s13 : Option (SI × SI) := some (p13, p12)
noncomputable def s14 : Option (SI × SI) := some (p14, p13)
noncomputable def s15 : Option (SI × SI) := some (p15, p14)
noncomputable def s16 : Option (SI × SI) := some (p16, p15)
noncomputable def s17 : Option (SI × SI) := some (p17, p16)
noncomputable def s18 : Option (SI × SI) := some (p18, p17)
noncomputable def s19 : Option (SI × SI) := some (p19, p18)
noncomputable def e0 : En := []
noncomputable def e1 : En := [none]
noncomputable def e2 : En := [none, s1]
noncomputable def e3 : En := [none, s1, s2]
noncomputable def e4 : En := [none, s1, s2, s3]
noncomputable def e5 : En := [none, s1, s2, s3, s4]
noncomputable def e6 : En := [none, s1, s2, s3, s4, s5]
noncomputable def e7 : En := [none, s1, s2, s3, s4, s5, s6]
noncomputable def e8 : En := [none, s1, s2, s3, s4, s5, s6, s7]
noncomputable def e9 : En := [none, s1, s2, s3, s4, s5, s6, s7, s8]
noncomputable def e10 : En := [none, s1, s2, s3, s4, s5, s6, s7, s8, s9]
noncomputable def e11 : En := [none, s1, s2, s3, s4, s5, s6, s7, s8, s9, s10]
noncomputable def e12 : En := [none, s1, s2, s3, s4, s5, s6, s7, s8, s9, s10, s11]
noncomputable def e13 : En := [none, s1, s2, s3, s4, s5, s6, s7, s8, s9, s10, s11, s12]
noncomputable def e14 : En := [none, s1, s2, s3, s4, s5, s6, s7, s8, s9, s10, s11, s12, s13]
noncomputable def e15 : En := [none, s1, s2, s3, s4, s5, s6, s7, s8, s9, s10, s11, s12, s13, s14]
noncomputable def e16 : En := [none, s1, s2, s3, s4, s5, s6, s7, s8, s9, s10, s11, s12, s13, s14, s15]
noncomputable def e17 : En := [none, s1, s2, s3, s4, s5, s6, s7, s8, s9, s10, s11, s12, s13, s14, s15, s16]
noncomputable def e18 : En := [none, s1, s2, s3, s4, s5, s6, s7, s8, s9, s10, s11, s12, s13, s14, s15, s16, s17]
noncomputable def e19 : En := [none, s1, s2, s3, s4, s5, s6, s7, s8, s9, s10, s11, s12, s13, s14, s15, s16, s17, s18]
noncomputable def e20 : En := [none, s1, s2, s3, s4, s5, s6, s7, s8, s9, s10, s11, s12, s13, s14, s15, s16, s17, s18, s19]
noncomputable def d1 : En := [none, none]
noncomputable def d2 : En := [none, s1, none]
noncomputable def d3 : En := [none, s1, s2, none]
noncomputable def d4 : En := [none, s1, s2, s3, none]
noncomputable def d5 : En := [none, s1, s2, s3, s4, none]
noncomputable def d6 : En := [none, s1, s2, s3, s4, s5, none]
noncomputable def d7 : En := [none, s1, s2, s3, s4, s5, s6, none]
noncomputable def d8 : En := [none, s1, s2, s3, s4, s5, s6, s7, none]
noncomputable def d9 : En := [none, s1, s2, s3, s4, s5, s6, s7, s8, none]
noncomputable def d10 : En := [none, s1, s2, s3, s4, s5, s6, s7, s8, s9, none]
noncomputable def d11 : En := [none, s1, s2, s3, s4, s5, s6, s7, s8, s9, s10, none]
noncomputable def d12 : En := [none, s1, s2, s3, s4, s5, s6, s7, s8, s9, s10, s11, none]
noncomputable def d13 : En := [none, s1, s2, s3, s4, s5, s6, s7, s8, s9, s10, s11, s12, none]
noncomputable def d14 : En := [none, s1, s2, s3, s4, s5, s6, s7, s8, s9, s10, s11, s12, s13, none]
noncomputable def d15 : En := [none, s1, s2, s3, s4, s5, s6, s7, s8, s9, s10, s11, s12, s13, s14, none]
noncomputable def d16 : En := [none, s1, s2, s3, s4, s5, s6, s7, s8, s9, s10, s11, s12, s13, s14, s15, none]
noncomputable def d17 : En := [none, s1, s2, s3, s4, s5, s6, s7, s8, s9, s10, s11, s12, s13, s14, s15, s16, none]
noncomputable def d18 : En := [none, s1, s2, s3, s4, s5, s6, s7, s8, s9, s10, s11, s12, s13, s14, s15, s16, s17, none]
noncomputable def d19 : En := [none, s1, s2, s3, s4, s5, s6, s7, s8, s9, s10, s11, s12, s13, s14, s15, s16, s17, s18, none]
end Go.Proofs.YtpgebnmcphedgaaGreatDoor.replayPicks
