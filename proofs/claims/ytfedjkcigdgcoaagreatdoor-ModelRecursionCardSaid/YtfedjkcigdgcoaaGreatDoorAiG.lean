/- What binary operations, look-ups, type assertions and lengths come to, on abstract values. -/
import Derived.Test.YtfedjkcigdgcoaaGreatDoorAiF
import Derived.MapKept
namespace Go.Ai
open Go Go.RowKit
set_option linter.unusedVariables false
section
variable {G : Program} {W0 : World} {E : Env} {nx : Nat} {w : World} {cf : Cf}

inductive OpC where
  | shift | ar | div | cmp
def opC : BinOp → OpC
  | .shl | .shr => .shift
  | .add | .sub | .mul | .and | .or | .xor | .andNot => .ar
  | .quo | .rem => .div
  | _ => .cmp
noncomputable def eqlO (cf : Cf) (G : Program) (t : TypeId) (x y : AV) : Option Bool :=
  match x, y with
  | .str a, .str b => strEqO cf a b
  | .agg a, .agg b => match G.eqGuardType G.depth t with
    | false => eqV cf G 12 t (.agg a) (.agg b)
    | true => none
  | x, y => eqO G t x y
noncomputable def binOpK {R : Type} (cf : Cf) (G : Program) (op : BinOp) (t : TypeId) (x y : AV) (K : Option AV → R) : R :=
  match x, y with
  | .int k a, .int k' b => match opC op with
    | .shift => match cmpO cf .lss b (.lit 0) with
      | some false => binK cf op k a b (fun r => K (some (.int k r)))
      | _ => K none
    | .ar => match kbeq k k' with
      | true => binK cf op k a b (fun r => K (some (.int k r)))
      | false => K none
    | .div => match kbeq k k' with
      | true => match cmpO cf .eql b (.lit 0) with
        | some false => binK cf op k a b (fun r => K (some (.int k r)))
        | _ => K none
      | false => K none
    | .cmp => match kbeq k k' with
      | true => match cmpO cf op a b with
        | some r => K (some (.bool r))
        | none => K none
      | false => K none
  | x, y => match op with
    | .eql => match eqlO cf G t x y with
      | some r => K (some (.bool r))
      | none => K none
    | .neq => match eqlO cf G t x y with
      | some r => K (some (.bool (Bool.rec true false r)))
      | none => K none
    | .add => match x, y with
      | .str a, .str b => match Nat.ble (Nat.add (lenL a) (lenL b)) 4611686018427387904 with
        | true => K (some (.str (a ++ b)))
        | false => K none
      | _, _ => K none
    | _ => K none
/-- what an operation of whole numbers gives -/
theorem bin_ar {op : BinOp} (h : opC op = .ar) (t : TypeId) (k : IntKind) (a b : Int) : (binOp op t (.int k a) (.int k b)).run G w = .ok (.int k (opVal op k a b)) w := by
  cases op <;> first | (cases h; done) | (simp [binOp, Op.intArith, Op.intBits, opVal])
theorem bin_div {op : BinOp} (h : opC op = .div) (t : TypeId) (k : IntKind) (a b : Int) (hb : b ≠ 0) : (binOp op t (.int k a) (.int k b)).run G w = .ok (.int k (opVal op k a b)) w := by
  cases op <;> first | (cases h; done) | (simp [binOp, Op.intDiv, opVal, hb])
theorem bin_shift {op : BinOp} (h : opC op = .shift) (t : TypeId) (k k' : IntKind) (a b : Int) (hb : ¬ b < 0) : (binOp op t (.int k a) (.int k' b)).run G w = .ok (.int k (opVal op k a b)) w := by
  cases op <;> first | (cases h; done) | (simp [binOp, Op.shift, opVal, hb])
theorem bin_cmp {op : BinOp} (h : opC op = .cmp) (t : TypeId) (k : IntKind) (a b : Int) : (binOp op t (.int k a) (.int k b)).run G w = .ok (.bool (cmpVal op a b)) w := by
  cases op <;> first | (cases h; done) | (simp [binOp, Op.intCmp, cmpVal]; done) | (simp [binOp, Op.intCmp, cmpVal]; by_cases hh : a < b <;> simp [hh] <;> omega) | (simp [binOp, Op.intCmp, cmpVal]; by_cases hh : b < a <;> simp [hh] <;> omega) | (simp [binOp, Op.intCmp, cmpVal]; by_cases hh : a = b <;> simp [hh])
theorem guard_ok (op : BinOp) (t : TypeId) (xo yo : Operand) {x y : Value} (h1 : ¬ (x = .nilIface ∧ y = .nilIface)) (h2 : ∀ a b, ¬ (x = .agg a ∧ y = .agg b)) : (eqGuard op t xo yo x y).run G w = .ok () w := by
  have main : ∀ (x y : Value), ¬ (x = .nilIface ∧ y = .nilIface) → (∀ a b, ¬ (x = .agg a ∧ y = .agg b)) → (eqGuard .eql t xo yo x y).run G w = .ok () w ∧ (eqGuard .neq t xo yo x y).run G w = .ok () w := by
    intro x y h1 h2
    cases x <;> cases y <;> first | exact ⟨rfl, rfl⟩ | exact absurd ⟨rfl, rfl⟩ h1 | exact absurd ⟨rfl, rfl⟩ (h2 _ _)
  cases op <;> first | rfl | exact (main x y h1 h2).1 | exact (main x y h1 h2).2
theorem guarded {op : BinOp} {t : TypeId} {xo yo : Operand} {x y : Value} (h1 : ¬ (x = .nilIface ∧ y = .nilIface)) (h2 : ∀ a b, ¬ (x = .agg a ∧ y = .agg b)) {z : Value} (h : (binOp op t x y).run G w = .ok z w) :
    (do eqGuard op t xo yo x y; binOp op t x y : Sem Value).run G w = .ok z w := by
  simp only [Sem.run_bind, guard_ok op t xo yo h1 h2, Result.andThen_ok, h]
theorem guard_agg (op : BinOp) {t : TypeId} (h : G.eqGuardType G.depth t = false) (xo yo : Operand) (a b : Array Value) : (eqGuard op t xo yo (.agg a) (.agg b)).run G w = .ok () w := by
  cases op <;> first | rfl | simp [eqGuard, h]
theorem guarded' {op : BinOp} {t : TypeId} {xo yo : Operand} {x y : Value} (h1 : (eqGuard op t xo yo x y).run G w = .ok () w) {z : Value} (h : (binOp op t x y).run G w = .ok z w) :
    (do eqGuard op t xo yo x y; binOp op t x y : Sem Value).run G w = .ok z w := by
  simp only [Sem.run_bind, h1, Result.andThen_ok, h]
theorem bin_eql {t : TypeId} {x y : AV} {x' y' : Value} (hx : VR E x x') (hy : VR E y y') (hn : ∀ k a k' b, ¬ (x = .int k a ∧ y = .int k' b)) {r : Bool} (hcf : cf.ok E.σ) (h : eqlO cf G t x y = some r) :
    (binOp .eql t x' y').run G w = .ok (.bool r) w ∧ (binOp .neq t x' y').run G w = .ok (.bool !r) w ∧ ∀ op xo yo, (eqGuard op t xo yo x' y').run G w = .ok () w := by
  unfold eqlO at h
  split at h
  · rename_i a b
    cases hx; cases hy
    rename_i s hs s' hs'
    have := strEqO_ok hcf h
    have e := bytes_eq hs hs'
    rw [this] at e
    refine ⟨?_, ?_, fun op xo yo => guard_ok op t xo yo (by simp) (by simp)⟩ <;> simp [binOp, Op.stringOp, e]
  · split at h
    · rename_i hg
      have he := eqV_ok (G := G) (w := w) hcf 12 10000 (by omega) hx hy h
      cases hx; cases hy
      have he : (Op.equal t _ _).run G w = .ok r w := he
      exact ⟨by simp [binOp, he], by simp [binOp, he], fun op xo yo => guard_agg op hg xo yo _ _⟩
    · cases h
  · have he := eqO_ok (G := G) (w := w) hx hy h
    have gen : ∀ x' y', (Op.equal t x' y').run G w = .ok r w → (∀ k a k' b, ¬ (x' = .int k a ∧ y' = .int k' b)) → (∀ k a k' b, ¬ (x' = .float k a ∧ y' = .float k' b)) → (∀ k a b k' c d, ¬ (x' = .complex k a b ∧ y' = .complex k' c d)) → (∀ a b, ¬ (x' = .string a ∧ y' = .string b)) →
        (binOp .eql t x' y').run G w = .ok (.bool r) w ∧ (binOp .neq t x' y').run G w = .ok (.bool !r) w := by
      intro x' y' he h1 h2 h3 h4
      constructor
      · unfold binOp
        split <;> first | exact absurd ⟨rfl, rfl⟩ (h1 _ _ _ _) | exact absurd ⟨rfl, rfl⟩ (h2 _ _ _ _) | exact absurd ⟨rfl, rfl⟩ (h3 _ _ _ _ _ _) | exact absurd ⟨rfl, rfl⟩ (h4 _ _) | (simp [he]; done) | (simp_all; done)
      · unfold binOp
        split <;> first | exact absurd ⟨rfl, rfl⟩ (h1 _ _ _ _) | exact absurd ⟨rfl, rfl⟩ (h2 _ _ _ _) | exact absurd ⟨rfl, rfl⟩ (h3 _ _ _ _ _ _) | exact absurd ⟨rfl, rfl⟩ (h4 _ _) | (simp [he]; done) | (simp_all; done)
    unfold eqO at h
    (repeat' split at h) <;> first
      | (cases h; done)
      | (cases hx; cases hy; exact ⟨(gen _ _ he (by simp) (by simp) (by simp) (by simp)).1, (gen _ _ he (by simp) (by simp) (by simp) (by simp)).2, fun op xo yo => guard_ok op t xo yo (by simp) (by simp)⟩)
theorem binOpK_ok {R : Type} (hcf : cf.ok E.σ) {op : BinOp} {t : TypeId} {xo yo : Operand} {x y : AV} {x' y' : Value} (hx : VR E x x') (hy : VR E y y') (K : Option AV → R) :
    ∃ r, binOpK cf G op t x y K = K r ∧ ∀ v, r = some v → ∃ z, (do eqGuard op t xo yo x' y'; binOp op t x' y' : Sem Value).run G w = .ok z w ∧ VR E v z := by
  have no : ∀ (e : binOpK cf G op t x y K = K none), ∃ r, binOpK cf G op t x y K = K r ∧ ∀ v, r = some v → ∃ z, (do eqGuard op t xo yo x' y'; binOp op t x' y' : Sem Value).run G w = .ok z w ∧ VR E v z :=
    fun e => ⟨none, e, fun v hv => by cases hv⟩
  by_cases hint : ∃ k a k' b, x = .int k a ∧ y = .int k' b
  · obtain ⟨k, a, k', b, rfl, rfl⟩ := hint
    cases hx; cases hy
    have gd : ∀ {z : Value}, (binOp op t (.int k (a.ev E.σ)) (.int k' (b.ev E.σ))).run G w = .ok z w → (do eqGuard op t xo yo (.int k (a.ev E.σ)) (.int k' (b.ev E.σ)); binOp op t (.int k (a.ev E.σ)) (.int k' (b.ev E.σ)) : Sem Value).run G w = .ok z w :=
      fun h => guarded (by simp) (by simp) h
    obtain ⟨c, hc, he⟩ := binK_ok (R := R) hcf op k a b (fun r => K (some (.int k r)))
    have fin : (binOp op t (.int k (a.ev E.σ)) (.int k' (b.ev E.σ))).run G w = .ok (.int k (opVal op k (a.ev E.σ) (b.ev E.σ))) w → ∃ r, K (some (.int k c)) = K r ∧ ∀ v, r = some v → ∃ z, (do eqGuard op t xo yo (.int k (a.ev E.σ)) (.int k' (b.ev E.σ)); binOp op t (.int k (a.ev E.σ)) (.int k' (b.ev E.σ)) : Sem Value).run G w = .ok z w ∧ VR E v z := by
      intro h
      refine ⟨_, rfl, fun v hv => ?_⟩
      cases hv
      refine ⟨_, gd h, ?_⟩
      rw [← he]; exact .int _ _
    unfold binOpK
    simp only
    split
    · rename_i hop
      split
      · rename_i hlt
        rw [hc]
        have : decide (b.ev E.σ < 0) = false := cmpO_ok hcf hlt
        exact fin (bin_shift hop t k k' _ _ (of_decide_eq_false this))
      · exact ⟨none, rfl, fun v hv => by cases hv⟩
    · rename_i hop
      split
      · rename_i hk
        have hk := (kbeq_iff _ _).1 hk
        subst hk
        rw [hc]
        exact fin (bin_ar hop t k _ _)
      · exact ⟨none, rfl, fun v hv => by cases hv⟩
    · rename_i hop
      split
      · rename_i hk
        have hk := (kbeq_iff _ _).1 hk
        subst hk
        split
        · rename_i hz
          rw [hc]
          have : decide (b.ev E.σ = 0) = false := cmpO_ok hcf hz
          exact fin (bin_div hop t k _ _ (of_decide_eq_false this))
        · exact ⟨none, rfl, fun v hv => by cases hv⟩
      · exact ⟨none, rfl, fun v hv => by cases hv⟩
    · rename_i hop
      split
      · rename_i hk
        have hk := (kbeq_iff _ _).1 hk
        subst hk
        split
        · rename_i r hr
          have := cmpO_ok hcf hr
          refine ⟨_, rfl, fun v hv => ?_⟩
          cases hv
          refine ⟨_, gd (bin_cmp hop t k _ _), ?_⟩
          rw [this]; exact .bool _
        · exact ⟨none, rfl, fun v hv => by cases hv⟩
      · exact ⟨none, rfl, fun v hv => by cases hv⟩
  · have hn : ∀ k a k' b, ¬ (x = .int k a ∧ y = .int k' b) := fun k a k' b h => hint ⟨k, a, k', b, h.1, h.2⟩
    unfold binOpK
    split
    · exact absurd ⟨rfl, rfl⟩ (hn _ _ _ _)
    · split
      · split
        · rename_i r hr
          obtain ⟨h1, _, h3⟩ := bin_eql (G := G) (w := w) hx hy hn hcf hr
          exact ⟨_, rfl, fun v hv => by cases hv; exact ⟨_, guarded' (h3 _ _ _) h1, .bool _⟩⟩
        · exact ⟨none, rfl, fun v hv => by cases hv⟩
      · split
        · rename_i r hr
          obtain ⟨_, h2, h3⟩ := bin_eql (G := G) (w := w) hx hy hn hcf hr
          refine ⟨_, rfl, fun v hv => ?_⟩
          cases hv
          refine ⟨_, guarded' (h3 _ _ _) h2, ?_⟩
          cases r <;> exact .bool _
        · exact ⟨none, rfl, fun v hv => by cases hv⟩
      · split
        · split
          · rename_i hle
            have hle := Nat.le_of_ble_eq_true hle
            cases hx; cases hy
            rename_i s hs s' hs'
            change lenL _ + lenL _ ≤ _ at hle
            rw [lenL_eq, lenL_eq] at hle
            refine ⟨_, rfl, fun v hv => ?_⟩
            cases hv
            refine ⟨.string (s ++ s'), guarded (by simp) (by simp) ?_, .str ?_⟩
            · have h1 := str_size hs
              have h2 := str_size hs'
              simp only [binOp_string_add]
              exact run_string_add_sum _ _ _ (by omega)
            · simp [hs, hs']
          · exact ⟨none, rfl, fun v hv => by cases hv⟩
        · exact ⟨none, rfl, fun v hv => by cases hv⟩
      · exact ⟨none, rfl, fun v hv => by cases hv⟩
end
end Go.Ai
