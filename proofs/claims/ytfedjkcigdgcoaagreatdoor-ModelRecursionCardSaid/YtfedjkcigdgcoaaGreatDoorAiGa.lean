/- Keys of maps: scalars, and arrays of whole numbers. -/
import Derived.Test.YtfedjkcigdgcoaaGreatDoorAiG
namespace Go.Ai
open Go Go.RowKit
set_option linter.unusedVariables false
section
variable {G : Program} {W0 : World} {E : Env} {nx : Nat} {w : World} {cf : Cf}
/-! maps: keys that are whole numbers, strings, bools -/
def keyD : TypeDesc → Bool
  | .int _ | .string | .bool => true
  | _ => false
theorem run_checkKey' {k : TypeId} {d : TypeDesc} (hd : G.underlying k = some d) (hk : keyD d = true) (empty : Bool) (n : Nat) (v : Value) : (Instr.checkKey empty (n + 1) k v).run G w = .ok () w := by
  simp only [Instr.checkKey, Sem.run_bind, run_underlying hd, Result.andThen_ok]
  cases d <;> first | rfl | (cases hk; done)
/-! arrays of whole numbers -/
/-- the elements' type is of whole numbers, of one cell -/
noncomputable def arrO (G : Program) (kt : TypeId) : Option Nat := match G.underlying kt with
  | some (.array n e) => match aggO G e, szO G e, G.underlying e with
    | some false, some 1, some (.int _) => some n
    | _, _, _ => none
  | _ => none
theorem arrO_ok {kt : TypeId} {n : Nat} (h : arrO G kt = some n) : ∃ e k, G.underlying kt = some (.array n e) ∧ aggO G e = some false ∧ szO G e = some 1 ∧ G.underlying e = some (.int k) := by
  unfold arrO at h
  split at h
  · rename_i n' e hu
    split at h
    · rename_i k h1 h2 h3; cases h; exact ⟨e, k, hu, h1, h2, h3⟩
    · cases h
  · cases h
noncomputable def eqA (cf : Cf) (xs : List AV) : List AV → Option Bool :=
  List.rec (fun _ => some true) (fun x _ ih ys => List.casesOn ys none (fun y ys => match x, y with
    | .int k a, .int k' b => match kbeq k k' with
      | true => match cmpO cf .eql a b with
        | some true => ih ys
        | some false => some false
        | none => none
      | false => none
    | _, _ => none)) xs
theorem eqA_cons (cf : Cf) (x y : AV) (xs ys : List AV) : eqA cf (x :: xs) (y :: ys) = (match x, y with
    | .int k a, .int k' b => match kbeq k k' with
      | true => match cmpO cf .eql a b with
        | some true => eqA cf xs ys
        | some false => some false
        | none => none
      | false => none
    | _, _ => none) := rfl
theorem eqA_ok (hcf : cf.ok E.σ) {e : TypeId} {kk : IntKind} (hag : aggO G e = some false) (hu : G.underlying e = some (.int kk)) (d : Nat) : ∀ {xs ys : List AV} {vs us : List Value} {V U : Array Value} {i n : Nat} {r : Bool},
    VRs E xs vs → VRs E ys us → (∀ j v, vs[j]? = some v → V[i + j]? = some v) → (∀ j v, us[j]? = some v → U[i + j]? = some v) → n = xs.length → eqA cf xs ys = some r →
    ∃ q : Option Bool, (forIn (List.range' i n) ((none, ()) : Option Bool × Unit) fun i __s => (do
            let a ← part e V i
            let b ← part e U i
            let c ← Op.equalIn (d + 1) e a b
            if c = false then pure (ForInStep.done (some false, ())) else pure (ForInStep.yield (none, ())) : Sem _)).run G w = .ok (q, ()) w ∧ q.getD true = r ∧ (r = true → ∀ m, (vs.zip us).all (fun (x, y) => Instr.sameBits m x y) = true ∧ (us.zip vs).all (fun (x, y) => Instr.sameBits m x y) = true) := by
  intro xs
  induction xs with
  | nil =>
    intro ys vs us V U i n r hx hy _ _ hn h
    cases h; subst hn; cases hx
    exact ⟨none, rfl, rfl, fun _ _ => by simp⟩
  | cons x xs ih =>
    intro ys vs us V U i n r hx hy hV hU hn h
    cases ys with
    | nil => cases h
    | cons y ys =>
      rw [eqA_cons] at h
      split at h
      · rename_i k a k' b
        split at h
        · rename_i hk
          have hk := (kbeq_iff _ _).1 hk
          subst hk
          subst hn
          cases hx with
          | cons h1 hx =>
            cases hy with
            | cons h2 hy =>
              cases h1; cases h2
              have pV := hV 0 _ rfl
              have pU := hU 0 _ rfl
              simp only [Nat.add_zero] at pV pU
              have pa : (part e V i).run G w = .ok (Value.int k (a.ev E.σ)) w := by simp [part, run_isAgg hag, pV]
              have pb : (part e U i).run G w = .ok (Value.int k (b.ev E.σ)) w := by simp [part, run_isAgg hag, pU]
              have pe : (Op.equalIn (d + 1) e (Value.int k (a.ev E.σ)) (Value.int k (b.ev E.σ))).run G w = .ok (a.ev E.σ == b.ev E.σ) w := by simp [Op.equalIn, run_underlying hu]
              split at h
              · rename_i hc
                have hc := cmpO_ok hcf hc
                simp only [cmpVal, decide_eq_true_eq] at hc
                rename_i vs us _
                obtain ⟨q, hq, hr, hall⟩ := ih (V := V) (U := U) (i := i + 1) hx hy (fun j v hj => by have := hV (j + 1) v (by simpa using hj); rw [show i + 1 + j = i + (j + 1) by omega]; exact this) (fun j v hj => by have := hU (j + 1) v (by simpa using hj); rw [show i + 1 + j = i + (j + 1) by omega]; exact this) rfl h
                refine ⟨q, ?_, hr, fun hrt m => ?_⟩
                · simp only [List.length_cons, List.range'_succ, List.forIn_cons, Sem.run_bind, pa, pb, pe, Result.andThen_ok]
                  rw [hc]
                  simpa using hq
                · have := hall hrt m
                  rw [hc]
                  simp only [List.zip_cons_cons, List.all_cons, this.1, this.2, Bool.and_true]
                  cases m <;> simp [Instr.sameBits]
              · rename_i hc
                have hc := cmpO_ok hcf hc
                simp only [cmpVal, decide_eq_false_iff_not] at hc
                cases h
                refine ⟨some false, ?_, rfl, fun h => by cases h⟩
                simp only [List.length_cons, List.range'_succ, List.forIn_cons, Sem.run_bind, pa, pb, pe, Result.andThen_ok]
                have : (a.ev E.σ == b.ev E.σ) = false := beq_eq_false_iff_ne.2 hc
                rw [this]; rfl
              · cases h
        · cases h
      · cases h
theorem equalIn_arr (d : Nat) {kt e : TypeId} {n : Nat} (hu : G.underlying kt = some (.array n e)) (hs : szO G e = some 1) {xs ys : Array Value} {q : Option Bool} (hq : (forIn (List.range' 0 n) ((none, ()) : Option Bool × Unit) fun i __s => (do
            let a ← part e xs i
            let b ← part e ys i
            let c ← Op.equalIn d e a b
            if c = false then pure (ForInStep.done (some false, ())) else pure (ForInStep.yield (none, ())) : Sem _)).run G w = .ok (q, ()) w) : (Op.equalIn (d + 1) kt (.agg xs) (.agg ys)).run G w = .ok (q.getD true) w := by
  simp [Op.equalIn, run_underlying hu, run_sizeOf hs]
  rw [hq]
  cases q <;> rfl
theorem sameBits_agg (n : Nat) {a b : Array Value} (hs : a.size = b.size) (h : (a.toList.zip b.toList).all (fun (x, y) => Instr.sameBits n x y) = true) : Instr.sameBits (n + 1) (.agg a) (.agg b) = true := by
  simp only [Instr.sameBits, hs, BEq.rfl, Bool.true_and]
  exact h
theorem arr_equal (hcf : cf.ok E.σ) {kt : TypeId} {n : Nat} (hk : arrO G kt = some n) {xs ys : List AV} {x' y' : Value} (hx : VR E (.agg xs) x') (hy : VR E (.agg ys) y') (hn : xs.length = n) {r : Bool} (h : eqA cf xs ys = some r) :
    (Op.equal kt x' y').run G w = .ok r w ∧ (r = true → ys.length = n → Instr.sameBits 10000 y' x' = true) := by
  obtain ⟨e, k, hu, hag, hs, hi⟩ := arrO_ok hk
  cases hx; cases hy
  rename_i vs hvs us hus
  subst hn
  obtain ⟨q, hq, hr, hall⟩ := eqA_ok (w := w) (V := vs.toArray) (U := us.toArray) (i := 0) hcf hag hi 9998 hvs hus (fun j v hj => by simpa using hj) (fun j v hj => by simpa using hj) rfl h
  constructor
  · have := equalIn_arr (d := 9999) hu hs hq
    rw [hr] at this; exact this
  · intro hrt hl
    have h1 := hvs.length
    have h2 := hus.length
    exact sameBits_agg 9999 (by simp; omega) (hall hrt 9999).2
theorem arr_check' (d : Nat) {kt : TypeId} {n : Nat} (hk : arrO G kt = some n) {xs : List AV} {x' : Value} (hx : VR E (.agg xs) x') (hn : xs.length = n) (empty : Bool) : (Instr.checkKey empty (d + 1 + 1) kt x').run G w = .ok () w := by
  obtain ⟨e, k, hu, hag, hs, hi⟩ := arrO_ok hk
  cases hx
  rename_i vs hvs
  subst hn
  have hlen := hvs.length
  have go : ∀ (n i : Nat), i + n = vs.length → (forIn (List.range' i n) PUnit.unit fun i __s => (do
        let __do_lift ← sizeOf e
        let __do_lift ← part e vs.toArray (i * __do_lift)
        (fun a => ForInStep.yield PUnit.unit) <$> Instr.checkKey empty (d + 1) e __do_lift : Sem (ForInStep PUnit))).run G w = .ok PUnit.unit w := by
    intro n
    induction n with
    | zero => intro i _; rfl
    | succ n ih =>
      intro i hi'
      have hlt : i < vs.length := by omega
      have pp : (part e vs.toArray i).run G w = .ok vs[i] w := by simp [part, run_isAgg hag, List.getElem?_eq_getElem hlt]
      have ck : (Instr.checkKey empty (d + 1) e vs[i]).run G w = .ok () w := run_checkKey' hi rfl empty d _
      simp only [List.range'_succ, List.forIn_cons, Sem.run_bind, run_sizeOf hs, Result.andThen_ok, Nat.mul_one, pp]
      rw [map_eq_pure_bind]
      simp only [Sem.run_bind, ck, Result.andThen_ok, Sem.run_pure]
      exact ih (i + 1) (by omega)
  have := go vs.length 0 (by omega)
  rw [← hlen] at this
  rw [Instr.checkKey]
  simp [run_underlying hu]
  exact this
theorem arr_check {kt : TypeId} {n : Nat} (hk : arrO G kt = some n) {xs : List AV} {x' : Value} (hx : VR E (.agg xs) x') (hn : xs.length = n) (empty : Bool) : (Instr.checkKey empty 10000 kt x').run G w = .ok () w := arr_check' 9998 hk hx hn empty
end
end Go.Ai
