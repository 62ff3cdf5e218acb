/- What look-ups in maps, type assertions and lengths come to, on abstract values. -/
import Derived.Test.YtfedjkcigdgcoaaGreatDoorAiGa
namespace Go.Ai
open Go Go.RowKit
set_option linter.unusedVariables false
section
variable {G : Program} {W0 : World} {E : Env} {nx : Nat} {w : World} {cf : Cf}

noncomputable def keyO (G : Program) (t : TypeId) : Option (TypeId × TypeId) := match G.underlying t with
  | some (.map k e) => some (k, e)
  | _ => none
theorem keyO_ok {t k e : TypeId} (h : keyO G t = some (k, e)) : G.underlying t = some (.map k e) := by
  unfold keyO at h
  split at h
  · rename_i k' e' hu; cases h; exact hu
  · cases h
noncomputable def sameO (cf : Cf) (x y : AV) : Option Bool := match x, y with
  | .int k a, .int k' b => match kbeq k k' with
    | true => cmpO cf .eql a b
    | false => none
  | .str a, .str b => strEqO cf a b
  | .bool a, .bool b => some (Bool.rec (Bool.rec true false b) b a)
  | _, _ => none
def kindD (d : TypeDesc) (x : AV) : Bool := match d, x with
  | .int _, .int _ _ => true
  | .string, .str _ => true
  | .bool, .bool _ => true
  | _, _ => false
theorem sameO_ok (hcf : cf.ok E.σ) {d : TypeDesc} {x y : AV} {x' y' : Value} (hx : VR E x x') (hy : VR E y y') (hd : kindD d x = true) {r : Bool} (h : sameO cf x y = some r) : Instr.sameNow d x' y' = some r := by
  unfold sameO at h
  split at h
  · split at h
    · rename_i k a k' b hk
      have hk := (kbeq_iff _ _).1 hk
      subst hk
      cases hx; cases hy
      have := cmpO_ok hcf h
      simp only [cmpVal] at this
      cases d <;> first | (cases hd; done) | (simp [Instr.sameNow, ← this]; done) | (simp only [Instr.sameNow, if_true, ← this]; congr 1)
    · cases h
  · cases hx; cases hy
    rename_i s hs s' hs'
    have := strEqO_ok hcf h
    have e := bytes_eq hs hs'
    rw [this] at e
    cases d <;> first | (cases hd; done) | skip
    simp only [Instr.sameNow]
    rw [← e, ByteArray.toList_eq, ByteArray.toList_eq]
    congr 1
    by_cases hh : s = s'
    · subst hh
      rw [(MapKept.bytes_beq s s).2 rfl]; simp
    · have h2 : s.data.toList ≠ s'.data.toList := fun e => hh (by cases s; cases s'; congr 1; exact Array.ext' e)
      have h3 : (s.data.toList == s'.data.toList) = false := beq_eq_false_iff_ne.2 h2
      rw [h3]
      cases hb : (s == s') with
      | false => rfl
      | true => exact absurd ((MapKept.bytes_beq s s').1 hb) hh
  · cases hx; cases hy
    cases h
    rename_i a b
    cases d <;> first | (cases hd; done) | (cases a <;> cases b <;> rfl)
  · cases h
/-- where a key stands: 'some none': nowhere -/
noncomputable def findM (cf : Cf) (k : AV) (es : List (AV × AV × Nat)) : Nat → Option (Option (Nat × AV)) :=
  List.rec (fun _ => some none) (fun e _ ih i => Option.casesOn (sameO cf k e.1) none (fun r => Bool.rec (ih (Nat.succ i)) (some (some (i, e.2.1))) r)) es
theorem findM_ok (hcf : cf.ok E.σ) {d : TypeDesc} {k : AV} {k' : Value} (hk : VR E k k') (hd : kindD d k = true) : ∀ {es : List (AV × AV × Nat)} {fs : List MapEntry} (_ : MRs E es fs) (i : Nat) {r : Option (Nat × AV)}, findM cf k es i = some r →
    ∃ r', Instr.findNow d k' fs i = some r' ∧ (r = none → r' = none) ∧ ∀ j v, r = some (j, v) → ∃ v', r' = some (j, v') ∧ VR E v v' ∧ ∃ f, fs[j - i]? = some f ∧ i ≤ j ∧ Instr.sameNow d k' f.key = some true ∧ f.val = v'
  | _, _, .nil, i, r, h => by
    cases h
    exact ⟨none, rfl, fun _ => rfl, fun j v e => by cases e⟩
  | _, _, .cons (k := q) (v := v) (b := b) (e := f) (es := es) (fs := fs) hq hv hb hs, i, r, h => by
    have h' : (Option.casesOn (sameO cf k q) none (fun r => Bool.rec (findM cf k es (Nat.succ i)) (some (some (i, v))) r) : Option (Option (Nat × AV))) = some r := h
    cases hsm : sameO cf k q with
    | none => rw [hsm] at h'; cases h'
    | some x =>
      rw [hsm] at h'
      have hn := sameO_ok hcf hk hq hd hsm
      cases x with
      | true =>
        cases h'
        refine ⟨some (i, f.val), by simp [Instr.findNow, hn], (fun e => by cases e), fun j u e => ?_⟩
        cases e
        exact ⟨f.val, rfl, hv, f, by simp, Nat.le_refl _, hn, rfl⟩
      | false =>
        obtain ⟨r', h1, h2, h3⟩ := findM_ok hcf hk hd hs (i + 1) h'
        refine ⟨r', by simp [Instr.findNow, hn, h1], h2, fun j u e => ?_⟩
        obtain ⟨v', e1, e2, f', e3, e4, e5, e6⟩ := h3 j u e
        refine ⟨v', e1, e2, f', ?_, by omega, e5, e6⟩
        have : j - i = (j - (i + 1)) + 1 := by omega
        rw [this]; simpa using e3
theorem sameBits_of {d : TypeDesc} (hd : keyD d = true) {a b : Value} (h : Instr.sameNow d a b = some true) : Instr.sameBits 10000 b a = true := by
  cases d <;> first | (cases hd; done) | skip
  all_goals cases a <;> cases b <;> first | (simp [Instr.sameNow] at h; done) | skip
  · simp [Instr.sameNow] at h; simp [Instr.sameBits, h]
  · simp [Instr.sameNow] at h; obtain ⟨rfl, rfl⟩ := h; simp [Instr.sameBits]
  · simp only [Instr.sameNow, Option.some.injEq] at h
    have := (MapKept.bytes_beq _ _).1 h
    subst this
    simp only [Instr.sameBits]; exact h
/-- where a key that is an array stands -/
noncomputable def findAs (cf : Cf) (k : List AV) (n : Nat) (es : List (AV × AV × Nat)) : Nat → Option (Option (Nat × AV)) :=
  List.rec (fun _ => some none) (fun e _ ih i => match e.1 with
    | .agg cs => match Nat.beq (lenL cs) n with
      | true => Option.casesOn (eqA cf k cs) none (fun r => Bool.rec (ih (Nat.succ i)) (some (some (i, e.2.1))) r)
      | false => none
    | _ => none) es
theorem findAs_cons (cf : Cf) (k : List AV) (n : Nat) (q v : AV) (b : Nat) (es : List (AV × AV × Nat)) (i : Nat) : findAs cf k n ((q, v, b) :: es) i = (match q with
    | .agg cs => match Nat.beq (lenL cs) n with
      | true => Option.casesOn (eqA cf k cs) none (fun r => Bool.rec (findAs cf k n es (Nat.succ i)) (some (some (i, v))) r)
      | false => none
    | _ => none) := rfl
theorem findAs_ok (hcf : cf.ok E.σ) {kt : TypeId} {n : Nat} (ha : arrO G kt = some n) {ks : List AV} {k' : Value} (hk : VR E (.agg ks) k') (hl : ks.length = n) : ∀ {es : List (AV × AV × Nat)} {fs : List MapEntry} (_ : MRs E es fs) (i : Nat) {r : Option (Nat × AV)}, findAs cf ks n es i = some r →
    ∃ r', (Instr.findAsking kt k' fs i).run G w = .ok r' w ∧ (r = none → r' = none) ∧ ∀ j v, r = some (j, v) → ∃ v' f, r' = some (j, v') ∧ fs[j - i]? = some f ∧ i ≤ j ∧ f.val = v' ∧ VR E v v' ∧ Instr.sameBits 10000 f.key k' = true
  | _, _, .nil, i, r, h => by
    cases h
    exact ⟨none, rfl, fun _ => rfl, fun j v e => by cases e⟩
  | _, _, .cons (k := q) (v := v) (b := b) (e := f) (es := es) (fs := fs) hq hv hb hs, i, r, h => by
    rw [findAs_cons] at h
    split at h
    · rename_i cs
      split at h
      · rename_i hlen
        have hlen := Nat.eq_of_beq_eq_true hlen
        rw [lenL_eq] at hlen
        cases he : eqA cf ks cs with
        | none => rw [he] at h; cases h
        | some x =>
          rw [he] at h
          obtain ⟨h1, h2⟩ := arr_equal (w := w) hcf ha hk hq hl he
          cases x with
          | true =>
            cases h
            refine ⟨some (i, f.val), by simp [Instr.findAsking, h1], (fun e => by cases e), fun j u e => ?_⟩
            cases e
            exact ⟨f.val, f, rfl, by simp, Nat.le_refl _, rfl, hv, h2 rfl hlen⟩
          | false =>
            obtain ⟨r', k1, k2, k3⟩ := findAs_ok hcf ha hk hl hs (i + 1) h
            refine ⟨r', by simp [Instr.findAsking, h1, k1], k2, fun j u e => ?_⟩
            obtain ⟨v', f', e1, e2, e3, e4⟩ := k3 j u e
            refine ⟨v', f', e1, ?_, by omega, e4⟩
            have : j - i = (j - (i + 1)) + 1 := by omega
            rw [this]; simpa using e2
      · cases h
    · cases h
noncomputable def keyFind (cf : Cf) (G : Program) (kt : TypeId) (k : AV) (es : List (AV × AV × Nat)) : Option (Option (Nat × AV)) := match G.underlying kt with
  | some d => match keyD d with
    | true => match kindD d k with
      | true => findM cf k es 0
      | false => none
    | false => match arrO G kt with
      | some n => match k with
        | .agg cs => match Nat.beq (lenL cs) n with
          | true => findAs cf cs n es 0
          | false => none
        | _ => none
      | none => none
  | none => none
/-- what is known of a key that was looked for -/
structure KeyR (G : Program) (E : Env) (w : World) (kt : TypeId) (k' : Value) (fs : List MapEntry) (r : Option (Nat × AV)) (r' : Option (Nat × Value)) : Prop where
  check : ∀ empty, (Instr.checkKey empty 10000 kt k').run G w = .ok () w
  find : (Instr.findKey kt k' fs).run G w = .ok r' w
  no : r = none → r' = none
  at_ : ∀ j v, r = some (j, v) → ∃ v' f, r' = some (j, v') ∧ fs[j]? = some f ∧ f.val = v' ∧ VR E v v' ∧ Instr.sameBits 10000 f.key k' = true
theorem keyFind_ok (hcf : cf.ok E.σ) {kt : TypeId} {k : AV} {k' : Value} (hk : VR E k k') {es : List (AV × AV × Nat)} {fs : List MapEntry} (hm : MRs E es fs) {r : Option (Nat × AV)} (h : keyFind cf G kt k es = some r) : ∃ r', KeyR G E w kt k' fs r r' := by
  unfold keyFind at h
  split at h
  · rename_i d hd
    split at h
    · rename_i hkd
      split at h
      · rename_i hkind
        obtain ⟨r', h1, h2, h3⟩ := findM_ok hcf hk hkind hm 0 h
        refine ⟨r', fun empty => run_checkKey' hd hkd empty 9999 _, by simp [Instr.findKey, run_underlying hd, h1], h2, fun j v e => ?_⟩
        obtain ⟨v', e1, e2, f, e3, _, e5, e6⟩ := h3 j v e
        exact ⟨v', f, e1, by simpa using e3, e6, e2, sameBits_of hkd e5⟩
      · cases h
    · split at h
      · rename_i n ha
        split at h
        · rename_i cs
          split at h
          · rename_i hlen
            have hlen := Nat.eq_of_beq_eq_true hlen
            rw [lenL_eq] at hlen
            obtain ⟨r', h1, h2, h3⟩ := findAs_ok (w := w) hcf ha hk hlen hm 0 h
            refine ⟨r', fun empty => arr_check ha hk hlen empty, ?_, h2, fun j v e => ?_⟩
            · obtain ⟨e, kk, hu, _⟩ := arrO_ok ha
              cases fs with
              | nil =>
                simp [Instr.findAsking] at h1
                subst h1
                simp [Instr.findKey, run_underlying hu, Instr.findNow]
              | cons f fs => simp [Instr.findKey, run_underlying hu, Instr.findNow, Instr.sameNow, h1]
            · obtain ⟨v', f, e1, e2, _, e4, e5, e6⟩ := h3 j v e
              exact ⟨v', f, e1, by simpa using e2, e4, e5, e6⟩
          · cases h
        · cases h
      · cases h
  · cases h
noncomputable def mapAt (tab : PT AObj) (l : P) : Option (List (AV × AV × Nat) × Nat) := match PT.get l tab with | some (.map es c) => some (es, c) | _ => none
theorem mapAt_ok {tab : PT AObj} {l : P} {es : List (AV × AV × Nat)} {c : Nat} (h : mapAt tab l = some (es, c)) : PT.get l tab = some (.map es c) := by
  unfold mapAt at h
  split at h
  · rename_i hg; cases h; exact hg
  · cases h
theorem HR.map {H : P → Option AObj} (h : HR G W0 E H nx w) {l : P} {es : List (AV × AV × Nat)} {c : Nat} (hl : H l = some (.map es c)) :
    ∃ b c' arr, E.ρ l = some (b, c') ∧ w.heap[b]? = some (.map arr c) ∧ MRs E es arr.toList := by
  obtain ⟨b, c', ob, e, _, hb, ho⟩ := h.obj _ _ hl
  cases ho with
  | map hm => exact ⟨b, c', _, e, hb, hm⟩
noncomputable def zeroO (G : Program) (t : TypeId) : Option AV := match G.info? t with
  | some i => match i.zero with
    | some z => ofV z
    | none => none
  | none => none
theorem zeroO_ok {t : TypeId} {a : AV} (h : zeroO G t = some a) (E : Env) : ∃ z, (zeroValue t).run G w = .ok z w ∧ VR E a z ∧ ∃ i, G.info? t = some i ∧ i.zero = some z := by
  unfold zeroO at h
  split at h
  · rename_i i hi
    split at h
    · rename_i z hz
      exact ⟨z, by simp [zeroValue, run_typeInfo hi, hz], ofV_ok E h, i, hi, hz⟩
    · cases h
  · cases h
noncomputable def lookM (G : Program) (et : TypeId) (q : Option (Nat × AV)) (ok : Bool) : Option AV := match q with
  | some (_, v) => some (Bool.rec v (.tup [v, .bool true]) ok)
  | none => match zeroO G et with
    | some z => some (Bool.rec z (.tup [z, .bool false]) ok)
    | none => none
noncomputable def lookO (cf : Cf) (G : Program) (tab : PT AObj) (t : TypeId) (x k : AV) (ok : Bool) : Option AV :=
  match keyO G t with
  | some (kt, et) => match x with
    | .map l => match mapAt tab l with
      | some (es, _) => match keyFind cf G kt k es with
        | some q => lookM G et q ok
        | none => none
      | none => none
    | .map0 => match keyFind cf G kt k [] with
      | some q => lookM G et q ok
      | none => none
    | _ => none
  | none => none
theorem run_getObj_map {r : Nat} {es : Array MapEntry} {c : Nat} (h : w.heap[r]? = some (.map es c)) : (getObj r).run G w = .ok (.map es c) w := by simp [getObj, Sem.run, h]
theorem commaOk_ok {v : AV} {z : Value} (hv : VR E v z) (b ok : Bool) : VR E (Bool.rec v (.tup [v, .bool b]) ok) (if ok then .tuple #[z, .bool b] else z) := by
  cases ok with
  | false => exact hv
  | true => exact VR.tup (vs := [z, .bool b]) (.cons hv (.cons (.bool b) .nil))
theorem lookM_ok {et : TypeId} {q : Option (Nat × AV)} {r' : Option (Nat × Value)} {ok : Bool} {v : AV} (h2 : q = none → r' = none) (h3 : ∀ j v, q = some (j, v) → ∃ v', r' = some (j, v') ∧ VR E v v') (h : lookM G et q ok = some v) :
    ∃ z b, (r' = none → (zeroValue et).run G w = .ok z w ∧ b = false) ∧ (∀ j u, r' = some (j, u) → z = u ∧ b = true) ∧ VR E v (if ok then .tuple #[z, .bool b] else z) := by
  cases q with
  | none =>
    rw [h2 rfl]
    unfold lookM at h
    simp only at h
    split at h
    · rename_i z hz
      cases h
      obtain ⟨z', hz1, hz2, _⟩ := zeroO_ok (w := w) hz E
      exact ⟨z', false, (fun _ => ⟨hz1, rfl⟩), (fun j u e => by cases e), commaOk_ok hz2 false ok⟩
    · cases h
  | some p =>
    obtain ⟨j, u⟩ := p
    obtain ⟨v', rfl, hv⟩ := h3 j u rfl
    cases h
    exact ⟨v', true, (fun e => by cases e), (fun j u e => by cases e; exact ⟨rfl, rfl⟩), commaOk_ok hv true ok⟩
theorem lookO_ok (hcf : cf.ok E.σ) {tab : PT AObj} (hr : HR G W0 E (fun l => PT.get l tab) nx w) {t : TypeId} {x k v : AV} {x' k' : Value} {ok : Bool} (hx : VR E x x') (hk : VR E k k') (h : lookO cf G tab t x k ok = some v) : ∃ z, (Instr.lookup t x' k' ok).run G w = .ok z w ∧ VR E v z := by
  unfold lookO at h
  split at h
  · rename_i kt et hkey
    have hu := keyO_ok hkey
    split at h
    · rename_i l
      split at h
      · rename_i es c hes
        split at h
        · rename_i q hq
          obtain ⟨b, c', arr, e, hb, hm⟩ := hr.map (mapAt_ok hes)
          obtain ⟨r', hkr⟩ := keyFind_ok (w := w) hcf hk hm hq
          obtain ⟨z, bb, hz0, hz1, hv⟩ := lookM_ok (w := w) hkr.no (fun j u e => let ⟨v', _, e1, _, _, e2, _⟩ := hkr.at_ j u e; ⟨v', e1, e2⟩) h
          cases hx with
          | map e' =>
            rw [e] at e'; cases e'
            refine ⟨_, ?_, hv⟩
            simp only [Instr.lookup, Sem.run_bind, run_underlying hu, Result.andThen_ok, run_getObj_map hb, Sem.run_pure, hkr.check, hkr.find]
            cases r' with
            | none => obtain ⟨hz, rfl⟩ := hz0 rfl; simp [hz]
            | some p => obtain ⟨j, u⟩ := p; obtain ⟨rfl, rfl⟩ := hz1 j u rfl; rfl
        · cases h
      · cases h
    · split at h
      · rename_i q hq
        obtain ⟨r', hkr⟩ := keyFind_ok (w := w) hcf hk (.nil (E := E)) hq
        obtain ⟨z, bb, hz0, hz1, hv⟩ := lookM_ok (w := w) hkr.no (fun j u e => let ⟨v', _, e1, _, _, e2, _⟩ := hkr.at_ j u e; ⟨v', e1, e2⟩) h
        cases hx with
        | map0 =>
          refine ⟨_, ?_, hv⟩
          have hf := hkr.find
          simp only [Instr.lookup, Sem.run_bind, run_underlying hu, Result.andThen_ok, Sem.run_pure, hkr.check, hf]
          cases r' with
          | none => obtain ⟨hz, rfl⟩ := hz0 rfl; simp [hz]
          | some p => obtain ⟨j, u⟩ := p; obtain ⟨rfl, rfl⟩ := hz1 j u rfl; rfl
      · cases h
    · cases h
  · cases h
/-! type assertions -/
noncomputable def assertO (G : Program) (x : AV) (xt at_ : TypeId) (ok : Bool) : Option AV :=
  match G.underlying at_ with
  | some (.interface want) => match x with
    | .iface t v => match G.info? t with
      | some i => match Instr.missingMethod want i.methods with
        | none => some (Bool.rec (.iface t v) (.tup [.iface t v, .bool true]) ok)
        | some _ => none
      | none => none
    | _ => none
  | some _ => match x with
    | .iface t v => match Nat.beq t at_ with
      | true => some (Bool.rec v (.tup [v, .bool true]) ok)
      | false => match ok with
        | true => match zeroO G at_ with
          | some z => some (.tup [z, .bool false])
          | none => none
        | false => none
    | .if0 => match ok with
      | true => match zeroO G at_ with
        | some z => some (.tup [z, .bool false])
        | none => none
      | false => none
    | _ => none
  | none => none
theorem assertO_ok {x v : AV} {x' : Value} {xt at_ : TypeId} {ok : Bool} (hx : VR E x x') (h : assertO G x xt at_ ok = some v) : ∃ z, (Instr.typeAssert x' xt at_ ok).run G w = .ok z w ∧ VR E v z := by
  unfold assertO at h
  split at h
  · rename_i want hu
    split at h
    · rename_i t u
      split at h
      · rename_i i hi
        split at h
        · rename_i hm
          cases h
          cases hx with
          | iface _ hv =>
            refine ⟨_, ?_, commaOk_ok (.iface t hv) true ok⟩
            simp only [Instr.typeAssert, Sem.run_bind, run_underlying hu, Result.andThen_ok, run_typeInfo hi, hm, Sem.run_pure]
        · cases h
      · cases h
    · cases h
  · rename_i d hd hu
    have conc : ∀ (t : TypeId) (y : Value), (Instr.typeAssert (.iface t y) xt at_ ok).run G w = ((if t = at_ then pure (if ok then .tuple #[y, .bool true] else y) else (if ok then do pure (.tuple #[← zeroValue at_, .bool false]) else runtimePanic (.typeAssertion (some xt) (some t) at_ "")) : Sem Value)).run G w := by
      intro t y
      simp only [Instr.typeAssert, Sem.run_bind, run_underlying hu, Result.andThen_ok]
    split at h
    · rename_i t u
      split at h
      · rename_i ht
        have ht := Nat.eq_of_beq_eq_true ht
        subst ht
        cases h
        cases hx with
        | iface _ hv =>
          exact ⟨_, by rw [conc]; simp, commaOk_ok hv true ok⟩
      · rename_i ht
        have ht := Nat.ne_of_beq_eq_false ht
        split at h
        · split at h
          · rename_i z hz
            cases h
            obtain ⟨z', hz1, hz2, _⟩ := zeroO_ok (w := w) hz E
            cases hx with
            | iface _ hv =>
              exact ⟨_, by rw [conc]; simp [ht, hz1], VR.tup (vs := [z', .bool false]) (.cons hz2 (.cons (.bool false) .nil))⟩
          · cases h
        · cases h
    · split at h
      · split at h
        · rename_i z hz
          cases h
          obtain ⟨z', hz1, hz2, _⟩ := zeroO_ok (w := w) hz E
          cases hx with
          | if0 =>
            refine ⟨_, ?_, VR.tup (vs := [z', .bool false]) (.cons hz2 (.cons (.bool false) .nil))⟩
            simp only [Instr.typeAssert, Sem.run_bind, run_underlying hu, Result.andThen_ok]
            cases d <;> first | (simp [hz1]; done) | exact absurd rfl (hd _)
        · cases h
      · cases h
    · cases h
  · cases h

/-! lengths, the least -/
noncomputable def lenO (G : Program) (tab : PT AObj) (t : TypeId) (x : AV) : Option AV :=
  match G.underlying t with
  | some .string => match x with
    | .str l => forceN (lenL l) (fun n => some (.int .i64 (.lit (.ofNat n))))
    | _ => none
  | some (.slice _) => match x with
    | .sl _ _ n _ => some (.int .i64 (.lit (.ofNat n)))
    | .sl0 => some (.int .i64 (.lit (.ofNat 0)))
    | _ => none
  | some (.map _ _) => match x with
    | .map0 => some (.int .i64 (.lit (.ofNat 0)))
    | .map l => match mapAt tab l with
      | some (es, _) => forceN (lenL es) (fun n => some (.int .i64 (.lit (.ofNat n))))
      | none => none
    | _ => none
  | some (.array n _) => some (.int .i64 (.lit (.ofNat n)))
  | _ => none
theorem lit_vr (n : Nat) : VR E (.int .i64 (.lit (.ofNat n))) (goInt n) := .int .i64 (.lit (.ofNat n))
theorem lenO_ok {tab : PT AObj} (hr : HR G W0 E (fun l => PT.get l tab) nx w) {t : TypeId} {x v : AV} {x' : Value} (hx : VR E x x') (h : lenO G tab t x = some v) (ty : TypeId) : ∃ z, (Builtin.len_ #[t] ty #[x']).run G w = .ok z w ∧ VR E v z := by
  unfold lenO at h
  split at h
  · rename_i hu
    split at h
    · cases hx with
      | str hs =>
        rename_i l s
        rw [forceN_eq, lenL_eq, ← str_size hs] at h
        cases h
        exact ⟨_, by simp [Builtin.len_, run_underlying hu], lit_vr _⟩
    · cases h
  · rename_i hu
    split at h
    · cases h
      cases hx with
      | sl => exact ⟨_, by simp [Builtin.len_, run_underlying hu], lit_vr _⟩
    · cases h
      cases hx with
      | sl0 => exact ⟨_, by simp [Builtin.len_, run_underlying hu], lit_vr _⟩
    · cases h
  · rename_i hu
    split at h
    · cases h
      cases hx with
      | map0 => exact ⟨_, by simp [Builtin.len_, run_underlying hu], lit_vr _⟩
    · split at h
      · rename_i es c hes
        obtain ⟨b, c', arr, e, hb, hm⟩ := hr.map (mapAt_ok hes)
        cases hx with
        | map e' =>
          rw [e] at e'; cases e'
          have : lenL es = arr.size := by rw [lenL_eq, hm.length]; simp
          rw [forceN_eq, this] at h
          cases h
          exact ⟨_, by simp [Builtin.len_, run_underlying hu, run_getObj_map hb], lit_vr _⟩
      · cases h
    · cases h
  · rename_i hu
    cases h
    exact ⟨_, by simp [Builtin.len_, run_underlying hu], lit_vr _⟩
  · cases h
end
end Go.Ai
