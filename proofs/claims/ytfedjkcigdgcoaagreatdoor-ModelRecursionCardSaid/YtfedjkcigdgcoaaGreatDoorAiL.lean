/- What stores, copies, and writes into maps come to, on abstract values. -/
import Derived.Test.YtfedjkcigdgcoaaGreatDoorAiK
namespace Go.Ai
open Go Go.RowKit
set_option linter.unusedVariables false
section
variable {G : Program} {W0 : World} {E : Env} {nx : Nat} {w : World} {cf : Cf}
def AppU (G : Program) (W0 : World) (E : Env) (H : Hp) (w : World) (r : Option Hp) (s : Sem Unit) : Prop :=
  ∀ H', r = some H' → ∃ w' E', s.run G w = .ok () w' ∧ Mv G W0 E H.f H.nx.toNat w E' H'.f H'.nx.toNat w'
theorem AppU.none {H : Hp} {s : Sem Unit} : AppU G W0 E H w none s := fun H' h => by cases h

noncomputable def storeK {R : Type} (G : Program) (t : TypeId) (p v : AV) (H : Hp) (K : Option Hp → R) : R :=
  match p with
  | .ptr l off => match cellsA v, szO G t with
    | some new, some n => match allL scalarA new, Nat.beq (lenL new) n, PT.get l H.tab with
      | true, true, some (.cells cs ty opn) => match Nat.ble (Nat.add off n) (lenL cs) with
        | true => spliceK off new cs (fun cs' => PT.putK l H.tab (some (.cells cs' ty opn)) (fun t' => K (some ⟨H.nx, t'⟩)))
        | false => K none
      | _, _, _ => K none
    | _, _ => K none
  | _ => K none
theorem storeK_ok {R : Type} {H : Hp} (hr : HR G W0 E H.f H.nx.toNat w) {t : TypeId} {p v : AV} {p' v' : Value} (hp : VR E p p') (hv : VR E v v') (K : Option Hp → R) : ∃ r, storeK G t p v H K = K r ∧ AppU G W0 E H w r (Instr.storeAt t p' v') := by
  unfold storeK
  split
  · rename_i l off
    split
    · rename_i new n hnew hn
      split
      · rename_i cs ty opn hall hlen hl
        have hlen := Nat.eq_of_beq_eq_true hlen
        rw [lenL_eq] at hlen
        split
        · rename_i hfit
          have hfit : off + n ≤ lenL cs := Nat.le_of_ble_eq_true hfit
          rw [lenL_eq] at hfit
          refine ⟨_, (spliceK_eq off new cs _ (by omega)).trans (PT.putK_eq _ _ _ _), ?_⟩
          intro H' e; cases e
          obtain ⟨b, c, arr, fz, pre, rest, e, hge, hb, hvr, ha, hop, hcc, hfz⟩ := hr.row hl
          have hcv := (cellsA_ok hv hnew).1
          have hll := hvr.length
          have hcl := hcv.length
          have hal : arr.size = pre.length + rest.length := by have := congrArg List.length ha; simpa using this
          obtain ⟨w', arr', h1, h2, h3⟩ := storeCells_at (G := G) (w := w) (off := off) v'.cells.toList hb (by omega) (fz_ok hfz) (ones hcv hall)
          cases hp with
          | ptr e' =>
            rw [e] at e'; cases e'
            refine ⟨w', E, ?_, ?_⟩
            · have hs : v'.cells.size = n := by simp at hcl; omega
              simp only [Instr.storeAt, Instr.sureAddr, storeVar, Sem.run_bind, Sem.run_pure, Result.andThen_ok, run_sizeOf hn, Sem.run_ite, hs, ne_eq, not_true_eq_false, if_false]
              exact h1
            · rw [put_f]
              exact wrote_mv hr hl e hb hvr ha hop hcc hfz hcv (by omega) h2 h3
        · exact ⟨none, rfl, .none⟩
      · exact ⟨none, rfl, .none⟩
    · exact ⟨none, rfl, .none⟩
  · exact ⟨none, rfl, .none⟩

/-! copy -/
noncomputable def copyK {R : Type} (G : Program) (t : TypeId) (d s : AV) (H : Hp) (K : Option (AV × Hp) → R) : R :=
  match G.underlying t with
  | some (.slice el) => match szO G el with
    | some size => match srcO H.tab size s with
      | some (m, src) => match d with
        | .sl0 => K (some (.int .i64 (.lit (.ofNat 0)), H))
        | .sl l off len _ => forceN (Nat.min m len) (fun n => match PT.get l H.tab with
          | some (.cells cs ty opn) => match allL scalarA (takeL (Nat.mul n size) src), Nat.ble (Nat.add off (Nat.mul n size)) (lenL cs), Nat.ble 1 n with
            | true, true, true => spliceK off (takeL (Nat.mul n size) src) cs (fun cs' => PT.putK l H.tab (some (.cells cs' ty opn)) (fun t' => K (some (.int .i64 (.lit (.ofNat n)), ⟨H.nx, t'⟩))))
            | _, _, false => K (some (.int .i64 (.lit (.ofNat n)), H))
            | _, _, _ => K none
          | _ => K none)
        | _ => K none
      | none => K none
    | none => K none
  | _ => K none
theorem srcO_cut {tab : PT AObj} {nx : Nat} (hr : HR G W0 E (fun l => PT.get l tab) nx w) {size : Nat} {x : AV} {x' : Value} (hx : VR E x x') {m : Nat} {cs : List AV} (h : srcO tab size x = some (m, cs)) :
    ∃ vs, VRs E cs vs ∧ vs.length = m * size ∧ (Builtin.lenOf x').run G w = .ok m w ∧ ∀ n, n ≤ m → (Builtin.firstCells size n x').run G w = .ok (vs.take (n * size)).toArray w := by
  obtain ⟨vs, h1, h2, h3, h4⟩ := srcO_ok hr hx h
  refine ⟨vs, h1, h2, h3, fun n hn => ?_⟩
  have hf := h4 w rfl
  unfold srcO at h
  split at h
  · cases h
    cases hx with
    | sl0 =>
      have : n = 0 := by omega
      subst this
      have : vs = [] := List.eq_nil_of_length_eq_zero (by simpa using h2)
      subst this
      simpa using hf
  · rename_i l off len cap
    split at h
    · rename_i row hrow
      split at h
      · rename_i hl
        cases h
        have hl := Nat.eq_of_beq_eq_true hl
        obtain ⟨ty, opn, hg⟩ := rowAt_ok hrow
        obtain ⟨b, c, arr, fz, pre, rest, e, _, hb, hv, ha, _⟩ := hr.row hg
        rw [takeL_eq, dropL_eq] at hl h1
        have hvs := (hv.drop off).take (m * size)
        rw [lenL_eq] at hl
        have hlen : ((pre.drop off).take (m * size)).length = m * size := by have := hvs.length; exact this.symm.trans hl
        cases hx with
        | sl e' haa hle hc =>
          rename_i a b' c' k
          rw [e] at e'; cases e'
          have hnm : n * size ≤ m * size := Nat.mul_le_mul_right _ hn
          by_cases h0 : 0 < k
          · rw [haa h0] at hf ⊢
            have h5 : (loadCells ⟨b, off, none⟩ (m * size)).run G w = .ok ((pre.drop off).take (m * size)).toArray w := loadCells_run hb ha hlen
            have h6 : (loadCells ⟨b, off, none⟩ (m * size)).run G w = .ok vs.toArray w := hf
            rw [h5] at h6
            have h7 : (pre.drop off).take (m * size) = vs := by
              have := congrArg (fun r => match r with | Result.ok (a : Array Value) _ => a.toList | _ => []) h6
              simpa using this
            have h8 : (loadCells ⟨b, off, none⟩ (n * size)).run G w = .ok ((pre.drop off).take (n * size)).toArray w := loadCells_run hb ha (by rw [List.length_take] at hlen ⊢; omega)
            show (loadCells ⟨b, off, none⟩ (n * size)).run G w = _
            rw [h8, ← h7, List.take_take, Nat.min_eq_left hnm]
          · have : n = 0 := by omega
            subst this
            simp only [Builtin.firstCells, Nat.zero_mul]
            rw [loadCells_zero]; simp
      · cases h
    · cases h
  · rename_i l
    split at h
    · rename_i h1'
      have h1' := Nat.eq_of_beq_eq_true h1'
      subst h1'
      cases h
      cases hx with
      | str hs =>
        rename_i s
        have hsz := str_size hs
        have e : ∀ k, (Builtin.firstCells 1 k (.string s)).run G w = .ok ((s.extract 0 k).data.map fun b => Value.int .u8 b.toNat) w := fun k => rfl
        rw [e] at hf ⊢
        have h7 : ((s.extract 0 (lenL l)).data.map fun b => Value.int .u8 b.toNat).toList = vs := by
          have := congrArg (fun r => match r with | Result.ok (a : Array Value) _ => a.toList | _ => []) hf
          simpa using this
        rw [← h7]
        congr 1
        apply Array.ext'
        rw [lenL_eq, ← hsz] at hn ⊢
        simp [List.extract_eq_take_drop, ← List.map_take]
    · cases h
  · cases h
theorem copyK_ok {R : Type} {H : Hp} (hr : HR G W0 E H.f H.nx.toNat w) {t xt : TypeId} {d s : AV} {d' s' : Value} (hd : VR E d d') (hs : VR E s s') (ty : TypeId) (K : Option (AV × Hp) → R) :
    ∃ r, copyK G t d s H K = K r ∧ AppR G W0 E H w r (Builtin.copy_ #[t, xt] ty #[d', s']) := by
  unfold copyK
  split
  · rename_i el hu
    split
    · rename_i size hsz
      split
      · rename_i m src hsrc
        obtain ⟨vs, hvs, hvl, hlo, hfc⟩ := srcO_cut hr hs hsrc
        split
        · cases hd with
          | sl0 =>
            refine ⟨_, rfl, fun v H' e => ?_⟩
            cases e
            refine ⟨goInt 0, w, E, ?_, Mv.refl hr, .int .i64 (.lit (.ofNat 0))⟩
            have h0 := hfc 0 (Nat.zero_le _)
            simp only [Nat.zero_mul, List.take_zero] at h0
            simp [Builtin.copy_, run_underlying hu, hlo, run_sizeOf hsz, h0]
        · rename_i l off len cap
          rw [forceN_eq]
          have hmin : Nat.min m len ≤ m := Nat.min_le_left _ _
          have hf := hfc _ hmin
          split
          · rename_i cs ty' opn hl
            cases hd with
            | sl e' haa hle hc =>
              rename_i a b' c' k
              have hrun : ∀ w', (storeCells a (vs.take (Nat.min m len * size))).run G w = .ok () w' → (Builtin.copy_ #[t, xt] ty #[.slice (some a) len k, s']).run G w = .ok (goInt (Nat.min m len)) w' := by
                intro w' h
                simp [Builtin.copy_, run_underlying hu, hlo, run_sizeOf hsz, hf, h]
              split
              · rename_i hall hfit hn1
                have hfit : off + Nat.min m len * size ≤ lenL cs := Nat.le_of_ble_eq_true hfit
                rw [lenL_eq] at hfit
                have hn1 : 1 ≤ Nat.min m len := Nat.le_of_ble_eq_true hn1
                have hkk : 0 < k := by have : Nat.min m len ≤ len := Nat.min_le_right _ _; omega
                have haa := haa hkk
                subst haa
                obtain ⟨b, c, arr, fz, pre, rest, e, hge, hb, hvr, ha, hop, hcc, hfz⟩ := hr.row hl
                rw [e] at e'; cases e'
                have hnew := hvs.take (Nat.min m len * size)
                have hmul : Nat.min m len * size ≤ m * size := Nat.mul_le_mul_right _ hmin
                have hnl : (vs.take (Nat.min m len * size)).length = Nat.min m len * size := by rw [List.length_take]; omega
                have hll := hvr.length
                have hal : arr.size = pre.length + rest.length := by have := congrArg List.length ha; simpa using this
                have hall' : allL scalarA (src.take (Nat.min m len * size)) = true := by rw [← takeL_eq]; exact hall
                obtain ⟨w', arr', h1, h2, h3⟩ := storeCells_at (G := G) (w := w) (off := off) (vs.take (Nat.min m len * size)) hb (by omega) (fz_ok hfz) (ones hnew hall')
                refine ⟨_, (spliceK_eq off _ cs _ (by omega)).trans (PT.putK_eq _ _ _ _), fun v H' ee => ?_⟩
                cases ee
                refine ⟨_, w', E, hrun w' h1, ?_, .int .i64 (.lit (.ofNat _))⟩
                rw [put_f]
                have := wrote_mv hr hl e hb hvr ha hop hcc hfz hnew (by omega) h2 h3
                have e5 : takeL (Nat.mul (Nat.min m len) size) src = src.take (Nat.min m len * size) := takeL_eq _ _
                rw [e5]
                exact this
              · rename_i hn1
                have hz : Nat.min m len = 0 := by
                  rcases Nat.eq_zero_or_pos (Nat.min m len) with h | h
                  · exact h
                  · have : Nat.ble 1 (Nat.min m len) = true := Nat.ble_eq_true_of_le h
                    rw [this] at hn1; cases hn1
                refine ⟨_, rfl, fun v H' ee => ?_⟩
                cases ee
                refine ⟨_, w, E, hrun w (by rw [hz]; simp [storeCells]), Mv.refl hr, .int .i64 (.lit (.ofNat _))⟩
              · exact ⟨none, rfl, .none⟩
          · exact ⟨none, rfl, .none⟩
        · exact ⟨none, rfl, .none⟩
      · exact ⟨none, rfl, .none⟩
    · exact ⟨none, rfl, .none⟩
  · exact ⟨none, rfl, .none⟩
/-! writes into maps -/
noncomputable def mapFindO (cf : Cf) (G : Program) (t : TypeId) (m k : AV) (H : Hp) : Option (P × List (AV × AV × Nat) × Nat × Option (Nat × AV)) :=
  match keyO G t, m with
  | some (kt, _), .map l => match mapAt H.tab l with
    | some (es, c) => match keyFind cf G kt k es with
      | some q => some (l, es, c, q)
      | none => none
    | _ => none
  | _, _ => none
structure Found (G : Program) (E : Env) (w : World) (t : TypeId) (m k : AV) (m' k' : Value) (H : Hp) (l : P) (es : List (AV × AV × Nat)) (c : Nat) (q : Option (Nat × AV)) : Prop where
  out : ∃ kt et b c' arr r', G.underlying t = some (.map kt et) ∧ m' = .map (some b) ∧ H.f l = some (.map es c) ∧ E.ρ l = some (b, c') ∧ w.heap[b]? = some (.map arr c) ∧ MRs E es arr.toList ∧ KeyR G E w kt k' arr.toList q r'
theorem mapFindO_ok (hcf : cf.ok E.σ) {H : Hp} (hr : HR G W0 E H.f H.nx.toNat w) {t : TypeId} {m k : AV} {m' k' : Value} (hm : VR E m m') (hk : VR E k k') {l : P} {es : List (AV × AV × Nat)} {c : Nat} {q : Option (Nat × AV)} (h : mapFindO cf G t m k H = some (l, es, c, q)) : Found G E w t m k m' k' H l es c q := by
  unfold mapFindO at h
  split at h
  · rename_i kt et l' hkey
    have hu := keyO_ok hkey
    split at h
    · rename_i es' c' hes
      split at h
      · rename_i q' hq
        cases h
        have hg := mapAt_ok hes
        obtain ⟨b, c', arr, e, hb, hmr⟩ := hr.map (l := l) hg
        obtain ⟨r', hkr⟩ := keyFind_ok (w := w) hcf hk hmr hq
        cases hm with
        | map e' =>
          rw [e] at e'; cases e'
          exact ⟨kt, _, b, c', arr, r', hu, rfl, hg, e, hb, hmr, hkr⟩
      · cases h
    · cases h
  · cases h
noncomputable def mapPutK {R : Type} (cf : Cf) (G : Program) (t : TypeId) (m k v : AV) (H : Hp) (K : Option Hp → R) : R :=
  match mapFindO cf G t m k H with
  | some (l, es, c, some (i, _)) => match nthL es i with
    | some (_, _, b) => spliceK i [(k, v, b)] es (fun es' => PT.putK l H.tab (some (.map es' c)) (fun t' => K (some ⟨H.nx, t'⟩)))
    | none => K none
  | some (l, es, c, none) => PT.putK l H.tab (some (.map (es ++ [(k, v, c)]) (Nat.succ c))) (fun t' => K (some ⟨H.nx, t'⟩))
  | none => K none
theorem MRs.get {E : Env} : ∀ {es : List (AV × AV × Nat)} {fs : List MapEntry} (_ : MRs E es fs) (i : Nat) {k v : AV} {b : Nat}, es[i]? = some (k, v, b) → ∃ f, fs[i]? = some f ∧ f.born = b ∧ VR E k f.key ∧ VR E v f.val
  | _, _, .nil, i, k, v, b, h => by simp at h
  | _, _, .cons hk hv hb hs, 0, k, v, b, h => by simp at h; obtain ⟨rfl, rfl, rfl⟩ := h; exact ⟨_, rfl, hb, hk, hv⟩
  | _, _, .cons hk hv hb hs, i + 1, k, v, b, h => by simp at h; simpa using MRs.get hs i h
theorem MRs.put {E : Env} : ∀ {es : List (AV × AV × Nat)} {fs : List MapEntry} (_ : MRs E es fs) (i : Nat) {k v : AV} {b : Nat} {f : MapEntry}, i < es.length → VR E k f.key → VR E v f.val → f.born = b → MRs E (es.take i ++ [(k, v, b)] ++ es.drop (i + 1)) (fs.set i f)
  | _, _, .nil, i, k, v, b, f, hi, _, _, _ => by simp at hi
  | _, _, .cons hk hv hb hs, 0, k, v, b, f, hi, h1, h2, h3 => by simpa using MRs.cons h1 h2 h3 hs
  | _, _, .cons hk hv hb hs, i + 1, k, v, b, f, hi, h1, h2, h3 => by
    have := MRs.put hs i (by simpa using hi) h1 h2 h3
    simpa using MRs.cons hk hv hb this
theorem MRs.snoc {E : Env} : ∀ {es : List (AV × AV × Nat)} {fs : List MapEntry} (_ : MRs E es fs) {k v : AV} {b : Nat} {f : MapEntry}, VR E k f.key → VR E v f.val → f.born = b → MRs E (es ++ [(k, v, b)]) (fs ++ [f])
  | _, _, .nil, k, v, b, f, h1, h2, h3 => .cons h1 h2 h3 .nil
  | _, _, .cons hk hv hb hs, k, v, b, f, h1, h2, h3 => .cons hk hv hb (MRs.snoc hs h1 h2 h3)
theorem MRs.erase {E : Env} : ∀ {es : List (AV × AV × Nat)} {fs : List MapEntry} (_ : MRs E es fs) (i : Nat), MRs E (es.eraseIdx i) (fs.eraseIdx i)
  | _, _, .nil, i => by simp; exact .nil
  | _, _, .cons hk hv hb hs, 0 => by simpa using hs
  | _, _, .cons hk hv hb hs, i + 1 => by simpa using MRs.cons hk hv hb (MRs.erase hs i)
theorem setObj_run {b : Nat} {o o' : Obj} (h : w.heap[b]? = some o) (hc : ∀ c t f, o ≠ .cells c t f) : (setObj b o').run G w = .ok () { w with heap := w.heap.setIfInBounds b o' } := by
  simp only [setObj, Sem.run, h]
/-- an object of ours that is no row gets other contents -/
theorem setObj_mv {H : Hp} (hr : HR G W0 E H.f H.nx.toNat w) {l : P} {o0 o : AObj} {b c : Nat} {ob0 ob : Obj} (hl : H.f l = some o0) (e : E.ρ l = some (b, c)) (hb : w.heap[b]? = some ob0) (ho : OR G E c o ob) :
    Mv G W0 E H.f H.nx.toNat w E (Hp.mk H.nx (PT.put l H.tab (some o))).f H.nx.toNat { w with heap := w.heap.setIfInBounds b ob } := by
  rw [put_f]
  have hlt := (Array.getElem?_eq_some_iff.1 hb).1
  refine Mv.set hr hl e ho (by simp) (by simp [hlt]) (fun k hk => ?_) rfl rfl rfl
  simp [Array.getElem?_setIfInBounds_ne (Ne.symm hk)]
theorem mapPutK_ok {R : Type} (hcf : cf.ok E.σ) {H : Hp} (hr : HR G W0 E H.f H.nx.toNat w) {t : TypeId} {m k v : AV} {m' k' v' : Value} (hm : VR E m m') (hk : VR E k k') (hv : VR E v v') (K : Option Hp → R) :
    ∃ r, mapPutK cf G t m k v H K = K r ∧ AppU G W0 E H w r (Instr.mapUpdate t m' k' v') := by
  unfold mapPutK
  split
  · rename_i l es c i u hf
    obtain ⟨kt, et, b, c', arr, r', hu, rfl, hl, e, hb, hmr, hkr⟩ := (mapFindO_ok hcf hr hm hk hf).out
    obtain ⟨v1, f, rfl, hff, _, _, hsame⟩ := hkr.at_ i u rfl
    have hfind := hkr.find
    split
    · rename_i k0 v0 b0 hn
      rw [nthL_eq] at hn
      have hi := (List.getElem?_eq_some_iff.1 hn).1
      refine ⟨_, (spliceK_eq i _ es _ (by omega)).trans (PT.putK_eq _ _ _ _), fun H' ee => ?_⟩
      cases ee
      obtain ⟨f0, hf0, hborn, _, _⟩ := hmr.get i hn
      rw [hff] at hf0; cases hf0
      have hia : i < arr.size := by have := (List.getElem?_eq_some_iff.1 hff).1; simpa using this
      have hfa : arr[i]? = some f := by rw [← Array.getElem?_toList]; exact hff
      have hmv := setObj_mv (ob := .map (arr.modify i fun e => { e with key := k', val := v' }) c) hr hl e hb (.map (c := c') (clock := c) (by
        have := hmr.put i (f := { f with key := k', val := v' }) hi hk hv hborn
        have e2 : (arr.modify i fun e => { e with key := k', val := v' }).toList = arr.toList.set i { f with key := k', val := v' } := by
          apply List.ext_getElem?
          intro j
          rw [Array.getElem?_toList, Array.getElem?_modify, List.getElem?_set]
          by_cases hj : i = j
          · subst hj; rw [if_pos rfl, if_pos rfl, if_pos (by simpa using hia), hfa]; rfl
          · simp [hj]
        rw [e2]; exact this))
      refine ⟨_, E, ?_, hmv⟩
      have hs : Instr.sameBits 10000 f.key k' = true := hsame
      simp only [Instr.mapUpdate, Sem.run_bind, run_underlying hu, Result.andThen_ok, run_getObj_map hb, hkr.check, hfind, hfa, Option.map_some, Option.getD_some, Instr.keyThatStays, hs, if_true, Sem.run_pure]
      exact setObj_run hb (by simp)
    · exact ⟨none, rfl, .none⟩
  · rename_i l es c hf
    obtain ⟨kt, et, b, c', arr, r', hu, rfl, hl, e, hb, hmr, hkr⟩ := (mapFindO_ok hcf hr hm hk hf).out
    have hno := hkr.no rfl
    have hfind := hkr.find
    subst hno
    refine ⟨_, PT.putK_eq _ _ _ _, fun H' ee => ?_⟩
    cases ee
    have hmv := setObj_mv (ob := .map (arr.push { key := k', val := v', born := c }) (c + 1)) hr hl e hb (.map (c := c') (clock := c + 1) (by
      have := hmr.snoc (f := { key := k', val := v', born := c }) hk hv rfl
      simpa using this))
    refine ⟨_, E, ?_, hmv⟩
    simp only [Instr.mapUpdate, Sem.run_bind, run_underlying hu, Result.andThen_ok, run_getObj_map hb, hkr.check, hfind]
    exact setObj_run hb (by simp)
  · exact ⟨none, rfl, .none⟩
noncomputable def mapDelK {R : Type} (cf : Cf) (G : Program) (t : TypeId) (m k : AV) (H : Hp) (K : Option (AV × Hp) → R) : R :=
  match mapFindO cf G t m k H with
  | some (l, es, c, some (i, _)) => PT.putK l H.tab (some (.map (es.eraseIdx i) c)) (fun t' => K (some (.tup [], ⟨H.nx, t'⟩)))
  | some (l, es, c, none) => K (some (.tup [], H))
  | none => K none
theorem mapDelK_ok {R : Type} (hcf : cf.ok E.σ) {H : Hp} (hr : HR G W0 E H.f H.nx.toNat w) {t xt : TypeId} {m k : AV} {m' k' : Value} (hm : VR E m m') (hk : VR E k k') (ty : TypeId) (K : Option (AV × Hp) → R) :
    ∃ r, mapDelK cf G t m k H K = K r ∧ AppR G W0 E H w r (Builtin.delete_ #[t, xt] ty #[m', k']) := by
  unfold mapDelK
  split
  · rename_i l es c i u hf
    obtain ⟨kt, et, b, c', arr, r', hu, rfl, hl, e, hb, hmr, hkr⟩ := (mapFindO_ok hcf hr hm hk hf).out
    obtain ⟨v1, f, rfl, hff, _, _, hsame⟩ := hkr.at_ i u rfl
    have hfind := hkr.find
    refine ⟨_, PT.putK_eq _ _ _ _, fun v H' ee => ?_⟩
    cases ee
    have hmv := setObj_mv (ob := .map (arr.eraseIdxIfInBounds i) c) hr hl e hb (.map (c := c') (clock := c) (by
      have := hmr.erase i
      have e2 : (arr.eraseIdxIfInBounds i).toList = arr.toList.eraseIdx i := by simp
      rw [e2]; exact this))
    refine ⟨.tuple #[], _, E, ?_, hmv, VR.tup (vs := []) .nil⟩
    simp only [Builtin.delete_]
    simp [run_underlying hu, run_getObj_map hb, hkr.check, hfind]
    rw [setObj_run hb (by simp)]
    rfl
  · rename_i l es c hf
    obtain ⟨kt, et, b, c', arr, r', hu, rfl, hl, e, hb, hmr, hkr⟩ := (mapFindO_ok hcf hr hm hk hf).out
    have hno := hkr.no rfl
    have hfind := hkr.find
    subst hno
    refine ⟨_, rfl, fun v H' ee => ?_⟩
    cases ee
    have hset : { w with heap := w.heap.setIfInBounds b (.map arr c) } = w := by
      have : w.heap.setIfInBounds b (.map arr c) = w.heap := by
        apply Array.ext_getElem?
        intro j
        by_cases hj : b = j
        · subst hj; obtain ⟨hlt, hh⟩ := Array.getElem?_eq_some_iff.1 hb; simp [hlt, hh]
        · simp [Array.getElem?_setIfInBounds_ne hj]
      rw [this]
    refine ⟨.tuple #[], w, E, ?_, Mv.refl hr, VR.tup (vs := []) .nil⟩
    simp only [Builtin.delete_]
    simp [run_underlying hu, run_getObj_map hb, hkr.check, hfind]
    rw [setObj_run hb (by simp), hset]
    rfl
  · exact ⟨none, rfl, .none⟩
end
end Go.Ai
