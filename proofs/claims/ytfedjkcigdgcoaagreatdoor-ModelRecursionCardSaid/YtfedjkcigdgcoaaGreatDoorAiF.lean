/- What the rest of the operations that only read come to, on abstract values. -/
import Derived.Test.YtfedjkcigdgcoaaGreatDoorAiE
import Derived.Laws.BytesString
import Derived.Laws.Strings
import Derived.Laws.Concat
namespace Go.Ai
open Go Go.RowKit
set_option linter.unusedVariables false
section
variable {G : Program} {W0 : World} {E : Env} {nx : Nat} {w : World} {cf : Cf}

def nilChkO (x : AV) : Option AV := match x with
  | .ptr l o => some (.ptr l o)
  | .glob g o => some (.glob g o)
  | .iter l => some (.iter l)
  | .iface t v => some (.iface t v)
  | .fn (.func f) a b => some (.fn (.func f) a b)
  | .fn (.yield l) a b => some (.fn (.yield l) a b)
  | _ => none
noncomputable def extractO (x : AV) (i : Nat) : Option AV := match x with
  | .tup cs => nthL cs i
  | _ => none
theorem extractO_ok {x v : AV} {y : Value} {i : Nat} (hx : VR E x y) (h : extractO x i = some v) : ∃ z, (Instr.extract y i).run G w = .ok z w ∧ VR E v z := by
  unfold extractO at h
  split at h
  · cases hx with
    | tup hs =>
      obtain ⟨z, hz, hv⟩ := hs.get' h
      exact ⟨z, by simp [Instr.extract, hz], hv⟩
  · cases h
noncomputable def mkIfaceO (G : Program) (t : TypeId) (x : AV) : Option AV := match G.underlying t with
  | some (.interface _) => none
  | some _ => some (.iface t x)
  | none => none
theorem mkIfaceO_ok {t : TypeId} {x v : AV} {y : Value} (hx : VR E x y) (h : mkIfaceO G t x = some v) : ∃ z, (Instr.makeInterface t y).run G w = .ok z w ∧ VR E v z := by
  unfold mkIfaceO at h
  split at h
  · cases h
  · rename_i d hd hn
    cases h
    refine ⟨_, ?_, .iface t hx⟩
    simp only [Instr.makeInterface, Sem.run_bind, run_underlying hn, Result.andThen_ok]
    cases d <;> first | rfl | exact absurd rfl (hd _)
  · cases h

/-! operations on one value -/
noncomputable def unK {R : Type} (cf : Cf) (op : UnOp) (x : AV) (K : Option AV → R) : R :=
  match op, x with
  | .not, .bool b => K (some (.bool (Bool.rec true false b)))
  | .neg, .int k n => binK cf .sub k (.lit 0) n (fun r => K (some (.int k r)))
  | .xor, .int k n => binK cf .xor k (.lit (if k.signed then -1 else k.max)) n (fun r => K (some (.int k r)))
  | _, _ => K none
theorem unK_ok {R : Type} (hcf : cf.ok E.σ) {op : UnOp} {x : AV} {y : Value} (hx : VR E x y) (K : Option AV → R) : ∃ r, unK cf op x K = K r ∧ ∀ v, r = some v → ∃ z, (Op.unary op y).run G w = .ok z w ∧ VR E v z := by
  unfold unK
  split
  · rename_i b
    cases hx with
    | bool =>
      refine ⟨_, rfl, fun v hv => ?_⟩
      cases hv
      exact ⟨.bool !b, rfl, by cases b <;> exact .bool _⟩
  · rename_i k n
    cases hx with
    | int =>
      obtain ⟨c, hc, he⟩ := binK_ok (R := R) hcf .sub k (.lit 0) n (fun r => K (some (.int k r)))
      refine ⟨_, hc, fun v hv => ?_⟩
      cases hv
      refine ⟨.int k (c.ev E.σ), ?_, .int _ _⟩
      rw [he]; rfl
  · rename_i k n
    cases hx with
    | int =>
      obtain ⟨c, hc, he⟩ := binK_ok (R := R) hcf .xor k (.lit (if k.signed then -1 else k.max)) n (fun r => K (some (.int k r)))
      refine ⟨_, hc, fun v hv => ?_⟩
      cases hv
      refine ⟨.int k (c.ev E.σ), ?_, .int _ _⟩
      rw [he]; rfl
  · exact ⟨none, rfl, fun v hv => by cases hv⟩

/-! conversions -/
noncomputable def byteOk (cf : Cf) (e : SI) : Bool := match e with
  | .lit (.ofNat n) => Nat.ble n 255
  | e => fitsIv .u8 (bnd cf.iv e)
theorem byte_in {n : Int} (h0 : 0 ≤ n) (h1 : n ≤ 255) : ((UInt8.ofNat n.toNat).toNat : Int) = n := by
  simp; omega
theorem byteOk_ok {cf : Cf} {σ : Nat → Int} (hcf : cf.ok σ) {e : SI} (h : byteOk cf e = true) : ((UInt8.ofNat (e.ev σ).toNat).toNat : Int) = e.ev σ := by
  unfold byteOk at h
  split at h
  · rename_i n
    have := Nat.le_of_ble_eq_true h
    exact byte_in (n := (n : Int)) (by omega) (by omega)
  · unfold fitsIv at h
    split at h
    · rename_i lo hi hb
      obtain ⟨a, b⟩ := bnd_ok hcf.2.2.1 _ hb
      split at h
      · rename_i h1
        have h3 := (inK_iff _ _).1 (inK_mid h1 h a b)
        exact byte_in (by simpa [sgn] using h3.1) (by simpa [maxN] using h3.2)
      · cases h
    · cases h
noncomputable def byteA (cf : Cf) : AV → Option SI
  | .int .u8 e => (match byteOk cf e with | true => some e | false => none)
  | _ => none
noncomputable def bytesOf (cf : Cf) (l : List AV) : Option (List SI) := mapO (byteA cf) l
noncomputable def convO (G : Program) (cf : Cf) (tab : PT AObj) (src dst : TypeId) (x : AV) : Option AV :=
  match G.underlying src, G.underlying dst with
  | some (.slice e), some .string => match G.underlying e with
    | some (.int .u8) => match x with
      | .sl0 => some (.str [])
      | .sl l off len _ => match rowAt tab l with
        | some cs => match Nat.beq (lenL (takeL len (dropL off cs))) len with
          | true => (bytesOf cf (takeL len (dropL off cs))).map .str
          | false => none
        | none => none
      | _ => none
    | _ => none
  | some _, some .string => match x with
    | .str l => some (.str l)
    | _ => none
  | _, _ => none
noncomputable def convIK {R : Type} (G : Program) (cf : Cf) (tab : PT AObj) (src dst : TypeId) (x : AV) (K : Option AV → R) : R :=
  match x with
  | .int _ n => match G.underlying src, G.underlying dst with
    | some _, some (.int k) => convK cf k n (fun r => K (some (.int k r)))
    | _, _ => K none
  | x => K (convO G cf tab src dst x)
theorem bytes_fold (hcf : cf.ok E.σ) {l : List AV} {vs : List Value} (h : VRs E l vs) {bs : List SI} (hb : bytesOf cf l = some bs) :
    vs = (bs.map (SI.ev E.σ)).map (Value.int .u8) ∧ ∀ acc : ByteArray, ((bs.map (SI.ev E.σ)).foldl (fun (r : ByteArray) n => r.push (UInt8.ofNat n.toNat)) acc).data.toList.map (fun b => (b.toNat : Int)) = acc.data.toList.map (fun b => (b.toNat : Int)) ++ bs.map (SI.ev E.σ) := by
  induction l generalizing vs bs with
  | nil =>
    cases h; cases hb
    exact ⟨rfl, fun acc => by simp⟩
  | cons a l ih =>
    cases h with
    | cons ha hs =>
      obtain ⟨c, cs, hc, hcs, rfl⟩ := mapO_cons _ _ _ hb
      unfold byteA at hc
      split at hc
      · rename_i e
        split at hc
        · rename_i hbo
          cases hc
          cases ha with
          | int =>
            obtain ⟨h1, h2⟩ := ih hs hcs
            refine ⟨by rw [h1]; rfl, fun acc => ?_⟩
            have := byteOk_ok hcf hbo
            rw [List.map_cons, List.foldl_cons, h2]
            simp only [ByteArray.push, Array.toList_push, List.map_append, List.map_cons, List.map_nil, this, List.append_assoc, List.cons_append, List.nil_append]
        · cases hc
      · cases hc
theorem loadCells_run {b off n : Nat} {arr : Array Value} {ty : TypeId} {fz : Nat × Nat} {pre rest : List Value} (hb : w.heap[b]? = some (.cells arr ty fz)) (ha : arr.toList = pre ++ rest) (hlen : ((pre.drop off).take n).length = n) :
    (loadCells ⟨b, off, none⟩ n).run G w = .ok ((pre.drop off).take n).toArray w := by
  have := run_loadCells_list (P := G) (w := w) ⟨b, off, none⟩ ((pre.drop off).take n) (fun j v hj => by
    have hj' : pre[off + j]? = some v := by
      rw [List.getElem?_take] at hj
      split at hj
      · simpa using hj
      · cases hj
    rw [addr_add]
    exact cell_of hb ha hj')
  rwa [hlen] at this
theorem loadCells_zero (a : Addr) : (loadCells a 0).run G w = .ok #[] w := rfl
theorem convO_ok (hcf : cf.ok E.σ) {tab : PT AObj} (hr : HR G W0 E (fun l => PT.get l tab) nx w) {src dst : TypeId} {x v : AV} {y : Value} (hx : VR E x y) (h : convO G cf tab src dst x = some v) : ∃ z, (convert src dst y).run G w = .ok z w ∧ VR E v z := by
  unfold convO at h
  split at h
  · rename_i e hs hd
    split at h
    · rename_i he
      have cv : ∀ a l c, (convert src dst (.slice a l c)).run G w = (Conv.bytesToString (.slice a l c)).run G w := fun a l c => run_convert_bytes_string w src dst e a l c hs he hd
      split at h
      · cases h
        cases hx with
        | sl0 => exact ⟨.string .empty, by rw [cv]; rfl, .str rfl⟩
      · rename_i l off len cap
        split at h
        · rename_i cs hcs
          split at h
          · rename_i hl
            have hl := Nat.eq_of_beq_eq_true hl
            rw [lenL_eq, takeL_eq, dropL_eq] at hl
            obtain ⟨ty, opn, hg⟩ := rowAt_ok hcs
            obtain ⟨b, c, arr, fz, pre, rest, e1, _, hb, hv, ha, _⟩ := hr.row hg
            cases hbs : bytesOf cf (takeL len (dropL off cs)) with
            | none => rw [hbs] at h; cases h
            | some bs =>
              rw [hbs] at h; cases h
              rw [takeL_eq, dropL_eq] at hbs
              have hvs := (hv.drop off).take len
              obtain ⟨h1, h2⟩ := bytes_fold hcf hvs hbs
              have hlen : ((pre.drop off).take len).length = len := by have := hvs.length; omega
              cases hx with
              | sl e' haa hle hc =>
                rename_i a b' c' n
                rw [e1] at e'; cases e'
                refine ⟨_, ?_, .str ((h2 ByteArray.empty).trans (by simp))⟩
                rw [cv]
                refine run_bytesToString w a len n (bs.map (SI.ev E.σ)) ?_
                rw [← h1]
                by_cases h0 : 0 < n
                · rw [haa h0]; exact loadCells_run hb ha hlen
                · have : len = 0 := by omega
                  subst this
                  rw [loadCells_zero]; simp
          · cases h
        · cases h
      · cases h
    · cases h
  · rename_i d hs hd hne
    split at h
    · rename_i l
      cases h
      cases hx with
      | str hss => exact ⟨_, by simp [convert, run_underlying hd, run_underlying hne], .str hss⟩
    · cases h
  · cases h
theorem convIK_ok {R : Type} (hcf : cf.ok E.σ) {tab : PT AObj} (hr : HR G W0 E (fun l => PT.get l tab) nx w) {src dst : TypeId} {x : AV} {y : Value} (hx : VR E x y) (K : Option AV → R) :
    ∃ r, convIK G cf tab src dst x K = K r ∧ ∀ v, r = some v → ∃ z, (convert src dst y).run G w = .ok z w ∧ VR E v z := by
  unfold convIK
  split
  · rename_i k n
    split
    · rename_i d k' hs hd
      cases hx with
      | int =>
        obtain ⟨c, hc, he⟩ := convK_ok (R := R) hcf k' n (fun r => K (some (.int k' r)))
        refine ⟨_, hc, fun v hv => ?_⟩
        cases hv
        refine ⟨.int k' (c.ev E.σ), ?_, .int _ _⟩
        simp [convert, run_underlying hs, run_underlying hd, Conv.intToInt, he]
    · exact ⟨none, rfl, fun v hv => by cases hv⟩
  · exact ⟨_, rfl, fun v hv => convO_ok hcf hr hx hv⟩

/-! equality -/
noncomputable def strEqO (cf : Cf) (a : List SI) : List SI → Option Bool :=
  List.rec (fun b => List.casesOn b (some true) (fun _ _ => some false)) (fun x _ ih b => List.casesOn b (some false) (fun y t => Option.casesOn (cmpO cf .eql x y) none (fun r => Bool.rec (some false) (ih t) r))) a
theorem strEqO_ok (hcf : cf.ok E.σ) {a b : List SI} {r : Bool} (h : strEqO cf a b = some r) : (decide (a.map (SI.ev E.σ) = b.map (SI.ev E.σ))) = r := by
  induction a generalizing b r with
  | nil => cases b with
    | nil => cases h; simp
    | cons y t => cases h; simp
  | cons x a ih => cases b with
    | nil => cases h; simp
    | cons y t =>
      have h' : (Option.casesOn (cmpO cf .eql x y) none (fun r => Bool.rec (some false) (strEqO cf a t) r) : Option Bool) = some r := h
      cases hc : cmpO cf .eql x y with
      | none => rw [hc] at h'; cases h'
      | some q =>
        rw [hc] at h'
        have hq := cmpO_ok hcf hc
        cases q with
        | false =>
          cases h'
          simp [cmpVal] at hq
          simp [hq]
        | true =>
          have := ih h'
          simp [cmpVal] at hq
          simpa [hq] using this
theorem bytes_eq {s t : ByteArray} {a b : List SI} (hs : s.data.toList.map (fun b => (b.toNat : Int)) = a.map (SI.ev E.σ)) (ht : t.data.toList.map (fun b => (b.toNat : Int)) = b.map (SI.ev E.σ)) : (s.toList == t.toList) = decide (a.map (SI.ev E.σ) = b.map (SI.ev E.σ)) := by
  rw [← hs, ← ht, ByteArray.toList_eq, ByteArray.toList_eq]
  by_cases h : s.data.toList = t.data.toList
  · simp [h]
  · have : s.data.toList.map (fun b => (b.toNat : Int)) ≠ t.data.toList.map (fun b => (b.toNat : Int)) := fun e => h ((List.map_inj_right (fun x y hxy => UInt8.toNat_inj.1 (by omega))).1 e)
    simp only [this, decide_false]
    exact beq_eq_false_iff_ne.2 h
/-- equality of what is neither a number nor a string -/
noncomputable def eqO (G : Program) (t : TypeId) (x y : AV) : Option Bool :=
  match G.underlying t with
  | some .bool => match x, y with
    | .bool a, .bool b => some (Bool.rec (Bool.rec true false b) b a)
    | _, _ => none
  | some (.pointer el) => match x, y with
    | .ptr0, .ptr0 => some true
    | .ptr0, .ptr _ _ => some false
    | .ptr _ _, .ptr0 => some false
    | .ptr l o, .ptr l' o' => match P.beq l l' with
      | true => match szO G el with
        | some n => match Nat.beq n 0 with
          | true => none
          | false => some (Nat.beq o o')
        | none => none
      | false => none
    | _, _ => none
  | some (.interface _) => match x, y with
    | .if0, .iface _ _ => some false
    | .iface _ _, .if0 => some false
    | _, _ => none
  | some (.slice _) => match x, y with
    | .sl0, .sl0 => some true
    | .sl0, .sl .. => some false
    | .sl .., .sl0 => some false
    | _, _ => none
  | some (.map _ _) => match x, y with
    | .map0, .map0 => some true
    | .map0, .map _ => some false
    | .map _, .map0 => some false
    | _, _ => none
  | some (.func _ _ _) => match x, y with
    | .fn0, .fn0 => some true
    | .fn0, .fn .. => some false
    | .fn .., .fn0 => some false
    | _, _ => none
  | _ => none
theorem equal_eq (t : TypeId) (x y : Value) : Op.equal t x y = Op.equalIn (9999 + 1) t x y := rfl
theorem eqO_ok' (d : Nat) {t : TypeId} {x y : AV} {x' y' : Value} (hx : VR E x x') (hy : VR E y y') {r : Bool} (h : eqO G t x y = some r) : (Op.equalIn (d + 1) t x' y').run G w = .ok r w := by
  unfold eqO at h
  split at h
  · rename_i hu
    split at h
    · cases hx; cases hy; cases h
      rename_i a b
      simp [Op.equalIn, run_underlying hu]
      cases a <;> cases b <;> rfl
    · cases h
  · rename_i el hu
    split at h
    · cases hx; cases hy; cases h; simp [Op.equalIn, run_underlying hu]
    · cases hx; cases hy; cases h; simp [Op.equalIn, run_underlying hu]
    · cases hx; cases hy; cases h; simp [Op.equalIn, run_underlying hu]
    · rename_i l o l' o'
      split at h
      · rename_i hl
        have hl := (P.beq_iff _ _).1 hl
        subst hl
        split at h
        · rename_i n hn
          split at h
          · cases h
          · rename_i hz
            have hz := Nat.ne_of_beq_eq_false hz
            cases h
            cases hx with
            | ptr e =>
              cases hy with
              | ptr e' =>
                rw [e] at e'; cases e'
                rename_i b c
                simp only [Op.equalIn, Sem.run_bind, run_underlying hu, Result.andThen_ok, run_sizeOf hn, Sem.run_ite, ne_eq, hz, not_false_eq_true, if_true, sameAddr, beq_self_eq_true, Sem.run_pure]
                congr 1
                rw [beqN]
                by_cases ho : o = o'
                · subst ho; simp
                · have : (⟨b, o, none⟩ : Addr) ≠ ⟨b, o', none⟩ := fun e => ho (by cases e; rfl)
                  simp [ho]
        · cases h
      · cases h
    · cases h
  · rename_i ms hu
    split at h
    · cases hx; cases hy; cases h; simp [Op.equalIn, run_underlying hu]
    · cases hx; cases hy; cases h; simp [Op.equalIn, run_underlying hu]
    · cases h
  · rename_i el hu
    split at h
    · cases hx; cases hy; cases h; simp [Op.equalIn, run_underlying hu]
    · cases hx; cases hy; cases h; simp [Op.equalIn, run_underlying hu]
    · cases hx; cases hy; cases h; simp [Op.equalIn, run_underlying hu]
    · cases h
  · rename_i k el hu
    split at h
    · cases hx; cases hy; cases h; simp [Op.equalIn, run_underlying hu]
    · cases hx; cases hy; cases h; simp [Op.equalIn, run_underlying hu]
    · cases hx; cases hy; cases h; simp [Op.equalIn, run_underlying hu]
    · cases h
  · rename_i a b c hu
    split at h
    · cases hx; cases hy; cases h; simp [Op.equalIn, run_underlying hu]
    · cases hx; cases hy; cases h; simp [Op.equalIn, run_underlying hu]
    · cases hx; cases hy; cases h; simp [Op.equalIn, run_underlying hu]
    · cases h
  · cases h
theorem eqO_ok {t : TypeId} {x y : AV} {x' y' : Value} (hx : VR E x x') (hy : VR E y y') {r : Bool} (h : eqO G t x y = some r) : (Op.equal t x' y').run G w = .ok r w := by
  rw [equal_eq]; exact eqO_ok' 9999 hx hy h
/-! ### structs -/
noncomputable def eqFs (G : Program) (rec : TypeId → AV → AV → Option Bool) (xs ys : List AV) : List Field → Option Bool
  | [] => some true
  | f :: fs => match partA G f.type xs f.offset with
    | some u => match partA G f.type ys f.offset with
      | some v => match rec f.type u v with
        | some true => eqFs G rec xs ys fs
        | some false => match decide (f.name = "_") with
          | true => none
          | false => some false
        | none => none
      | none => none
    | none => none
noncomputable def eqV (cf : Cf) (G : Program) : Nat → TypeId → AV → AV → Option Bool
  | 0, _, _, _ => none
  | d + 1, t, x, y => match x, y with
    | .int k a, .int k' b => match G.underlying t with
      | some (.int _) => match kbeq k k' with
        | true => cmpO cf .eql a b
        | false => none
      | _ => none
    | .str a, .str b => match G.underlying t with
      | some .string => strEqO cf a b
      | _ => none
    | .agg xs, .agg ys => match G.underlying t with
      | some (.struct fs) => match G.stoodInHeld t with
        | false => eqFs G (eqV cf G d) xs ys fs.toList
        | true => none
      | _ => none
    | x, y => eqO G t x y
theorem eqFs_ok {d : Nat} {rec : TypeId → AV → AV → Option Bool} {xs ys : List AV} {vs us : List Value} (hx : VRs E xs vs) (hy : VRs E ys us)
    (hr : ∀ {t : TypeId} {x y : AV} {x' y' : Value} {r : Bool}, VR E x x' → VR E y y' → rec t x y = some r → (Op.equalIn d t x' y').run G w = .ok r w) : ∀ {fs : List Field} {r : Bool}, eqFs G rec xs ys fs = some r →
    ∃ q : Option Bool, (forIn fs ((none, ()) : Option Bool × Unit) fun f __s =>
            if f.name = "_" then (pure (ForInStep.yield (none, ())) : Sem _)
            else do
              let a ← part f.type vs.toArray f.offset
              let b ← part f.type us.toArray f.offset
              let c ← Op.equalIn d f.type a b
              if c = false then pure (ForInStep.done (some false, ())) else pure (ForInStep.yield (none, ()))).run G w = .ok (q, ()) w ∧ (q.getD true = r)
  | [], r, h => by
    cases h
    exact ⟨none, rfl, rfl⟩
  | f :: fs, r, h => by
    unfold eqFs at h
    split at h
    · rename_i u hu
      obtain ⟨u', pu, ru⟩ := partA_ok (G := G) (w := w) hx hu
      split at h
      · rename_i v hv
        obtain ⟨v', pv, rv⟩ := partA_ok (G := G) (w := w) hy hv
        split at h
        · rename_i e
          obtain ⟨q, hq, hr'⟩ := eqFs_ok hx hy hr h
          refine ⟨q, ?_, hr'⟩
          by_cases hn : f.name = "_"
          · simp only [List.forIn_cons, hn, if_true, pure_bind]
            exact hq
          · simp only [List.forIn_cons, hn, if_false, Sem.run_bind, pu, pv, hr ru rv e, Result.andThen_ok, Bool.true_eq_false, Sem.run_pure]
            exact hq
        · rename_i e
          split at h
          · cases h
          · rename_i hn
            cases h
            refine ⟨some false, ?_, rfl⟩
            simp only [List.forIn_cons, of_decide_eq_false hn, if_false, Sem.run_bind, pu, pv, hr ru rv e, Result.andThen_ok, if_true, Sem.run_pure]
        · cases h
      · cases h
    · cases h
theorem eqV_ok (hcf : cf.ok E.σ) : ∀ (d e : Nat), d ≤ e → ∀ {t : TypeId} {x y : AV} {x' y' : Value} {r : Bool}, VR E x x' → VR E y y' → eqV cf G d t x y = some r → (Op.equalIn e t x' y').run G w = .ok r w
  | 0, e, _, t, x, y, x', y', r, hx, hy, h => by cases h
  | d + 1, 0, hd, t, x, y, x', y', r, hx, hy, h => by omega
  | d + 1, e + 1, hd, t, x, y, x', y', r, hx, hy, h => by
    unfold eqV at h
    split at h
    · split at h
      · rename_i hu
        split at h
        · rename_i hk
          have hk := (kbeq_iff _ _).1 hk
          subst hk
          have := cmpO_ok hcf h
          cases hx; cases hy
          simp only [cmpVal] at this
          simp [Op.equalIn, run_underlying hu]
          rw [← this, Bool.eq_iff_iff, beq_iff_eq, decide_eq_true_iff]
        · cases h
      · cases h
    · split at h
      · rename_i hu
        cases hx; cases hy
        rename_i s hs s' hs'
        have := strEqO_ok hcf h
        have eb := bytes_eq hs hs'
        rw [this] at eb
        simp [Op.equalIn, run_underlying hu]
        rw [← eb, ByteArray.toList_eq, ByteArray.toList_eq]
        cases s with | mk a => cases s' with | mk b => 
          show (a == b) = (a.toList == b.toList)
          rw [Bool.eq_iff_iff, beq_iff_eq, beq_iff_eq]
          exact ⟨fun e => by rw [e], fun e => Array.toList_inj.1 e⟩
      · cases h
    · split at h
      · rename_i fs hu
        split at h
        · rename_i hs
          cases hx; cases hy
          rename_i vs hvs us hus
          obtain ⟨q, hq, hr'⟩ := eqFs_ok (w := w) (d := e) hvs hus (fun a b c => eqV_ok hcf d e (by omega) a b c) h
          simp only [Array.forIn_toList] at hq
          simp [Op.equalIn, run_underlying hu, hs]
          rw [hq]
          cases q with
          | none => cases hr'; rfl
          | some q => cases hr'; rfl
        · cases h
      · cases h
    · exact eqO_ok' e hx hy h
end
end Go.Ai
