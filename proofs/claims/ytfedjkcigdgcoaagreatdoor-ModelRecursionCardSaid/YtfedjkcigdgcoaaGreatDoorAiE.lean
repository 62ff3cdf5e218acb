/- What further operations that only read come to, on abstract values. -/
import Derived.Test.YtfedjkcigdgcoaaGreatDoorAiD
namespace Go.Ai
open Go Go.RowKit
set_option linter.unusedVariables false
section
variable {G : Program} {W0 : World} {E : Env} {nx : Nat} {w : World} {cf : Cf}

theorem VR.toArray {E : Env} {cs : List AV} {v : Value} (h : VR E (.agg cs) v) : ∃ vs : List Value, v = .agg vs.toArray ∧ VRs E cs vs := by
  cases h with
  | agg h => exact ⟨_, rfl, h⟩

/-! fields' places -/
noncomputable def fldO (G : Program) (s : TypeId) (f : Nat) : Option (Nat × TypeId) :=
  match G.underlying s with
  | some (.struct fs) => match fs[f]? with
    | some fd => match szO G fd.type with
      | some n => match Nat.beq n 0 with
        | true => none
        | false => some (fd.offset, fd.type)
      | none => none
    | none => none
  | _ => none
noncomputable def fieldAddrO (G : Program) (s : TypeId) (x : AV) (f : Nat) : Option AV :=
  match fldO G s f with
  | some (o, _) => match x with
    | .ptr l off => forceN (Nat.add off o) (fun n => some (.ptr l n))
    | .glob g off => forceN (Nat.add off o) (fun n => some (.glob g n))
    | _ => none
  | none => none
theorem addr_add (b o n : Nat) : (⟨b, o, none⟩ : Addr).add n = ⟨b, o + n, none⟩ := by
  unfold Addr.add; split
  · simp_all
  · rfl
theorem fldO_ok {s : TypeId} {f o : Nat} {t : TypeId} (h : fldO G s f = some (o, t)) : ∃ fs fd n, G.underlying s = some (.struct fs) ∧ fs[f]? = some fd ∧ fd.offset = o ∧ fd.type = t ∧ szO G t = some n ∧ n ≠ 0 := by
  unfold fldO at h
  split at h
  · rename_i fs hu
    split at h
    · rename_i fd hf
      split at h
      · rename_i n hn
        split at h
        · cases h
        · rename_i hz
          cases h
          exact ⟨fs, fd, n, hu, hf, rfl, rfl, hn, Nat.ne_of_beq_eq_false hz⟩
      · cases h
    · cases h
  · cases h
theorem fieldAddrO_ok {s : TypeId} {x v : AV} {f : Nat} {y : Value} (hx : VR E x y) (h : fieldAddrO G s x f = some v) : ∃ z, (Instr.fieldAt s y f).run G w = .ok z w ∧ VR E v z := by
  unfold fieldAddrO at h
  split at h
  · rename_i o t hf
    obtain ⟨fs, fd, n, hu, hfd, rfl, rfl, hn, hz⟩ := fldO_ok hf
    split at h
    · rename_i l off
      rw [forceN_eq] at h
      cases h
      cases hx with
      | ptr e =>
        exact ⟨_, by simp [Instr.fieldAt, run_underlying hu, hfd, Instr.sureAddr, fieldPlace, run_sizeOf hn, hz, addr_add], .ptr e⟩
    · rename_i g off
      rw [forceN_eq] at h
      cases h
      cases hx with
      | glob =>
        exact ⟨_, by simp [Instr.fieldAt, run_underlying hu, hfd, Instr.sureAddr, fieldPlace, run_sizeOf hn, hz, addr_add], .glob _ _⟩
    · cases h
  · cases h

/-! parts of structs and arrays -/
noncomputable def partA (G : Program) (t : TypeId) (cs : List AV) (off : Nat) : Option AV :=
  match aggO G t with
  | some true => match szO G t with
    | some n => some (.agg (takeL n (dropL off cs)))
    | none => none
  | some false => nthL cs off
  | none => none
theorem partA_ok {t : TypeId} {cs : List AV} {vs : List Value} {off : Nat} {v : AV} (hc : VRs E cs vs) (h : partA G t cs off = some v) : ∃ z, (part t vs.toArray off).run G w = .ok z w ∧ VR E v z := by
  unfold partA at h
  split at h
  · rename_i hag
    split at h
    · rename_i n hn
      cases h
      refine ⟨.agg (vs.toArray.extract off (off + n)), by simp [part, run_isAgg hag, run_sizeOf hn], ?_⟩
      have e : vs.toArray.extract off (off + n) = ((vs.drop off).take n).toArray := by
        apply Array.ext'
        simp [List.extract_eq_take_drop]
      rw [e, takeL_eq, dropL_eq]
      exact .agg ((hc.drop off).take n)
    · cases h
  · rename_i hag
    obtain ⟨z, hz, hv⟩ := hc.get' h
    exact ⟨z, by simp [part, run_isAgg hag, hz], hv⟩
  · cases h
noncomputable def fieldO (G : Program) (s : TypeId) (x : AV) (f : Nat) : Option AV :=
  match G.underlying s with
  | some (.struct fs) => match fs[f]? with
    | some fd => match x with
      | .agg cs => partA G fd.type cs fd.offset
      | _ => none
    | none => none
  | _ => none
theorem fieldO_ok {s : TypeId} {x v : AV} {f : Nat} {y : Value} (hx : VR E x y) (h : fieldO G s x f = some v) : ∃ z, (Instr.field s y f).run G w = .ok z w ∧ VR E v z := by
  unfold fieldO at h
  split at h
  · rename_i fs hu
    split at h
    · rename_i fd hf
      split at h
      · obtain ⟨vs, rfl, hvs⟩ := hx.toArray
        obtain ⟨z, hz, hv⟩ := partA_ok (G := G) (w := w) hvs h
        exact ⟨z, by simp [Instr.field, run_underlying hu, hf, asAgg, hz], hv⟩
      · cases h
    · cases h
  · cases h

/-! indexes -/
def natOf : SI → Option Nat
  | .lit (.ofNat n) => some n
  | _ => none
theorem natOf_ok {σ : Nat → Int} {e : SI} {n : Nat} (h : natOf e = some n) : e.ev σ = n := by
  unfold natOf at h
  split at h
  · cases h; rfl
  · cases h
def elemO (d : Option TypeDesc) : Option (TypeId × Option Nat) := match d with
  | some (.slice e) => some (e, none)
  | some (.array n e) => some (e, some n)
  | _ => none
noncomputable def indexAddrO (G : Program) (t : TypeId) (x i : AV) : Option AV :=
  match i with
  | .int _ e => match natOf e with
    | some n => match elemO (G.underlying t) with
      | some (el, none) => match x with
        | .sl l off len _ => match Nat.ble (Nat.succ n) len with
          | true => match szO G el with
            | some s => forceN (Nat.add off (Nat.mul n s)) (fun m => some (.ptr l m))
            | none => none
          | false => none
        | _ => none
      | some (el, some len) => match x with
        | .ptr l off => match Nat.ble (Nat.succ n) len with
          | true => match szO G el with
            | some s => forceN (Nat.add off (Nat.mul n s)) (fun m => some (.ptr l m))
            | none => none
          | false => none
        | .glob g off => match Nat.ble (Nat.succ n) len with
          | true => match szO G el with
            | some s => forceN (Nat.add off (Nat.mul n s)) (fun m => some (.glob g m))
            | none => none
          | false => none
        | _ => none
      | none => none
    | none => none
  | _ => none
theorem indexAddrO_ok {t : TypeId} {x i v : AV} {y j : Value} (hx : VR E x y) (hi : VR E i j) (h : indexAddrO G t x i = some v) : ∃ z, (Instr.indexAt t y j).run G w = .ok z w ∧ VR E v z := by
  unfold indexAddrO at h
  split at h
  · rename_i k e
    split at h
    · rename_i n hn
      cases hi with
      | int =>
        have hev := natOf_ok (σ := E.σ) hn
        split at h
        · rename_i el hel
          have hu : G.underlying t = some (.slice el) := by
            unfold elemO at hel; split at hel <;> simp_all
          split at h
          · rename_i l off len cap
            split at h
            · rename_i hlt
              split at h
              · rename_i s hs
                rw [forceN_eq] at h; cases h
                have hlt := Nat.le_of_ble_eq_true hlt
                cases hx with
                | sl e' ha hl hc =>
                  have ha := ha (by omega)
                  subst ha
                  refine ⟨_, ?_, .ptr e'⟩
                  have h1 : (0 : Int) ≤ n ∧ (n : Int) < len := ⟨by omega, by omega⟩
                  simp only [Instr.indexAt, asIntOf, hev, Sem.run_bind, Sem.run_pure, Result.andThen_ok, run_underlying hu, h1, and_self, if_true, run_sizeOf hs, addr_add, Int.toNat_natCast]
                  rfl
              · cases h
            · cases h
          · cases h
        · rename_i el len hel
          have hu : G.underlying t = some (.array len el) := by
            unfold elemO at hel; split at hel <;> simp_all
          split at h
          · rename_i l off
            split at h
            · rename_i hlt
              split at h
              · rename_i s hs
                rw [forceN_eq] at h; cases h
                have hlt := Nat.le_of_ble_eq_true hlt
                cases hx with
                | ptr e' =>
                  refine ⟨_, ?_, .ptr e'⟩
                  have h1 : (0 : Int) ≤ n ∧ (n : Int) < len := ⟨by omega, by omega⟩
                  simp only [Instr.indexAt, asIntOf, hev, Sem.run_bind, Sem.run_pure, Result.andThen_ok, run_underlying hu, h1, and_self, if_true, run_sizeOf hs, addr_add, Int.toNat_natCast, Instr.sureAddr]
                  rfl
              · cases h
            · cases h
          · rename_i g off
            split at h
            · rename_i hlt
              split at h
              · rename_i s hs
                rw [forceN_eq] at h; cases h
                have hlt := Nat.le_of_ble_eq_true hlt
                cases hx with
                | glob =>
                  refine ⟨_, ?_, .glob _ _⟩
                  have h1 : (0 : Int) ≤ n ∧ (n : Int) < len := ⟨by omega, by omega⟩
                  simp only [Instr.indexAt, asIntOf, hev, Sem.run_bind, Sem.run_pure, Result.andThen_ok, run_underlying hu, h1, and_self, if_true, run_sizeOf hs, addr_add, Int.toNat_natCast, Instr.sureAddr]
                  rfl
              · cases h
            · cases h
          · cases h
        · cases h
    · cases h
  · cases h
theorem str_get {l : List SI} {s : ByteArray} (h : s.data.toList.map (fun b => (b.toNat : Int)) = l.map (SI.ev E.σ)) {n : Nat} {e : SI} (he : l[n]? = some e) : ∃ b, s[n]? = some b ∧ (b.toNat : Int) = e.ev E.σ := by
  have h1 : (s.data.toList.map (fun b => (b.toNat : Int)))[n]? = some (e.ev E.σ) := by rw [h]; simp [he]
  rw [List.getElem?_map] at h1
  cases hb : s.data.toList[n]? with
  | none => rw [hb] at h1; simp at h1
  | some b =>
    rw [hb] at h1
    have h2 : (b.toNat : Int) = e.ev E.σ := by simpa using h1
    refine ⟨b, ?_, h2⟩
    obtain ⟨hlt, hb'⟩ := List.getElem?_eq_some_iff.1 hb
    have hlt' : n < s.size := by simpa using hlt
    have : s[n]? = some s[n] := by simp [hlt']
    rw [this]
    congr 1
theorem str_size {l : List SI} {s : ByteArray} (h : s.data.toList.map (fun b => (b.toNat : Int)) = l.map (SI.ev E.σ)) : s.size = l.length := by
  have := congrArg List.length h
  simpa using this
noncomputable def indexO (G : Program) (t : TypeId) (x i : AV) : Option AV :=
  match i with
  | .int _ e => match natOf e with
    | some n => match G.underlying t with
      | some .string => match x with
        | .str l => match nthL l n with
          | some c => some (.int .u8 c)
          | none => none
        | _ => none
      | some (.array len el) => match x with
        | .agg cs => match Nat.ble (Nat.succ n) len with
          | true => match szO G el with
            | some s => partA G el cs (Nat.mul n s)
            | none => none
          | false => none
        | _ => none
      | _ => none
    | none => none
  | _ => none
theorem indexO_ok {t : TypeId} {x i v : AV} {y j : Value} (hx : VR E x y) (hi : VR E i j) (h : indexO G t x i = some v) : ∃ z, (Instr.index t y j).run G w = .ok z w ∧ VR E v z := by
  unfold indexO at h
  split at h
  · rename_i k e
    split at h
    · rename_i n hn
      cases hi with
      | int =>
        have hev := natOf_ok (σ := E.σ) hn
        split at h
        · rename_i hu
          split at h
          · rename_i l
            split at h
            · rename_i c hc
              cases h
              rw [nthL_eq] at hc
              cases hx with
              | str hs =>
                obtain ⟨b, hb, hbe⟩ := str_get hs hc
                refine ⟨.int .u8 (c.ev E.σ), ?_, .int _ _⟩
                have h0 : (0 : Int) ≤ n := by omega
                simp [Instr.index, asIntOf, hev, run_underlying hu, hb, hbe]
            · cases h
          · cases h
        · rename_i len el hu
          split at h
          · rename_i cs
            split at h
            · rename_i hlt
              split at h
              · rename_i s hs
                obtain ⟨vs, rfl, hvs⟩ := hx.toArray
                have hlt := Nat.le_of_ble_eq_true hlt
                obtain ⟨z, hz, hv⟩ := partA_ok (G := G) (w := w) hvs h
                have h1 : (0 : Int) ≤ n ∧ (n : Int) < len := ⟨by omega, by omega⟩
                exact ⟨z, by simp only [Instr.index, asIntOf, hev, Sem.run_bind, Sem.run_pure, Result.andThen_ok, run_underlying hu, h1, and_self, if_true, run_sizeOf hs, Int.toNat_natCast]; exact hz, hv⟩
              · cases h
            · cases h
          · cases h
        · cases h
    · cases h
  · cases h

/-! slices -/
/-- a bound: a literal of at most so many -/
def bndO (x : Option AV) (dflt most : Nat) : Option Nat := match x with
  | none => some dflt
  | some (.int _ e) => match natOf e with
    | some n => match Nat.ble n most with
      | true => some n
      | false => none
    | none => none
  | _ => none
def capO : Cap → Option Nat
  | .ex n => some n
  | .op _ => none
noncomputable def sliceO (G : Program) (t : TypeId) (x : AV) (lo hi : Option AV) : Option AV :=
  match G.underlying t with
  | some .string => match x with
    | .str l => match bndO hi (lenL l) (lenL l) with
      | some h => match bndO lo 0 h with
        | some b => some (.str (takeL (Nat.sub h b) (dropL b l)))
        | none => none
      | none => none
    | _ => none
  | some (.slice el) => match x with
    | .sl l off len (.ex cap) => match bndO hi len cap with
      | some h => match bndO lo 0 h with
        | some b => match szO G el with
          | some s => match Nat.beq cap b with
            | true => some (.sl l off (Nat.sub h b) (.ex 0))
            | false => forceN (Nat.add off (Nat.mul b s)) (fun o => forceN (Nat.sub h b) (fun n => forceN (Nat.sub cap b) (fun c => some (.sl l o n (.ex c)))))
          | none => none
        | none => none
      | none => none
    | .sl l off len (.op d) => match bndO hi len len with
      | some h => match bndO lo 0 h with
        | some b => match szO G el with
          | some s => forceN (Nat.add off (Nat.mul b s)) (fun o => forceN (Nat.sub h b) (fun n => forceN (Nat.add d b) (fun c => some (.sl l o n (.op c)))))
          | none => none
        | none => none
      | none => none
    | .sl0 => match bndO hi 0 0 with
      | some h => match bndO lo 0 h with
        | some b => match szO G el with
          | some _ => some .sl0
          | none => none
        | none => none
      | none => none
    | _ => none
  | some (.array len el) => match x with
    | .ptr l off => match bndO hi len len with
      | some h => match bndO lo 0 h with
        | some b => match szO G el with
          | some s => match Nat.beq len b with
            | true => some (.sl l off (Nat.sub h b) (.ex 0))
            | false => forceN (Nat.add off (Nat.mul b s)) (fun o => forceN (Nat.sub h b) (fun n => forceN (Nat.sub len b) (fun c => some (.sl l o n (.ex c)))))
          | none => none
        | none => none
      | none => none
    | _ => none
  | _ => none
/-- an operand that may lack -/
inductive OV (E : Env) : Option AV → Option Value → Prop
  | none : OV E none none
  | some {a : AV} {v : Value} (h : VR E a v) : OV E (some a) (some v)
theorem bnd_run {x : Option AV} {y : Option Value} (hx : OV E x y) {dflt most n : Nat} (h : bndO x dflt most = some n) (hd : dflt ≤ most) (code : BoundsCode) :
    n ≤ most ∧ (match y with | some v => Instr.sliceBound v most code | none => (pure dflt : Sem Nat)).run G w = .ok n w := by
  cases hx with
  | none => cases h; exact ⟨hd, rfl⟩
  | some hv =>
    rename_i a v
    unfold bndO at h
    split at h
    · rename_i heq; cases heq
    · rename_i k e heq
      cases heq
      split at h
      · rename_i m hm
        split at h
        · rename_i hle
          cases h
          have hle := Nat.le_of_ble_eq_true hle
          refine ⟨hle, ?_⟩
          cases hv with
          | int =>
            have hev := natOf_ok (σ := E.σ) hm
            have h1 : (0 : Int) ≤ n ∧ (n : Int) ≤ most := ⟨by omega, by omega⟩
            simp [Instr.sliceBound, asIntOf, hev, h1]
        · cases h
      · cases h
    · cases h
theorem bounds_run {isS : Bool} {lo hi : Option AV} {lo' hi' : Option Value} (h1 : OV E lo lo') (h2 : OV E hi hi') {len cap h b : Nat} (hl : len ≤ cap) (eh : bndO hi len cap = some h) (eb : bndO lo 0 h = some b) :
    b ≤ h ∧ h ≤ cap ∧ (Instr.sliceBounds isS len cap lo' hi' none).run G w = .ok (b, h, cap) w := by
  obtain ⟨hh, rh⟩ := bnd_run (G := G) (w := w) h2 eh hl (if isS then .sliceAcap else .sliceAlen)
  obtain ⟨hb, rb⟩ := bnd_run (G := G) (w := w) h1 eb (Nat.zero_le _) .sliceB
  refine ⟨hb, hh, ?_⟩
  cases hi' with
  | none =>
    cases lo' with
    | none => simp at rh rb; subst rh rb; simp [Instr.sliceBounds]
    | some v => simp at rh rb; subst rh; simp [Instr.sliceBounds, rb]
  | some u =>
    cases lo' with
    | none => simp at rh rb; subst rb; simp [Instr.sliceBounds, rh]
    | some v => simp at rh rb; simp [Instr.sliceBounds, rh, rb]
theorem sliceO_ok {t : TypeId} {x v : AV} {y : Value} {lo hi : Option AV} {lo' hi' : Option Value} (hx : VR E x y) (h1 : OV E lo lo') (h2 : OV E hi hi') (h : sliceO G t x lo hi = some v) : ∃ z, (Instr.sliceAt t y lo' hi' none).run G w = .ok z w ∧ VR E v z := by
  unfold sliceO at h
  split at h
  · rename_i hu
    split at h
    · rename_i l
      split at h
      · rename_i hh ehi
        split at h
        · rename_i b elo
          cases h
          cases hx with
          | str hs =>
            rename_i s
            have hsz := str_size hs
            rw [lenL_eq, ← hsz] at ehi
            obtain ⟨hb, hc, hr⟩ := bounds_run (G := G) (w := w) (isS := false) h1 h2 (Nat.le_refl _) ehi elo
            refine ⟨.string (s.extract b hh), by simp [Instr.sliceAt, Instr.slice, run_underlying hu, hr], .str ?_⟩
            rw [takeL_eq, dropL_eq, List.map_take, List.map_drop, ← hs]
            simp [List.extract_eq_take_drop, List.map_take, List.map_drop]
        · cases h
      · cases h
    · cases h
  · rename_i el hu
    split at h
    · rename_i l off len cap
      split at h
      · rename_i hh ehi
        split at h
        · rename_i b elo
          split at h
          · rename_i s hs
            cases hx with
            | sl e ha hl hc =>
              rename_i a b' c' n
              have hc : n = cap := hc
              subst hc
              obtain ⟨hb, hcc, hr⟩ := bounds_run (G := G) (w := w) (isS := true) h1 h2 hl ehi elo
              have run : (Instr.sliceAt t (.slice (some a) len n) lo' hi' none).run G w = .ok (.slice (if n = b then some a else some (a.add (b * s))) (hh - b) (n - b)) w := by
                simp only [Instr.sliceAt, Instr.slice, Sem.run_bind, run_underlying hu, Result.andThen_ok, hr, run_sizeOf hs]
                rfl
              split at h
              · rename_i hcb
                have hcb : n = b := Nat.eq_of_beq_eq_true hcb
                subst hcb
                cases h
                refine ⟨_, run, ?_⟩
                rw [if_pos rfl]
                exact .sl e (fun h0 => by omega) (by show hh - n ≤ n - n; omega) (by simp [CapR])
              · rename_i hcb
                have hcb := Nat.ne_of_beq_eq_false hcb
                rw [forceN_eq, forceN_eq, forceN_eq] at h
                cases h
                refine ⟨_, run, ?_⟩
                rw [if_neg hcb]
                refine .sl e (fun h0 => ?_) (by show hh - b ≤ n - b; omega) rfl
                rw [ha (by omega)]
                exact addr_add _ _ _
          · cases h
        · cases h
      · cases h
    · rename_i l off len d
      split at h
      · rename_i hh ehi
        split at h
        · rename_i b elo
          split at h
          · rename_i s hs
            cases hx with
            | sl e ha hl hc =>
              rename_i a b' c' n
              have hc : n + d = c' := hc
              have ehi' : bndO hi len n = some hh := by
                cases hi with
                | none => exact ehi
                | some u =>
                  unfold bndO at ehi ⊢
                  split at ehi
                  · rename_i hq; cases hq
                  · rename_i k q hq
                    cases hq
                    cases hn : natOf q with
                    | none => simp only [hn] at ehi; cases ehi
                    | some m =>
                      simp only [hn] at ehi ⊢
                      split at ehi
                      · rename_i hm
                        have hm := Nat.le_of_ble_eq_true hm
                        have : Nat.ble m n = true := Nat.ble_eq_true_of_le (Nat.le_trans hm hl)
                        simp only [this]; exact ehi
                      · cases ehi
                  · cases ehi
              have hhl : hh ≤ len := (bnd_run (G := G) (w := w) h2 ehi (Nat.le_refl _) .sliceB).1
              obtain ⟨hb, hcc, hr⟩ := bounds_run (G := G) (w := w) (isS := true) h1 h2 hl ehi' elo
              have run : (Instr.sliceAt t (.slice (some a) len n) lo' hi' none).run G w = .ok (.slice (if n = b then some a else some (a.add (b * s))) (hh - b) (n - b)) w := by
                simp only [Instr.sliceAt, Instr.slice, Sem.run_bind, run_underlying hu, Result.andThen_ok, hr, run_sizeOf hs]
                rfl
              have fin : (some (AV.sl l (off + b * s) (hh - b) (.op (d + b))) = some v) → ∃ z, (Instr.sliceAt t (.slice (some a) len n) lo' hi' none).run G w = .ok z w ∧ VR E v z := by
                intro hv
                cases hv
                refine ⟨_, run, ?_⟩
                by_cases hnb : n = b
                · rw [if_pos hnb]
                  exact .sl e (fun h0 => by omega) (by omega) (by show n - b + (d + b) = c'; omega)
                · rw [if_neg hnb]
                  refine .sl e (fun h0 => ?_) (by omega) (by show n - b + (d + b) = c'; omega)
                  rw [ha (by omega)]
                  exact addr_add _ _ _
              rw [forceN_eq, forceN_eq, forceN_eq] at h
              exact fin h
          · cases h
        · cases h
      · cases h
    · split at h
      · rename_i hh ehi
        split at h
        · rename_i b elo
          split at h
          · rename_i s hs
            cases h
            cases hx with
            | sl0 =>
              obtain ⟨hb, hcc, hr⟩ := bounds_run (G := G) (w := w) (isS := true) h1 h2 (Nat.le_refl _) ehi elo
              have : hh = 0 := by omega
              subst this
              have : b = 0 := by omega
              subst this
              exact ⟨_, by simp only [Instr.sliceAt, Instr.slice, Sem.run_bind, run_underlying hu, Result.andThen_ok, hr, run_sizeOf hs]; rfl, .sl0⟩
          · cases h
        · cases h
      · cases h
    · cases h
  · rename_i len el hu
    split at h
    · rename_i l off
      split at h
      · rename_i hh ehi
        split at h
        · rename_i b elo
          split at h
          · rename_i s hs
            split at h
            · rename_i hcb
              have hcb := Nat.eq_of_beq_eq_true hcb
              subst hcb
              cases h
              cases hx with
              | ptr e =>
                rename_i b' c'
                obtain ⟨hb, hcc, hr⟩ := bounds_run (G := G) (w := w) (isS := false) h1 h2 (Nat.le_refl _) ehi elo
                refine ⟨.slice (some ⟨b', off, none⟩) (hh - len) (len - len), ?_, ?_⟩
                · simp only [Instr.sliceAt, Sem.run_bind, run_underlying hu, Result.andThen_ok, Instr.sureAddr, Sem.run_pure, hr, run_sizeOf hs, if_true]
                · exact .sl e (fun h0 => by omega) (by show hh - len ≤ len - len; omega) (by simp [CapR])
            · rename_i hcb
              have hcb := Nat.ne_of_beq_eq_false hcb
              rw [forceN_eq, forceN_eq, forceN_eq] at h
              cases h
              cases hx with
              | ptr e =>
                rename_i b' c'
                obtain ⟨hb, hcc, hr⟩ := bounds_run (G := G) (w := w) (isS := false) h1 h2 (Nat.le_refl _) ehi elo
                refine ⟨.slice (some ((⟨b', off, none⟩ : Addr).add (b * s))) (hh - b) (len - b), ?_, ?_⟩
                · simp only [Instr.sliceAt, Sem.run_bind, run_underlying hu, Result.andThen_ok, Instr.sureAddr, Sem.run_pure, hr, run_sizeOf hs, if_neg hcb]
                · exact .sl e (fun _ => addr_add _ _ _) (by show hh - b ≤ len - b; omega) rfl
          · cases h
        · cases h
      · cases h
    · cases h
  · cases h
/-- with a bound of the capacity -/
noncomputable def slice3O (G : Program) (t : TypeId) (x : AV) (lo hi : Option AV) (mx : AV) : Option AV :=
  match G.underlying t, hi with
  | some (.slice el), some hv => match x with
    | .sl l off len cap => match bndO (some mx) 0 (match cap with | .ex c => c | .op _ => len) with
      | some m => match bndO (some hv) 0 m with
        | some h => match bndO lo 0 h with
          | some b => match szO G el with
            | some s => forceN (Nat.add off (Nat.mul b s)) (fun o => forceN (Nat.sub h b) (fun n => forceN (Nat.sub m b) (fun c => some (.sl l o n (.ex c)))))
            | none => none
          | none => none
        | none => none
      | none => none
    | .sl0 => match bndO (some mx) 0 0 with
      | some _ => match bndO (some hv) 0 0 with
        | some _ => match bndO lo 0 0 with
          | some _ => match szO G el with
            | some _ => some .sl0
            | none => none
          | none => none
        | none => none
      | none => none
    | _ => none
  | _, _ => none
theorem bndO_up {u : AV} {d most most' n : Nat} (h : bndO (some u) d most = some n) (hl : most ≤ most') : bndO (some u) d most' = some n := by
  unfold bndO at h ⊢
  split at h
  · rename_i hq; cases hq
  · rename_i k q hq
    cases hq
    cases hn : natOf q with
    | none => simp only [hn] at h; cases h
    | some m =>
      simp only [hn] at h ⊢
      split at h
      · rename_i hm
        have hm := Nat.le_of_ble_eq_true hm
        have : Nat.ble m most' = true := Nat.ble_eq_true_of_le (Nat.le_trans hm hl)
        simp only [this]; exact h
      · cases h
  · cases h
theorem bounds3_run {isS : Bool} {lo : Option AV} {hv mx : AV} {lo' : Option Value} {hv' mx' : Value} (h1 : OV E lo lo') (h2 : VR E hv hv') (h3 : VR E mx mx') {len cap m h b : Nat}
    (em : bndO (some mx) 0 cap = some m) (eh : bndO (some hv) 0 m = some h) (eb : bndO lo 0 h = some b) :
    b ≤ h ∧ h ≤ m ∧ m ≤ cap ∧ (Instr.sliceBounds isS len cap lo' (some hv') (some mx')).run G w = .ok (b, h, m) w := by
  obtain ⟨hm, rm⟩ := bnd_run (G := G) (w := w) (.some h3) em (Nat.zero_le _) (if isS then .slice3Acap else .slice3Alen)
  obtain ⟨hh, rh⟩ := bnd_run (G := G) (w := w) (.some h2) eh (Nat.zero_le _) .slice3B
  obtain ⟨hb, rb⟩ := bnd_run (G := G) (w := w) h1 eb (Nat.zero_le _) .slice3C
  refine ⟨hb, hh, hm, ?_⟩
  cases lo' with
  | none => simp at rm rh rb; subst rb; simp [Instr.sliceBounds, rm, rh]
  | some v => simp at rm rh rb; simp [Instr.sliceBounds, rm, rh, rb]
theorem slice3O_ok {t : TypeId} {x v mx : AV} {y mx' : Value} {lo hi : Option AV} {lo' hi' : Option Value} (hx : VR E x y) (h1 : OV E lo lo') (h2 : OV E hi hi') (h3 : VR E mx mx') (h : slice3O G t x lo hi mx = some v) : ∃ z, (Instr.sliceAt t y lo' hi' (some mx')).run G w = .ok z w ∧ VR E v z := by
  unfold slice3O at h
  split at h
  · rename_i el hv hu
    cases h2 with
    | some hhv =>
    rename_i hv'
    split at h
    · rename_i l off len cap
      split at h
      · rename_i m em
        split at h
        · rename_i hh eh
          split at h
          · rename_i b eb
            split at h
            · rename_i s hs
              rw [forceN_eq, forceN_eq, forceN_eq] at h
              cases h
              cases hx with
              | sl e ha hl hc =>
                rename_i a b' c' n
                have em' : bndO (some mx) 0 n = some m := by
                  cases cap with
                  | ex c => have hc : n = c := hc; subst hc; exact em
                  | op d => exact bndO_up em hl
                obtain ⟨hb, hcc, hm, hr⟩ := bounds3_run (G := G) (w := w) (isS := true) (len := len) h1 hhv h3 em' eh eb
                refine ⟨.slice (if m = b then some a else some (a.add (b * s))) (hh - b) (m - b), ?_, ?_⟩
                · simp only [Instr.sliceAt, Instr.slice, Sem.run_bind, run_underlying hu, Result.andThen_ok, hr, run_sizeOf hs]
                  rfl
                · by_cases hnb : m = b
                  · rw [if_pos hnb]
                    exact .sl e (fun h0 => by omega) (by show hh - b ≤ m - b; omega) rfl
                  · rw [if_neg hnb]
                    refine .sl e (fun h0 => ?_) (by show hh - b ≤ m - b; omega) rfl
                    rw [ha (by omega)]
                    exact addr_add _ _ _
            · cases h
          · cases h
        · cases h
      · cases h
    · split at h
      · rename_i m em
        split at h
        · rename_i hh eh
          split at h
          · rename_i b eb
            split at h
            · rename_i s hs
              cases h
              cases hx with
              | sl0 =>
                have hm0 := (bnd_run (G := G) (w := w) (.some h3) em (Nat.le_refl _) .sliceB).1
                have hm0 : m = 0 := by omega
                subst hm0
                have hh0 := (bnd_run (G := G) (w := w) (.some hhv) eh (Nat.le_refl _) .sliceB).1
                have hh0 : hh = 0 := by omega
                subst hh0
                obtain ⟨hb, hcc, hm, hr⟩ := bounds3_run (G := G) (w := w) (isS := true) (len := 0) h1 hhv h3 em eh eb
                have : b = 0 := by omega
                subst this
                exact ⟨_, by simp only [Instr.sliceAt, Instr.slice, Sem.run_bind, run_underlying hu, Result.andThen_ok, hr, run_sizeOf hs]; rfl, .sl0⟩
            · cases h
          · cases h
        · cases h
      · cases h
    · cases h
  · cases h
end
end Go.Ai
