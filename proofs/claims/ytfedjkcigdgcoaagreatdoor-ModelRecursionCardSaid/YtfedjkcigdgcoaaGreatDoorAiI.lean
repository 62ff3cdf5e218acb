/- What operations that make memory come to, on abstract values. -/
import Derived.Test.YtfedjkcigdgcoaaGreatDoorAiH
import Derived.Laws.Tables
import Derived.Laws.MakeOwn
namespace Go.Ai
open Go Go.RowKit
set_option linter.unusedVariables false
section
variable {G : Program} {W0 : World} {E : Env} {nx : Nat} {w : World} {cf : Cf}

/-- what an operation makes: a block, and a value that points to it -/
def AlR (G : Program) (E : Env) (w : World) (obj : AObj) (mk : P → AV) (s : Sem Value) : Prop :=
  ∃ ob x n c, s.run G w = .ok x { w with heap := w.heap.push ob, drawn := w.drawn + n } ∧ ∀ E' l, E.le E' → E'.ρ l = some (w.heap.size, c) → OR G E' c obj ob ∧ VR E' (mk l) x

def cellsA : AV → Option (List AV)
  | .agg cs => some cs
  | .tup _ => none
  | .top => none
  | v => some [v]
theorem cellsA_ok {v : AV} {x : Value} {cs : List AV} (hv : VR E v x) (h : cellsA v = some cs) : VRs E cs x.cells.toList ∧ ∀ y ∈ x.cells.toList, ∀ a ∈ cs, (∀ q, cs = [q] → v = .agg cs ∨ v = q) → True := by
  refine ⟨?_, fun _ _ _ _ _ => trivial⟩
  cases hv with
  | agg hs => cases h; simpa [Value.cells] using hs
  | tup hs => cases h
  | top => cases h
  | bool b => cases h; exact .cons (.bool b) .nil
  | int k n => cases h; exact .cons (.int k n) .nil
  | str e => cases h; exact .cons (.str e) .nil
  | ptr0 => cases h; exact .cons .ptr0 .nil
  | ptr e => cases h; exact .cons (.ptr e) .nil
  | glob g o => cases h; exact .cons (.glob g o) .nil
  | sl0 => cases h; exact .cons .sl0 .nil
  | sl e ha hl hc => cases h; exact .cons (.sl e ha hl hc) .nil
  | map0 => cases h; exact .cons .map0 .nil
  | map e => cases h; exact .cons (.map e) .nil
  | fn a b c => cases h; exact .cons (.fn a b c) .nil
  | fn0 => cases h; exact .cons .fn0 .nil
  | if0 => cases h; exact .cons .if0 .nil
  | iface t e => cases h; exact .cons (.iface t e) .nil
  | iter e => cases h; exact .cons (.iter e) .nil
  | chan0 => cases h; exact .cons .chan0 .nil
  | chan e => cases h; exact .cons (.chan e) .nil

theorem row_ok {cs : List AV} {vs : List Value} {ty : TypeId} {c : Nat} (h : VRs E cs vs) : OR G E c (.cells cs ty false) (.cells vs.toArray ty) :=
  .cells h (rest := []) (by simp) (fun _ => rfl) (fun e => by cases e) (.inl rfl)
theorem newVar_run (t : TypeId) (v : Value) : (newVar t v).run G w = .ok ⟨w.heap.size, 0, none⟩ { w with heap := w.heap.push (.cells v.cells t) } := by simp [newVar, newRow]
theorem newRow_run (t : TypeId) (cs : Array Value) : (newRow t cs).run G w = .ok ⟨w.heap.size, 0, none⟩ { w with heap := w.heap.push (.cells cs t) } := by simp [newRow]
theorem var_al {t : TypeId} {v : AV} {x : Value} {cs : List AV} (hv : VR E v x) (h : cellsA v = some cs) : AlR G E w (.cells cs t false) (fun l => .ptr l 0) (do pure (.pointer (some (← newVar t x)))) := by
  refine ⟨.cells x.cells t, _, 0, 0, by simp [newVar_run], fun E' l hle he => ⟨?_, .ptr he⟩⟩
  have := row_ok (G := G) (ty := t) (c := 0) ((cellsA_ok hv h).1.mono hle)
  simpa using this
noncomputable def allocO (G : Program) (t : TypeId) : Option AObj := match zeroO G t with
  | some z => match cellsA z with
    | some cs => some (.cells cs t false)
    | none => none
  | none => none
theorem allocO_ok {t : TypeId} {o : AObj} (h : allocO G t = some o) : AlR G E w o (fun l => .ptr l 0) (Instr.alloc t true (.tuple #[])) := by
  unfold allocO at h
  split at h
  · rename_i z hz
    split at h
    · rename_i cs hcs
      cases h
      obtain ⟨z', hz1, hz2, _⟩ := zeroO_ok (w := w) hz E
      obtain ⟨ob, x, n, c, hr, hh⟩ := var_al (G := G) (w := w) (t := t) hz2 hcs
      exact ⟨ob, x, n, c, by simp only [Instr.alloc, Sem.run_bind, hz1, Result.andThen_ok]; exact hr, hh⟩
    · cases h
  · cases h
noncomputable def boxO (t : TypeId) (v : AV) : Option AObj := match cellsA v with
  | some cs => some (.cells cs t false)
  | none => none
theorem boxO_ok {t : TypeId} {v : AV} {x : Value} {o : AObj} (hv : VR E v x) (h : boxO t v = some o) : AlR G E w o (fun l => .ptr l 0) (Instr.box t x) := by
  unfold boxO at h
  split at h
  · rename_i cs hcs; cases h; exact var_al hv hcs
  · cases h
theorem mapMk_ok {t : TypeId} : AlR G E w (.map [] 0) .map (Instr.makeMap t none) :=
  ⟨.map #[] 0, _, 0, 0, by simp [Instr.makeMap], fun E' l _ he => ⟨.map .nil, .map he⟩⟩

/-! structs and arrays written out -/
/-! channels -/
noncomputable def makeChanO (G : Program) (t : TypeId) (n : AV) : Option (AObj × (P → AV)) := match n with
  | .int _ (.lit (.ofNat m)) => match G.underlying t with
    | some (.chan _ e) => match G.info? e with
      | some i => match Nat.ble m 1000, Nat.ble i.bytes 1000 with
        | true, true => some (.chan false, .chan)
        | _, _ => none
      | none => none
    | _ => none
  | _ => none
theorem makeChanO_ok {t : TypeId} {n : AV} {n' : Value} (hn : VR E n n') {o : AObj} {mk : P → AV} (h : makeChanO G t n = some (o, mk)) : AlR G E w o mk (Instr.makeChan t n') := by
  unfold makeChanO at h
  split at h
  · rename_i k m
    split at h
    · rename_i d e hu
      split at h
      · rename_i i hi
        split at h
        · rename_i h1 h2
          cases h
          have h1 := Nat.le_of_ble_eq_true h1
          have h2 := Nat.le_of_ble_eq_true h2
          have hb : i.bytes * m ≤ 1000 * 1000 := Nat.mul_le_mul h2 h1
          cases hn
          refine ⟨.chan m #[] false 0 0 false, _, 0, 0, ?_, fun E' l hle he => ⟨.chan, .chan he⟩⟩
          have g : ¬ ((m : Int) < 0 ∨ (9223372036854775807 : Int) < (m : Int) ∨ (281474976710544 : Int) < (i.bytes : Int) * (m : Int)) := by
            have : ((i.bytes * m : Nat) : Int) ≤ 1000000 := by omega
            rw [Int.natCast_mul] at this
            omega
          simp [Instr.makeChan, asInt, asIntOf, SI.ev, run_underlying hu, run_typeInfo hi, newObj, Sem.run]
          exact fun h => (g h).elim
        · cases h
      · cases h
    · cases h
  · cases h
theorem foldSet (off : Nat) : ∀ (l : List Value) (k : Nat) (arr : Array Value), off + k + l.length ≤ arr.size →
    ((l.zipIdx k).foldl (fun (cs : Array Value) (x : Value × Nat) => cs.setIfInBounds (off + x.2) x.1) arr).toList = arr.toList.take (off + k) ++ l ++ arr.toList.drop (off + k + l.length)
  | [], k, arr, h => by simp
  | c :: t, k, arr, h => by
    simp only [List.zipIdx_cons, List.foldl_cons, List.length_cons] at h ⊢
    rw [foldSet off t (k + 1) _ (by simp; omega)]
    have hk : off + k < arr.toList.length := by simp; omega
    simp only [Array.toList_setIfInBounds]
    have e1 : (arr.toList.set (off + k) c).take (off + (k + 1)) = arr.toList.take (off + k) ++ [c] := by
      have : off + (k + 1) = off + k + 1 := by omega
      rw [this, List.take_add_one, List.getElem?_set_self hk, List.take_set_of_le (Nat.le_refl _)]
      rfl
    have e2 : (arr.toList.set (off + k) c).drop (off + (k + 1) + t.length) = arr.toList.drop (off + k + (t.length + 1)) := by
      rw [List.drop_set_of_lt (by omega)]
      congr 1; omega
    rw [e1, e2]
    simp
theorem fold_cells (off : Nat) (v arr : Array Value) (h : off + v.size ≤ arr.size) :
    (v.zipIdx.foldl (fun (cs : Array Value) (x : Value × Nat) => cs.setIfInBounds (off + x.2) x.1) arr).toList = arr.toList.take off ++ v.toList ++ arr.toList.drop (off + v.size) := by
  have := foldSet off v.toList 0 arr (by simpa using h)
  rw [← Array.foldl_toList, Array.toList_zipIdx]
  simpa using this
noncomputable def fillA (pl : Nat → Option (Nat × Nat)) (parts : List (Nat × AV)) : List AV → Option (List AV) :=
  List.rec (fun cs => some cs) (fun p _ ih cs => Option.casesOn (pl p.1) none (fun os => Option.casesOn (cellsA p.2) none (fun vs =>
    Bool.rec none (Bool.rec none (spliceK os.1 vs cs ih) (Nat.ble (Nat.add os.1 os.2) (lenL cs))) (Nat.beq (lenL vs) os.2)))) parts
inductive PR (E : Env) : List (Nat × AV) → List (Nat × Value) → Prop
  | nil : PR E [] []
  | cons {i : Nat} {a : AV} {v : Value} {as : List (Nat × AV)} {vs : List (Nat × Value)} (h : VR E a v) (hs : PR E as vs) : PR E ((i, a) :: as) ((i, v) :: vs)
theorem fillA_ok {pl : Nat → Option (Nat × Nat)} : ∀ {ps : List (Nat × AV)} {qs : List (Nat × Value)} (_ : PR E ps qs) {cs : List AV} {arr : Array Value} (_ : VRs E cs arr.toList) {r : List AV}, fillA pl ps cs = some r → ∃ arr', Instr.fill pl arr qs = some arr' ∧ VRs E r arr'.toList
  | _, _, .nil, cs, arr, hc, r, h => by cases h; exact ⟨arr, rfl, hc⟩
  | _, _, .cons (i := i) (a := a) (v := v) (as := as) (vs := qs) hv hs, cs, arr, hc, r, h => by
    have h' : (Option.casesOn (pl i) none (fun os => Option.casesOn (cellsA a) none (fun vs =>
      Bool.rec none (Bool.rec none (spliceK os.1 vs cs (fillA pl as)) (Nat.ble (Nat.add os.1 os.2) (lenL cs))) (Nat.beq (lenL vs) os.2))) : Option (List AV)) = some r := h
    cases hp : pl i with
    | none => rw [hp] at h'; cases h'
    | some os =>
      obtain ⟨off, size⟩ := os
      rw [hp] at h'
      cases hcell : cellsA a with
      | none => rw [hcell] at h'; cases h'
      | some vs =>
        rw [hcell] at h'
        cases h1 : Nat.beq (lenL vs) size with
        | false => simp only [h1] at h'; cases h'
        | true =>
          simp only [h1] at h'
          cases h2 : Nat.ble (Nat.add off size) (lenL cs) with
          | false => simp only [h2] at h'; cases h'
          | true =>
            simp only [h2] at h'
            have hcv := (cellsA_ok hv hcell).1
            have e1 : vs.length = size := by have := Nat.eq_of_beq_eq_true h1; rwa [lenL_eq] at this
            have e2 : off + size ≤ cs.length := by have := Nat.le_of_ble_eq_true h2; rwa [lenL_eq] at this
            have hl1 := hcv.length
            have hl2 := hc.length
            have hsz : v.cells.size = size := by simp at hl1; omega
            have hsz2 : off + v.cells.size ≤ arr.size := by simp at hl2; omega
            rw [spliceK_eq _ _ _ _ (by omega)] at h'
            have hnew : VRs E (cs.take off ++ vs ++ cs.drop (off + vs.length)) (v.cells.zipIdx.foldl (fun (cs : Array Value) (x : Value × Nat) => cs.setIfInBounds (off + x.2) x.1) arr).toList := by
              rw [fold_cells off v.cells arr hsz2]
              have : vs.length = v.cells.size := by omega
              rw [this]
              exact ((hc.take off).append hcv).append (hc.drop _)
            obtain ⟨arr', h3, h4⟩ := fillA_ok hs hnew h'
            refine ⟨arr', ?_, h4⟩
            simp only [Instr.fill, hp]
            rw [if_neg (by simp; omega)]
            exact h3
noncomputable def plO (G : Program) (t : TypeId) : Option (Nat → Option (Nat × Nat)) := match G.underlying t with
  | some (.array _ e) => match G.info? e with
    | some ie => some (fun i => some (i * ie.size, ie.size))
    | none => none
  | some (.struct fields) => match fields.toList.mapM (fun f => (G.info? f.type).map fun i => (f.offset, i.size)) with
    | some places => some (fun i => nthL places i)
    | none => none
  | _ => none
noncomputable def buildO (G : Program) (t : TypeId) (parts : List (Nat × AV)) : Option AV := match plO G t with
  | some pl => match zeroO G t with
    | some z => match cellsA z with
      | some zs => match fillA pl parts zs with
        | some cs => some (.agg cs)
        | none => none
      | none => none
    | none => none
  | none => none
theorem buildO_ok {t : TypeId} {ps : List (Nat × AV)} {qs : Array (Nat × Value)} (hp : PR E ps qs.toList) {v : AV} (h : buildO G t ps = some v) : ∃ z, (Instr.build t qs).run G w = .ok z w ∧ VR E v z := by
  unfold buildO at h
  split at h
  · rename_i pl hpl
    split at h
    · rename_i z hz
      split at h
      · rename_i zs hzs
        split at h
        · rename_i cs hcs
          cases h
          obtain ⟨z', _, hz2, i, hi, hiz⟩ := zeroO_ok (w := w) hz E
          obtain ⟨arr', hf, hv⟩ := fillA_ok hp (cellsA_ok hz2 hzs).1 hcs
          refine ⟨.agg arr', run_build w t qs arr' ?_, ?_⟩
          · unfold plO at hpl
            split at hpl
            · rename_i n e hu
              split at hpl
              · rename_i ie hie
                cases hpl
                simp [Program.built, hi, hu, hiz, hie, hf]
              · cases hpl
            · rename_i fields hu
              split at hpl
              · rename_i places hpls
                cases hpl
                simp only [Program.built, hi, hu, hiz, hpls]
                have : (fun i => nthL places i) = (fun x => places.toArray[x]?) := by funext x; simp [nthL_eq]
                rw [this] at hf
                exact hf
              · cases hpl
            · cases hpl
          · simpa using VR.agg hv
        · cases h
      · cases h
    · cases h
  · cases h

/-! rows made whole -/
noncomputable def repA (n : Nat) (zs : List AV) : List AV := Nat.rec [] (fun _ ih => zs ++ ih) n
theorem repA_eq (n : Nat) (zs : List AV) : repA n zs = (List.replicate n zs).flatten := by
  induction n with
  | zero => rfl
  | succ n ih => rw [List.replicate_succ, List.flatten_cons, ← ih]; rfl
theorem VRs.flat {zs : List AV} {vs : List Value} (h : VRs E zs vs) : ∀ n, VRs E (List.replicate n zs).flatten (List.replicate n vs).flatten
  | 0 => .nil
  | n + 1 => by simp only [List.replicate_succ, List.flatten_cons]; exact h.append (VRs.flat h n)
theorem made_eq (z : Array Value) : ∀ n, (madeCells z (n * z.size)).toList = (List.replicate n z.toList).flatten
  | 0 => by simp [madeCells]
  | n + 1 => by
    have ih := made_eq z n
    have e : (n + 1) * z.size = n * z.size + z.size := by rw [Nat.add_mul, Nat.one_mul]
    have h1 : (madeCells z ((n + 1) * z.size)).toList = (madeCells z (n * z.size)).toList ++ z.toList := by
      rw [e]
      simp only [madeCells, Array.toList_map, Array.toList_range, List.range_add, List.map_append, List.map_map]
      congr 1
      apply List.ext_getElem?
      intro j
      simp only [List.getElem?_map, Function.comp_def, Nat.mul_add_mod_self_right]
      by_cases hj : j < z.size
      · simp [hj, Nat.mod_eq_of_lt hj]
      · simp [hj]
    rw [h1, ih]
    have : List.replicate (n + 1) z.toList = List.replicate n z.toList ++ [z.toList] := by rw [List.replicate_succ']
    rw [this]; simp
noncomputable def makeO (G : Program) (t : TypeId) (len cap : AV) : Option (AObj × (P → AV)) :=
  match G.underlying t with
  | some (.slice el) => match len, cap with
    | .int _ l, .int _ c => match natOf l, natOf c with
      | some l, some c => match Nat.ble l c, Nat.ble c 1048576 with
        | true, true => match G.info? el with
          | some i => match Nat.ble i.bytes 1048576 with
            | true => match zeroO G el with
              | some z => match cellsA z with
                | some zs => match Nat.beq (lenL zs) i.size with
                  | true => some (.cells (repA c zs) el false, fun p => .sl p 0 l (.ex c))
                  | false => none
                | none => none
              | none => none
            | false => none
          | none => none
        | _, _ => none
      | _, _ => none
    | _, _ => none
  | _ => none
theorem makeO_ok {t : TypeId} {len cap : AV} {len' cap' : Value} (hl : VR E len len') (hc : VR E cap cap') {o : AObj} {mk : P → AV} (h : makeO G t len cap = some (o, mk)) : AlR G E w o mk (Instr.makeSlice t len' cap') := by
  unfold makeO at h
  split at h
  · rename_i el hu
    split at h
    · rename_i kl l kc c
      split at h
      · rename_i l c hl' hc'
        split at h
        · rename_i h1 h2
          split at h
          · rename_i i hi
            split at h
            · rename_i hb
              split at h
              · rename_i z hz
                split at h
                · rename_i zs hzs
                  split at h
                  · rename_i hsz
                    cases h
                    have h1 := Nat.le_of_ble_eq_true h1
                    have h2 := Nat.le_of_ble_eq_true h2
                    have hb := Nat.le_of_ble_eq_true hb
                    have hsz := Nat.eq_of_beq_eq_true hsz
                    rw [lenL_eq] at hsz
                    obtain ⟨z', _, hz2, i', hi', hiz⟩ := zeroO_ok (w := w) hz E
                    rw [hi] at hi'; cases hi'
                    cases hl; cases hc
                    rw [natOf_ok (σ := E.σ) hl', natOf_ok (σ := E.σ) hc']
                    have hcells := (cellsA_ok hz2 hzs).1
                    have hzsz : z'.cells.size = i.size := by have := hcells.length; simp at this; omega
                    have hbytes : (i.bytes : Int) * c ≤ 281474976710656 := by
                      have : i.bytes * c ≤ 1048576 * 1048576 := Nat.mul_le_mul hb h2
                      have e : ((i.bytes * c : Nat) : Int) = (i.bytes : Int) * c := by simp
                      omega
                    have hr := run_make (P := G) w t el i z' hu hi hiz kl kc (l : Int) (c : Int) (by omega) (by omega) hbytes (by omega)
                    refine ⟨_, _, 0, c, hr, fun E' l' hle he => ⟨?_, .sl he (fun _ => rfl) h1 rfl⟩⟩
                    have hv : VRs E' (repA c zs) (madeCells z'.cells (c * i.size)).toList := by
                      rw [← hzsz, made_eq, repA_eq]
                      exact (hcells.mono hle).flat c
                    have := row_ok (G := G) (ty := el) (c := c) hv
                    simpa using this
                  · cases h
                · cases h
              · cases h
            · cases h
          · cases h
        · cases h
      · cases h
    · cases h
  · cases h
noncomputable def buildSlO (G : Program) (t : TypeId) (len : Nat) (parts : List (Nat × AV)) : Option (AObj × (P → AV)) :=
  match G.underlying t with
  | some (.slice el) => match G.info? el with
    | some i => match Nat.ble (Nat.mul len i.size) 16777216 with
      | true => match zeroO G el with
        | some z => match cellsA z with
          | some zs => match Nat.beq (lenL zs) i.size with
            | true => match fillA (fun j => some (Nat.mul j i.size, i.size)) parts (repA len zs) with
              | some cs => some (.cells cs el false, fun p => .sl p 0 len (.ex len))
              | none => none
            | false => none
          | none => none
        | none => none
      | false => none
    | none => none
  | _ => none
theorem buildSlO_ok {t : TypeId} {len : Nat} {ps : List (Nat × AV)} {qs : Array (Nat × Value)} (hp : PR E ps qs.toList) {o : AObj} {mk : P → AV} (h : buildSlO G t len ps = some (o, mk)) : AlR G E w o mk (Instr.buildSlice t len qs) := by
  unfold buildSlO at h
  split at h
  · rename_i el hu
    split at h
    · rename_i i hi
      split at h
      · rename_i hb
        split at h
        · rename_i z hz
          split at h
          · rename_i zs hzs
            split at h
            · rename_i hsz
              split at h
              · rename_i cs hcs
                cases h
                have hb := Nat.le_of_ble_eq_true hb
                have hsz := Nat.eq_of_beq_eq_true hsz
                rw [lenL_eq] at hsz
                obtain ⟨z', hz1, hz2, i', hi', hiz⟩ := zeroO_ok (G := G) (w := w) hz E
                rw [hi] at hi'; cases hi'
                have hcells := (cellsA_ok hz2 hzs).1
                have hzsz : z'.cells.size = i.size := by have := hcells.length; simp at this; omega
                have hv : VRs E (repA len zs) (madeCells z'.cells (len * i.size)).toList := by
                  rw [← hzsz, made_eq, repA_eq]
                  exact hcells.flat len
                obtain ⟨arr', hf, hva⟩ := fillA_ok hp hv hcs
                have hs : (sizeOf el).run G w = .ok i.size w := by simp [sizeOf, run_typeInfo hi]
                have hn : ¬ (len * i.size > 2 ^ 24) := by
                  have : len * i.size ≤ 16777216 := hb
                  omega
                have hrun : (Instr.buildSlice t len qs).run G w = .ok (.slice (some ⟨w.heap.size, 0, none⟩) len len) { w with heap := w.heap.push (.cells arr' el) } := by
                  simp only [Instr.buildSlice, Sem.run_bind, run_underlying hu, Result.andThen_ok, hs, hn, if_false, Sem.run_ite]
                  by_cases h0 : len * i.size = 0
                  · have hm : madeCells #[] 0 = madeCells z'.cells 0 := by simp [madeCells]
                    have hf' : Instr.fill (fun j => some (j * i.size, i.size)) ((Array.range (len * i.size)).map (fun x => (#[] : Array Value)[x % (#[] : Array Value).size]!)) qs.toList = some arr' := by
                      have e : ((Array.range (len * i.size)).map (fun x => (#[] : Array Value)[x % (#[] : Array Value).size]!)) = madeCells z'.cells (len * i.size) := by rw [h0]; simp [madeCells]
                      rw [e]; exact hf
                    simp [h0, newRow] at hf' ⊢
                    simp [hf']
                  · have hf' : Instr.fill (fun j => some (j * i.size, i.size)) ((Array.range (len * i.size)).map (fun x => z'.cells[x % z'.cells.size]!)) qs.toList = some arr' := hf
                    simp only [h0, if_false, hz1, Result.andThen_ok, Sem.run_pure]
                    rw [hf']
                    simp [newRow]
                refine ⟨_, _, 0, len, hrun, fun E' l' hle he => ⟨?_, .sl he (fun _ => rfl) (Nat.le_refl _) rfl⟩⟩
                have := row_ok (G := G) (ty := el) (c := len) (hva.mono hle)
                simpa using this
              · cases h
            · cases h
          · cases h
        · cases h
      · cases h
    · cases h
  · cases h
end
end Go.Ai
