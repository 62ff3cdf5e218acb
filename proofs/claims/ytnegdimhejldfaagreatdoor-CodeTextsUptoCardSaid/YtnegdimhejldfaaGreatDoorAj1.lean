/- Iterators: ranges over maps and over strings, on abstract values. -/
import Derived.Test.YtnegdimhejldfaaGreatDoorAj0
import Derived.Lib.UnsafeStr
import Derived.Lib.Builder
import Derived.Lib.Bytealg
import Derived.Lib.MakeNoZero
import Derived.Laws.Externs
import Derived.ProofKit
import Derived.Conc.LoneSelect
import Derived.Defers
import Derived.Laws.Sem
import Derived.Orders
namespace Go.Ai
open Go Go.RowKit
set_option linter.unusedVariables false
noncomputable def memS (b : Nat) (l : List Nat) : Bool := List.rec false (fun x _ ih => Bool.rec ih true (Nat.beq x b)) l
theorem memS_eq (b : Nat) (l : List Nat) : memS b l = l.contains b := by
  induction l with
  | nil => rfl
  | cons x l ih =>
    show (Bool.rec (memS b l) true (Nat.beq x b) : Bool) = _
    rw [beqN, List.contains_cons, ih]
    by_cases h : x = b
    · subst h; simp
    · have h' : (b == x) = false := by simp; exact fun e => h e.symm
      simp [h, h']
noncomputable def leftL (seen : List Nat) (es : List (AV × AV × Nat)) : List (AV × AV × Nat) := List.rec [] (fun x _ ih => Bool.rec (x :: ih) ih (memS x.2.2 seen)) es
noncomputable def allGe (last : Nat) (es : List (AV × AV × Nat)) : Bool := List.rec true (fun x _ ih => Bool.rec false ih (Nat.ble last x.2.2)) es
noncomputable def grd (seen : List Nat) (es : List (AV × AV × Nat)) (last : Nat) : Bool := match seen, es with
  | _ :: _, _ :: _ => allGe last es
  | _, _ => false
noncomputable def findB (b : Nat) (es : List (AV × AV × Nat)) : Option AV := List.rec none (fun x _ ih => Bool.rec ih (some (.tup [x.1, x.2.1])) (Nat.beq x.2.2 b)) es
noncomputable def lastN (l : List Nat) : Option Nat := List.rec (fun r => r) (fun x _ ih _ => ih (some x)) l none
section
variable {G : Program} {W0 : World} {E : Env} {nx : Nat} {w : World} {cf : Cf}
theorem MRs.left (seen : List Nat) : ∀ {es : List (AV × AV × Nat)} {fs : List MapEntry}, MRs E es fs → MRs E (leftL seen es) (fs.filter fun e => !seen.toArray.contains e.born)
  | _, _, .nil => .nil
  | _, _, .cons (k := k) (v := v) (b := b) (e := e) (es := es) (fs := fs) hk hv hb hs => by
    have ih := MRs.left seen hs
    show MRs E (Bool.rec ((k, v, b) :: leftL seen es) (leftL seen es) (memS b seen)) _
    rw [List.filter_cons, memS_eq, ← hb]
    cases h : seen.contains e.born with
    | true =>
      have h' : e.born ∈ seen := by simpa using h
      simp only [List.contains_toArray, h, Bool.not_true, Bool.false_eq_true, if_false] at ih ⊢
      exact ih
    | false =>
      simp only [List.contains_toArray, h, Bool.not_false, if_true] at ih ⊢
      exact MRs.cons hk hv rfl ih
theorem MRs.allGe (last : Nat) : ∀ {es : List (AV × AV × Nat)} {fs : List MapEntry}, MRs E es fs → fs.all (fun e => decide (e.born ≥ last)) = allGe last es
  | _, _, .nil => rfl
  | _, _, .cons (k := k) (v := v) (b := b) (e := e) (es := es) (fs := fs) hk hv hb hs => by
    have ih := MRs.allGe last hs
    show _ = (Bool.rec false (Go.Ai.allGe last es) (Nat.ble last b) : Bool)
    rw [List.all_cons, ih, bleN, hb]
    by_cases h : last ≤ b <;> simp [h]
theorem MRs.grd (seen : List Nat) (last : Nat) {es : List (AV × AV × Nat)} {fs : List MapEntry} (h : MRs E es fs) : (!seen.toArray.isEmpty && !fs.toArray.isEmpty && fs.toArray.all (fun e => decide (e.born ≥ last))) = grd seen es last := by
  unfold Go.Ai.grd
  cases seen with
  | nil => simp
  | cons s seen =>
    cases h with
    | nil => simp
    | cons hk hv hb hs =>
      have := (MRs.cons hk hv hb hs).allGe last
      simp only [List.all_toArray, List.isEmpty_toArray, List.isEmpty_cons, Bool.not_false, Bool.true_and]
      exact this
theorem MRs.find (stamp : Nat) : ∀ {es : List (AV × AV × Nat)} {fs : List MapEntry} {v : AV}, MRs E es fs → findB stamp es = some v → ∃ e, fs.find? (fun e => e.born == stamp) = some e ∧ VR E v (.tuple #[e.key, e.val])
  | _, _, v, .nil, h => by cases h
  | _, _, v, .cons (k := k) (v := v0) (b := b) (e := e) (es := es) (fs := fs) hk hv hb hs, h => by
    have h : (Bool.rec (findB stamp es) (some (.tup [k, v0])) (Nat.beq b stamp) : Option AV) = some v := h
    rw [beqN] at h
    by_cases hbs : b = stamp
    · subst hbs
      rw [decide_eq_true rfl] at h
      cases h
      exact ⟨e, by simp [hb], VR.tup (vs := [e.key, e.val]) (.cons hk (.cons hv .nil))⟩
    · rw [decide_eq_false hbs] at h
      obtain ⟨e', h1, h2⟩ := MRs.find stamp hs h
      refine ⟨e', ?_, h2⟩
      rw [List.find?_cons]
      have : (e.born == stamp) = false := by rw [hb]; simpa using hbs
      rw [this]; exact h1
theorem lastN_aux (l : List Nat) : ∀ r : Option Nat, (List.rec (motive := fun _ => Option Nat → Option Nat) (fun r => r) (fun x _ ih _ => ih (some x)) l : Option Nat → Option Nat) r = (match l.getLast? with | some x => some x | none => r) := by
  induction l with
  | nil => intro r; rfl
  | cons x l ih =>
    intro r
    show (List.rec (motive := fun _ => Option Nat → Option Nat) (fun r => r) (fun x _ ih _ => ih (some x)) l : Option Nat → Option Nat) (some x) = _
    rw [ih, List.getLast?_cons]
    cases h : l.getLast? <;> simp
theorem lastN_eq (l : List Nat) : lastN l = l.getLast? := by
  unfold lastN
  rw [lastN_aux]
  cases l.getLast? <;> rfl
noncomputable def rangeO (G : Program) (tab : PT AObj) (t : TypeId) (x : AV) : Option (AObj × (P → AV)) := match G.underlying t with
  | some .string => match x with
    | .str s => some (.strIter s 0, .iter)
    | _ => none
  | some (.map _ _) => match x with
    | .map0 => some (.mapIter none 0 [] 0, .iter)
    | .map m => match mapAt tab m with
      | some (_, c) => some (.mapIter (some m) c [] c, .iter)
      | none => none
    | _ => none
  | _ => none
theorem rangeO_ok {H : Hp} (hr : HR G W0 E H.f H.nx.toNat w) {t : TypeId} {x : AV} {x' : Value} {o : AObj} {mk : P → AV} (hx : VR E x x') (h : rangeO G H.tab t x = some (o, mk)) : AlR G E w o mk (Instr.range t x') := by
  unfold rangeO at h
  split at h
  · rename_i hu
    split at h
    · rename_i s
      cases h
      cases hx with
      | str hs => exact ⟨_, _, 0, 0, by simp [Instr.range, run_underlying hu], fun E' l hle he => ⟨.strIter (VR.mono hle (.str hs)), .iter he⟩⟩
    · cases h
  · rename_i kt et hu
    split at h
    · cases h
      cases hx with
      | map0 => exact ⟨.mapIter none 0 #[] 0, _, 0, 0, by simp [Instr.range, run_underlying hu], fun E' l hle he => ⟨.mapIter0 (seen := []), .iter he⟩⟩
    · rename_i m
      split at h
      · rename_i es c hm
        cases h
        have hg := mapAt_ok hm
        obtain ⟨b, c', arr, e, hb, hmr⟩ := hr.map (l := m) hg
        cases hx with
        | map e' =>
          rw [e] at e'; cases e'
          exact ⟨.mapIter (some b) c #[] c, _, 0, 0, by simp [Instr.range, run_underlying hu, run_getObj_map hb], fun E' l hle he => ⟨.mapIter (seen := []) (hle.2 _ _ e), .iter he⟩⟩
      · cases h
    · cases h
  · cases h
noncomputable def nextK {R : Type} (it : AV) (isStr : Bool) (H : Hp) (K : Option (AV × Hp) → R) : R := match it with
  | .iter l => match PT.get l H.tab with
    | some (.strIter s pos) => match isStr with
      | true => match nthL s pos with
        | some (.lit (.ofNat c)) => match Nat.ble c 127 with
          | true => forceN (Nat.succ pos) (fun p => PT.putK l H.tab (some (.strIter s p)) (fun t' => K (some (.tup [.bool true, .int .i64 (.lit (.ofNat pos)), .int .i32 (.lit (.ofNat c))], ⟨H.nx, t'⟩))))
          | false => K none
        | some _ => K none
        | none => K (some (.tup [.bool false], H))
      | false => K none
    | some (.mapIter none _ _ _) => match isStr with
      | true => K none
      | false => K (some (.tup [.bool false], H))
    | some (.mapIter (some m) since seen last) => match isStr with
      | true => K none
      | false => match mapAt H.tab m with
        | some (es, clock) => match grd seen es last with
          | true => K none
          | false => match leftL seen es with
            | [] => K (some (.tup [.bool false], H))
            | [(k, v, b)] => match Nat.ble (Nat.succ b) since with
              | true => PT.putK l H.tab (some (.mapIter (some m) since (seen ++ [b]) clock)) (fun t' => K (some (.tup [.bool true, k, v], ⟨H.nx, t'⟩)))
              | false => K none
            | _ => K none
        | none => K none
    | _ => K none
  | _ => K none
theorem run_getObj_it {r : Nat} {o : Obj} (h : w.heap[r]? = some o) (hc : ∀ c t f, o ≠ .cells c t f) : (getObj r).run G w = .ok o w := by
  simp only [getObj, Sem.run, h]
theorem decode_ascii {s : ByteArray} {pos c : Nat} (h : (s.get! pos).toNat = c) (hc : c ≤ 127) : Utf8.decode s pos = (c, 1) := by
  unfold Utf8.decode
  simp only [Nat.add_zero, h]
  rw [if_pos (by omega)]
theorem nextK_ok {R : Type} {H : Hp} (hr : HR G W0 E H.f H.nx.toNat w) {it : AV} {it' : Value} {isStr : Bool} (ty : TypeId) (hx : VR E it it') (K : Option (AV × Hp) → R) :
    ∃ r, nextK it isStr H K = K r ∧ AppR G W0 E H w r (Instr.next it' isStr ty) := by
  unfold nextK
  split
  · rename_i l
    cases hx with
    | iter e =>
    rename_i b c
    split
    · rename_i s pos hl
      split
      · obtain ⟨b', c', ob, e', _, hb, ho⟩ := hr.obj l _ hl
        rw [e] at e'; cases e'
        cases ho with
        | strIter hs =>
        rename_i bs
        have hs0 := hs
        cases hs with
        | str hs =>
        have hlen : bs.size = s.length := by
          have := congrArg List.length hs
          simpa using this
        have hget := run_getObj_it (G := G) hb (by simp)
        split
        · rename_i c0 hn
          rw [nthL_eq] at hn
          have hpos : pos < s.length := (List.getElem?_eq_some_iff.1 hn).1
          have hps : pos < bs.size := by omega
          split
          · rename_i hc
            have hc := Nat.le_of_ble_eq_true hc
            refine ⟨_, (forceN_eq _ _).trans (PT.putK_eq _ _ _ _), fun v H' ee => ?_⟩
            cases ee
            have hby : (bs.get! pos).toNat = c0 := by
              have h1 : (bs.data.toList.map (fun b => (b.toNat : Int)))[pos]? = some (c0 : Int) := by
                rw [hs, List.getElem?_map, hn]; rfl
              rw [List.getElem?_map, Array.getElem?_toList] at h1
              have h2 : bs.data[pos]? = some (bs.get! pos) := by
                have hlt : pos < bs.data.size := hps
                rw [Array.getElem?_eq_getElem hlt]
                congr 1
                show bs.data[pos] = bs.data[pos]!
                rw [getElem!_pos bs.data pos hlt]
              rw [h2] at h1
              simp only [Option.map_some, Option.some.injEq] at h1
              exact Int.ofNat.inj h1
            have hd := decode_ascii hby hc
            refine ⟨.tuple #[.bool true, goInt pos, .int .i32 c0], _, E, ?_, setObj_mv (ob := .stringIter bs (pos + 1)) hr hl e hb (.strIter hs0), VR.tup (vs := [.bool true, goInt pos, .int .i32 c0]) (.cons (.bool _) (.cons (.int .i64 (.lit (pos : Int))) (.cons (.int .i32 (.lit (c0 : Int))) .nil)))⟩
            simp only [Instr.next, Sem.run_bind, hget, Result.andThen_ok, if_pos hps, hd, setObj_run hb (by simp), Sem.run_pure]
          · exact ⟨none, rfl, .none⟩
        · exact ⟨none, rfl, .none⟩
        · rename_i hn
          rw [nthL_eq, List.getElem?_eq_none_iff] at hn
          refine ⟨_, rfl, fun v H' ee => ?_⟩
          cases ee
          refine ⟨.tuple #[.bool false], w, E, ?_, Mv.refl hr, VR.tup (vs := [.bool false]) (.cons (.bool _) .nil)⟩
          simp only [Instr.next, Sem.run_bind, hget, Result.andThen_ok, if_neg (show ¬ pos < bs.size by omega), Sem.run_pure]
      · exact ⟨none, rfl, .none⟩
    · rename_i hl
      split
      · exact ⟨none, rfl, .none⟩
      · obtain ⟨b', c', ob, e', _, hb, ho⟩ := hr.obj l _ hl
        rw [e] at e'; cases e'
        cases ho with
        | mapIter0 =>
        refine ⟨_, rfl, fun v H' ee => ?_⟩
        cases ee
        refine ⟨.tuple #[.bool false], w, E, ?_, Mv.refl hr, VR.tup (vs := [.bool false]) (.cons (.bool _) .nil)⟩
        simp only [Instr.next, Sem.run_bind, run_getObj_it (G := G) hb (by simp), Result.andThen_ok, Sem.run_pure]
    · rename_i m since seen last hl
      split
      · exact ⟨none, rfl, .none⟩
      · split
        · rename_i es clock hm
          have hg := mapAt_ok hm
          obtain ⟨b', c', ob, e', _, hb, ho⟩ := hr.obj l _ hl
          rw [e] at e'; cases e'
          cases ho with
          | mapIter hmm =>
          rename_i bm cm
          obtain ⟨bm', cm', arr, e2, hbm, hmr⟩ := hr.map (l := m) hg
          rw [hmm] at e2; cases e2
          obtain ⟨fs⟩ := arr
          have hmr : MRs E es fs := hmr
          have hgr := hmr.grd seen last
          have hlf := hmr.left seen
          split
          · exact ⟨none, rfl, .none⟩
          · rename_i hgf
            rw [hgf] at hgr
            have hgr : (!seen.toArray.isEmpty && !(Array.mk fs).isEmpty && (Array.mk fs).all (fun e => decide (e.born ≥ last))) = false := hgr
            have hfil : (Array.mk fs).filter (fun e => !seen.toArray.contains e.born) = ((fs.filter fun e => !seen.toArray.contains e.born)).toArray := by
              rw [show Array.mk fs = fs.toArray from rfl, List.filter_toArray]
            split
            · rename_i hle
              rw [hle] at hlf
              generalize hq : (fs.filter fun e => !seen.toArray.contains e.born) = q at hlf hfil
              cases hlf
              refine ⟨_, rfl, fun v H' ee => ?_⟩
              cases ee
              refine ⟨.tuple #[.bool false], w, E, ?_, Mv.refl hr, VR.tup (vs := [.bool false]) (.cons (.bool _) .nil)⟩
              simp only [Instr.next, Sem.run_bind, run_getObj_it (G := G) hb (by simp), run_getObj_map (G := G) hbm, Result.andThen_ok, hgr, hfil, Bool.false_eq_true, if_false]
              simp [choose, Sem.run, Question.forced]
            · rename_i k v b0 hle
              rw [hle] at hlf
              generalize hq : (fs.filter fun e => !seen.toArray.contains e.born) = q at hlf hfil
              cases hlf with
              | cons hk hv hbo hs =>
              cases hs
              rename_i en
              split
              · rename_i hlt
                have hlt := Nat.le_of_ble_eq_true hlt
                refine ⟨_, PT.putK_eq _ _ _ _, fun v' H' ee => ?_⟩
                cases ee
                have hor : OR G E c (.mapIter (some m) since (seen ++ [b0]) clock) (.mapIter (some bm) since (seen.toArray.push en.born) clock) := by
                  have : seen.toArray.push en.born = (seen ++ [b0]).toArray := by rw [hbo]; simp
                  rw [this]
                  exact .mapIter hmm
                refine ⟨.tuple #[.bool true, en.key, en.val], _, E, ?_, setObj_mv (ob := .mapIter (some bm) since (seen.toArray.push en.born) clock) hr hl e hb hor, VR.tup (vs := [.bool true, en.key, en.val]) (.cons (.bool _) (.cons hk (.cons hv .nil)))⟩
                have hold : en.born < since := by omega
                simp only [Instr.next, Sem.run_bind, run_getObj_it (G := G) hb (by simp), run_getObj_map (G := G) hbm, Result.andThen_ok, hgr, hfil, Bool.false_eq_true, if_false]
                have hnew : ¬ since ≤ en.born := by omega
                simp [choose, Sem.run, Question.forced, hold, hnew, setObj, hb]
              · exact ⟨none, rfl, .none⟩
            · exact ⟨none, rfl, .none⟩
        · exact ⟨none, rfl, .none⟩
    · exact ⟨none, rfl, .none⟩
  · exact ⟨none, rfl, .none⟩
noncomputable def entryO (tab : PT AObj) (it : AV) : Option AV := match it with
  | .iter l => match PT.get l tab with
    | some (.mapIter (some m) _ seen stepped) => match lastN seen, mapAt tab m with
      | some b, some (es, clock) => match Nat.beq clock stepped with
        | true => findB b es
        | false => none
      | _, _ => none
    | _ => none
  | _ => none
theorem entryO_ok {H : Hp} (hr : HR G W0 E H.f H.nx.toNat w) {it v : AV} {it' : Value} (hx : VR E it it') (h : entryO H.tab it = some v) : ∃ z, (Instr.entry it').run G w = .ok z w ∧ VR E v z := by
  unfold entryO at h
  split at h
  · rename_i l
    cases hx with
    | iter e =>
    split at h
    · rename_i m since seen stepped hl
      split at h
      · rename_i b0 es clock hla hm
        split at h
        · rename_i hcl
          have hcl := Nat.eq_of_beq_eq_true hcl
          subst hcl
          have hg := mapAt_ok hm
          obtain ⟨b', c', ob, e', _, hb, ho⟩ := hr.obj l _ hl
          rw [e] at e'; cases e'
          cases ho with
          | mapIter hmm =>
          rename_i bm cm
          obtain ⟨bm', cm', arr, e2, hbm, hmr⟩ := hr.map (l := m) hg
          rw [hmm] at e2; cases e2
          obtain ⟨en, hf, hv⟩ := hmr.find b0 h
          refine ⟨.tuple #[en.key, en.val], ?_, hv⟩
          rw [lastN_eq] at hla
          have hba : seen.toArray.back? = some b0 := by simpa using hla
          have hfa : arr.find? (fun e => e.born == b0) = some en := by rw [← Array.find?_toList]; exact hf
          simp only [Instr.entry, Sem.run_bind, run_getObj_it (G := G) hb (by simp), run_getObj_map (G := G) hbm, Result.andThen_ok, hba, hfa, bne_self_eq_false, Bool.false_eq_true, if_false, Sem.run_pure]
        · cases h
      · cases h
    · cases h
  · cases h
end
end Go.Ai

/- What package strings' Builder asks for (pointers without a type, cap, unsafe.SliceData, unsafe.String), and entries without a body. -/
namespace Go.Ai
open Go Go.RowKit
set_option linter.unusedVariables false
section
variable {G : Program} {W0 : World} {E : Env} {nx : Nat} {w : World} {cf : Cf}
/-! pointers without a type -/
noncomputable def unsO (G : Program) (tab : PT AObj) (src dst : TypeId) (x : AV) : Option AV := match x with
  | .ptr l off => match PT.get l tab with
    | some (.cells cs ty opn) => match Nat.ble (Nat.succ off) (lenL cs) with
      | true => match G.underlying src, G.underlying dst with
        | some (.pointer t), some .unsafePointer => match szO G t with
          | some n => match Nat.beq n 0 with
            | false => some (.ptr l off)
            | true => none
          | none => none
        | some .unsafePointer, some (.pointer u) => match opn with
          | false => match szO G u with
            | some _ => match liesAt G G.depth ty (Nat.div (lenL cs) (G.cellsOf ty)) off u 1 with
              | true => some (.ptr l off)
              | false => none
            | none => none
          | true => none
        | _, _ => none
      | false => none
    | _ => none
  | _ => none
theorem shape_of {b : Nat} {arr : Array Value} {ty : TypeId} {fz : Nat × Nat} (hb : w.heap[b]? = some (.cells arr ty fz)) : w.shape? b = some (ty, arr.size) := by simp [World.shape?, hb]
theorem szO_info {t : TypeId} {n : Nat} (h : szO G t = some n) : ∃ j, G.info? t = some j ∧ j.size = n := by
  unfold szO at h
  split at h
  · rename_i i hi; cases h; exact ⟨i, hi, rfl⟩
  · cases h
theorem unsO_ok {H : Hp} (hr : HR G W0 E H.f nx w) {src dst : TypeId} {x v : AV} {x' : Value} (hx : VR E x x') (h : unsO G H.tab src dst x = some v) : ∃ z, (convert src dst x').run G w = .ok z w ∧ VR E v z := by
  unfold unsO at h
  split at h
  · rename_i l off
    split at h
    · rename_i cs ty opn hg
      obtain ⟨b, c, arr, fz, pre, rest, e, hge, hb, hv, ha, hop, _⟩ := hr.row (l := l) hg
      cases hx with
      | ptr e' =>
        rw [e] at e'; cases e'
        split at h
        · rename_i hoff
          have hoff := Nat.le_of_ble_eq_true hoff
          rw [lenL_eq, hv.length] at hoff
          have hsz : arr.size = pre.length + rest.length := by rw [← Array.length_toList, ha, List.length_append]
          split at h
          · rename_i t h1 h2
            split at h
            · rename_i n hn
              split at h
              · rename_i h0
                cases h
                obtain ⟨j, hj, hjs⟩ := szO_info hn
                refine ⟨_, Lib.run_to_unsafe w ⟨b, off, none⟩ h1 h2 hj (by rw [hjs]; intro e0; subst e0; cases h0) (shape_of hb) (by show off < arr.size; omega), .ptr e⟩
              · cases h
            · cases h
          · rename_i u h1 h2
            split at h
            · split at h
              · rename_i n hn
                split at h
                · rename_i hl
                  cases h
                  obtain ⟨j, hj, _⟩ := szO_info hn
                  have hrest := hop rfl
                  have : arr.size = lenL cs := by rw [hsz, hrest, lenL_eq, hv.length]; simp
                  exact ⟨_, Lib.run_from_unsafe w ⟨b, off, none⟩ h1 h2 hj (shape_of hb) (by rw [this]; exact hl), .ptr e⟩
                · cases h
              · cases h
            · cases h
          · cases h
        · cases h
    · cases h
  · cases h
/-! cap -/
noncomputable def capO' (G : Program) (t : TypeId) (x : AV) : Option AV := match G.underlying t with
  | some (.slice _) => match x with
    | .sl0 => some (.int .i64 (.lit (.ofNat 0)))
    | .sl _ _ _ (.ex n) => some (.int .i64 (.lit (.ofNat n)))
    | _ => none
  | _ => none
theorem capO'_ok {t ty : TypeId} {x v : AV} {x' : Value} (hx : VR E x x') (h : capO' G t x = some v) : ∃ z, (Builtin.cap_ #[t] ty #[x']).run G w = .ok z w ∧ VR E v z := by
  unfold capO' at h
  split at h
  · rename_i e hu
    split at h
    · cases h; cases hx
      exact ⟨_, by simp [Builtin.cap_, run_underlying hu], lit_vr 0⟩
    · rename_i l off len n
      cases h
      cases hx with
      | sl e1 ha hl hc =>
        have hc : _ = n := hc
        subst hc
        exact ⟨_, by simp [Builtin.cap_, run_underlying hu], lit_vr _⟩
    · cases h
  · cases h
/-! unsafe.SliceData -/
def sdO (x : AV) : Option AV := match x with
  | .sl0 => some .ptr0
  | .sl l off (_ + 1) _ => some (.ptr l off)
  | _ => none
theorem sdO_ok {ts : Array TypeId} {ty : TypeId} {x v : AV} {x' : Value} (hx : VR E x x') (h : sdO x = some v) : ∃ z, (Builtin.unsafeSliceData_ ts ty #[x']).run G w = .ok z w ∧ VR E v z := by
  unfold sdO at h
  split at h
  · cases h; cases hx
    exact ⟨_, Lib.run_unsafeSliceData_nil w ts ty 0 0, .ptr0⟩
  · cases h
    cases hx with
    | sl e1 ha hl hc =>
      rename_i b c n
      have hn : 0 < n := by omega
      have := ha hn
      subst this
      exact ⟨_, Lib.run_unsafeSliceData_row w ts ty _ _ n (by omega), .ptr e1⟩
  · cases h
/-! a block of ours is turned, and forgotten -/
theorem Mv.kill {H : P → Option AObj} {w' : World} (h : HR G W0 E H nx w) {l : P} {o0 : AObj} {b c : Nat} (hl : H l = some o0) (hb : E.ρ l = some (b, c))
    (hs : w'.heap.size = w.heap.size) (hel : ∀ k, k ≠ b → w'.heap[k]? = w.heap[k]?) (hos : w'.os = w.os) (ht : w'.tape = w.tape) (hp : w'.output = w.output) :
    Mv G W0 E H nx w E (upd H l none) nx w' := by
  obtain ⟨b0, c0, ob0, e0, hge, _, _⟩ := h.obj l o0 hl
  rw [hb] at e0; cases e0
  have old : ∀ q o', upd H l none q = some o' → q ≠ l ∧ H q = some o' := by
    intro q o' e
    by_cases hq : q = l
    · subst hq; rw [upd_same] at e; cases e
    · rw [upd_other _ _ hq] at e; exact ⟨hq, e⟩
  refine ⟨Env.le.refl E, ⟨?_, h.dom, ?_, ?_⟩, Nat.le_refl _, by omega, ?_, ?_, fun _ _ e => .inl e⟩
  · exact h.below.trans ⟨hos, ht, hp, by omega, fun k hk => hel k (by omega)⟩
  · intro q o' e
    obtain ⟨hq, e'⟩ := old q o' e
    obtain ⟨b', c', ob', e1, e2, e3, e4⟩ := h.obj q o' e'
    refine ⟨b', c', ob', e1, e2, ?_, e4⟩
    rw [hel b' (fun hbb => hq (by subst hbb; exact h.inj _ _ _ _ _ _ _ e' hl e1 hb))]
    exact e3
  · intro q q' o1 o2 b' c1 c2 e1 e2 e3 e4
    exact h.inj _ _ _ _ _ _ _ (old _ _ e1).2 (old _ _ e2).2 e3 e4
  · intro k hk hno
    exact hel k (fun e => hno l o0 c hl (by rw [e]; exact hb))
  · intro q o' b' c' e1 e2
    exact .inr ⟨q, o', c', (old _ _ e1).2, e2⟩
/-! unsafe.String: the bytes; the row is not looked at any more -/
noncomputable def ustrK {R : Type} (cf : Cf) (G : Program) (pt : TypeId) (p n : AV) (H : Hp) (K : Option (AV × Hp) → R) : R := match n with
  | .int .i64 (.lit (.ofNat m)) => match m with
    | 0 => match p with
      | .ptr0 => K (some (.str [], H))
      | .ptr _ _ => K (some (.str [], H))
      | _ => K none
    | k + 1 => match p with
      | .ptr l 0 => match PT.get l H.tab with
        | some (.cells cs ty _) => match G.underlying pt with
          | some (.pointer e) => match Nat.beq e ty, Nat.beq (G.cellsOf e) 1, Nat.ble (k + 1) (lenL cs), Nat.ble (k + 1) 1000000 with
            | true, true, true, true => match bytesOf cf (takeL (k + 1) cs) with
              | some bs => PT.putK l H.tab none (fun t => K (some (.str bs, ⟨H.nx, t⟩)))
              | none => K none
            | _, _, _, _ => K none
          | _ => K none
        | _ => K none
      | _ => K none
  | _ => K none
theorem byte_list (hcf : cf.ok E.σ) : ∀ {l : List AV} {vs : List Value} {bs : List SI}, VRs E l vs → bytesOf cf l = some bs → ∃ us : List UInt8, vs = us.map (fun b => Value.int .u8 b.toNat) ∧ us.map (fun b => (b.toNat : Int)) = bs.map (SI.ev E.σ)
  | [], _, _, .nil, h => by cases h; exact ⟨[], rfl, rfl⟩
  | a :: l, _, bs, .cons ha hs, h => by
    obtain ⟨c, cs, hc, hcs, rfl⟩ := mapO_cons _ _ _ h
    unfold byteA at hc
    split at hc
    · rename_i e
      split at hc
      · rename_i hbo
        cases hc
        cases ha with
        | int =>
          obtain ⟨us, h1, h2⟩ := byte_list hcf hs hcs
          have := byteOk_ok hcf hbo
          refine ⟨UInt8.ofNat (c.ev E.σ).toNat :: us, ?_, ?_⟩
          · rw [h1, List.map_cons, this]
          · rw [List.map_cons, this, h2]; rfl
      · cases hc
    · cases hc
theorem freeze_same (w : World) (b n : Nat) : (w.freeze ⟨b, 0, none⟩ n).heap.size = w.heap.size ∧ (∀ k, k ≠ b → (w.freeze ⟨b, 0, none⟩ n).heap[k]? = w.heap[k]?) ∧ (w.freeze ⟨b, 0, none⟩ n).os = w.os ∧ (w.freeze ⟨b, 0, none⟩ n).tape = w.tape ∧ (w.freeze ⟨b, 0, none⟩ n).output = w.output := by
  unfold World.freeze
  split
  · exact ⟨rfl, fun _ _ => rfl, rfl, rfl, rfl⟩
  · exact ⟨by simp, fun k hk => by simp only [Array.getElem?_modify]; rw [if_neg (fun e => hk e.symm)], rfl, rfl, rfl⟩
theorem ustrK_ok {R : Type} (hcf : cf.ok E.σ) {H : Hp} (hr : HR G W0 E H.f H.nx.toNat w) {pt it ty : TypeId} {p n : AV} {p' n' : Value} (hp : VR E p p') (hn : VR E n n') (K : Option (AV × Hp) → R) :
    ∃ r, ustrK cf G pt p n H K = K r ∧ AppR G W0 E H w r (Builtin.unsafeString_ #[pt, it] ty #[p', n']) := by
  unfold ustrK
  split
  · rename_i m
    cases hn with
    | int =>
      split
      · have hz : VR E (.str []) (.string .empty) := .str rfl
        split
        · cases hp
          refine ⟨_, rfl, fun v H' e => ?_⟩
          cases e
          exact ⟨_, w, E, Lib.run_unsafeString_none w pt it ty none, Mv.refl hr, hz⟩
        · cases hp
          refine ⟨_, rfl, fun v H' e => ?_⟩
          cases e
          exact ⟨_, w, E, Lib.run_unsafeString_none w pt it ty _, Mv.refl hr, hz⟩
        · exact ⟨none, rfl, .none⟩
      · rename_i k
        split
        · rename_i l
          split
          · rename_i cs ty' opn hg
            split
            · rename_i e hu
              split
              · rename_i h1 h2 h3 h4
                have h1 := Nat.eq_of_beq_eq_true h1
                have h2 := Nat.eq_of_beq_eq_true h2
                have h3 := Nat.le_of_ble_eq_true h3
                have h4 := Nat.le_of_ble_eq_true h4
                subst h1
                split
                · rename_i bs hbs
                  refine ⟨_, PT.putK_eq _ _ _ _, fun v H' ee => ?_⟩
                  cases ee
                  obtain ⟨b, c, arr, fz, pre, rest, e0, hge, hb, hv, ha, hop, _⟩ := hr.row (l := l) hg
                  cases hp with
                  | ptr e' =>
                    rw [e0] at e'; cases e'
                    rw [lenL_eq] at h3
                    rw [takeL_eq] at hbs
                    obtain ⟨us, hu1, hu2⟩ := byte_list hcf (hv.take (k + 1)) hbs
                    have hlen : us.length = k + 1 := by
                      have := congrArg List.length hu1
                      rw [List.length_take, List.length_map] at this
                      have := hv.length
                      omega
                    have hsz : arr.size = pre.length + rest.length := by rw [← Array.length_toList, ha, List.length_append]
                    have hrun := Lib.run_unsafeString_row (P := G) w pt it ty e hu h2 b arr.size (shape_of hb) us (by intro e0; rw [e0] at hlen; cases hlen) (by have := hv.length; omega) (by omega) (fun j x hj => by
                      have hj' : pre[j]? = some (.int .u8 x.toNat) := by
                        have h5 : (pre.take (k + 1))[j]? = some (.int .u8 x.toNat) := by rw [hu1, List.getElem?_map, hj]; rfl
                        rw [List.getElem?_take] at h5
                        split at h5
                        · exact h5
                        · cases h5
                      have := cell_of hb ha hj'
                      rw [addr_add, Nat.zero_add]
                      exact this)
                    rw [hlen] at hrun
                    obtain ⟨f1, f2, f3, f4, f5⟩ := freeze_same w b (k + 1)
                    refine ⟨_, _, E, hrun, ?_, .str (by simpa using hu2)⟩
                    rw [put_f]
                    exact Mv.kill hr hg e0 f1 f2 f3 f4 f5
                · exact ⟨none, rfl, .none⟩
              · exact ⟨none, rfl, .none⟩
            · exact ⟨none, rfl, .none⟩
          · exact ⟨none, rfl, .none⟩
        · exact ⟨none, rfl, .none⟩
  · exact ⟨none, rfl, .none⟩
/-! a string's bytes, as a row -/
noncomputable def s2bO (G : Program) (d : TypeId) (l : List SI) : Option (AObj × (P → AV)) := match G.underlying d with
  | some (.slice e) => match G.underlying e with
    | some (.int .u8) => match Nat.beq (G.cellsOf e) 1 with
      | true => some (.cells (mapL (fun b => AV.int .u8 b) l) e true, fun p => .sl p 0 (lenL l) (.op 0))
      | false => none
    | _ => none
  | _ => none
theorem bytes_cells {l : List SI} {bs : List UInt8} (h : bs.map (fun b => (b.toNat : Int)) = l.map (SI.ev E.σ)) : VRs E (mapL (fun b => AV.int .u8 b) l) (bs.map fun b => Value.int .u8 b.toNat) := by
  rw [mapL_eq]; exact bytes_vrs h
theorem modify_push {α : Type} (a : Array α) (x : α) (f : α → α) : (a.push x).modify a.size f = a.push (f x) := by
  apply Array.ext_getElem?
  intro i
  rw [Array.getElem?_modify, Array.getElem?_push, Array.getElem?_push]
  by_cases h : i = a.size
  · subst h; simp
  · rw [if_neg (fun e => h e.symm), if_neg h, if_neg h]
theorem s2b_run {s d e : TypeId} {sd : TypeDesc} (hsd : G.underlying s = some sd) (hu : G.underlying d = some (.slice e)) (he : G.underlying e = some (.int .u8)) (ba : ByteArray) : ∃ C, ba.size ≤ C ∧
    (convert s d (.string ba)).run G w = .ok (.slice (some ⟨w.heap.size, 0, none⟩) ba.size C) { w with heap := w.heap.push (.cells ((ba.data.map fun b => Value.int .u8 b.toNat) ++ Array.replicate (C - ba.size) (.int .u8 0)) e (C, C + 1)), drawn := w.drawn + 1 } := by
  have h0 : (convert s d (.string ba)).run G w = (Conv.stringToBytes e ba).run G w := by
    cases sd <;> simp [convert, run_underlying hsd, run_underlying hu, run_underlying he]
  rw [h0]
  have hq : (Question.appendCap ba.size 0 e).forced = false := rfl
  have hge := cut_ge ba.size 0 e (w.tape w.drawn (Question.appendCap ba.size 0 e))
  refine ⟨(Question.appendCap ba.size 0 e).cut (w.tape w.drawn (Question.appendCap ba.size 0 e)), hge, ?_⟩
  simp only [Conv.stringToBytes, markStringish]
  simp [choose, Sem.run, newRow, shape, freeze, hq]
  generalize (Question.appendCap ba.size 0 e).cut (w.tape w.drawn (Question.appendCap ba.size 0 e)) = C at hge ⊢
  have hsz : (Array.map (fun b => Value.int .u8 (b.toNat : Int)) ba.data ++ Array.replicate (C - ba.size) (Value.int .u8 0)).size = C := by
    rw [Array.size_append, Array.size_map, Array.size_replicate]
    show ba.size + (C - ba.size) = C
    omega
  generalize (Array.map (fun b => Value.int .u8 (b.toNat : Int)) ba.data ++ Array.replicate (C - ba.size) (Value.int .u8 0)) = X at hsz ⊢
  have hsh : (w.drew.alloc (.cells X e)).shape? w.heap.size = some (e, C) := by
    have h1 : (w.drew.alloc (.cells X e)).heap[w.heap.size]? = some (.cells X e) := heap_alloc_new w.drew _
    simp only [World.shape?, h1, hsz]
  rw [hsh]
  have hfr : (w.drew.alloc (.cells X e)).freeze ⟨w.heap.size, C, none⟩ 1 = { w with heap := w.heap.push (.cells X e (C, C + 1)), drawn := w.drawn + 1 } := by
    show ({ w with heap := (w.heap.push (.cells X e)).modify w.heap.size _, drawn := w.drawn + 1 } : World) = _
    rw [modify_push]
    rfl
  show Result.ok _ ((w.drew.alloc (.cells X e)).freeze ⟨w.heap.size, C, none⟩ 1) = _
  rw [hfr]
theorem s2bO_ok {s d : TypeId} {sd : TypeDesc} (hsd : G.underlying s = some sd) {l : List SI} {x' : Value} (hx : VR E (.str l) x') {o : AObj} {mk : P → AV} (h : s2bO G d l = some (o, mk)) : AlR G E w o mk (convert s d x') := by
  unfold s2bO at h
  split at h
  · rename_i e hu
    split at h
    · rename_i he
      split at h
      · rename_i hc
        cases h
        have hc := Nat.eq_of_beq_eq_true hc
        cases hx with
        | str hs =>
          rename_i ba
          have hlen : ba.size = l.length := by
            have := congrArg List.length hs
            simpa using this
          obtain ⟨C, hle, hrun⟩ := s2b_run (w := w) hsd hu he ba
          refine ⟨_, _, 1, C, hrun, fun E' p hE hp => ⟨?_, ?_⟩⟩
          · have hv : VRs E' (mapL (fun b => AV.int .u8 b) l) (ba.data.toList.map fun b => Value.int .u8 b.toNat) := (bytes_cells hs).mono hE
            refine .cells (rest := List.replicate (C - ba.size) (.int .u8 0)) hv (by simp) (fun h => by cases h) (fun _ => ?_) (.inr ?_)
            · rw [hc, Array.size_append, Array.size_map, Array.size_replicate]
              show ba.size + (C - ba.size) = C * 1
              omega
            · rw [Array.size_append, Array.size_map, Array.size_replicate]
              show ba.size + (C - ba.size) ≤ C
              omega
          · have : lenL l = ba.size := by rw [lenL_eq, hlen]
            rw [this]
            exact .sl hp (fun _ => rfl) hle rfl
      · cases h
    · cases h
  · cases h
/-! entries without a body -/
theorem look_empty : Extern.allNextRows.lookup "" = none := by kernel_rfl
theorem look_noEscape : Extern.allGenericRows.lookup "internal/abi.NoEscape" = none ∧ Extern.allTypedRows.lookup "internal/abi.NoEscape" = none ∧ Extern.allNextRows.lookup "internal/abi.NoEscape" = none ∧ Extern.allRows.lookup "internal/abi.NoEscape" = some Extern.AbiNoEscape.same := by
  refine ⟨?_, ?_, ?_, ?_⟩ <;> kernel_rfl
theorem look_index : Extern.allGenericRows.lookup "internal/bytealg.IndexByteString" = none ∧ Extern.allTypedRows.lookup "internal/bytealg.IndexByteString" = none ∧ Extern.allNextRows.lookup "internal/bytealg.IndexByteString" = none ∧ Extern.allRows.lookup "internal/bytealg.IndexByteString" = some Extern.BytealgIndexByte.indexByte := by
  refine ⟨?_, ?_, ?_, ?_⟩ <;> kernel_rfl
theorem look_count : Extern.allGenericRows.lookup "internal/bytealg.CountString" = none ∧ Extern.allTypedRows.lookup "internal/bytealg.CountString" = none ∧ Extern.allNextRows.lookup "internal/bytealg.CountString" = none ∧ Extern.allRows.lookup "internal/bytealg.CountString" = some Extern.BytealgCount.count := by
  refine ⟨?_, ?_, ?_, ?_⟩ <;> kernel_rfl
theorem look_mnz : Extern.allGenericRows.lookup "internal/bytealg.MakeNoZero" = none ∧ Extern.allTypedRows.lookup "internal/bytealg.MakeNoZero" = some Extern.BytealgMakeNoZero.makeNoZero ∧ Extern.allNextRows.lookup "internal/bytealg.MakeNoZero" = none := by
  refine ⟨?_, ?_, ?_⟩ <;> kernel_rfl
def isN (fn : Func) (nm : String) : Bool := fn.name == nm && fn.origin == "" && fn.body.isNone
theorem isN_ok {fn : Func} {nm : String} (h : isN fn nm = true) : fn.name = nm ∧ fn.origin = "" ∧ fn.body.isNone = true := by
  simp only [isN, Bool.and_eq_true, beq_iff_eq] at h
  exact ⟨h.1.1, h.1.2, h.2⟩
theorem run_ext {f : FuncId} {fn : Func} {e : Array Value → Sem Value} {nm : String} (hf : G.funcs[f]? = some fn) (hi : isN fn nm = true) (hne : (nm == "runtime.NumGoroutine") = false) (hn : Extern.findNext fn = none) (he : Extern.find fn = some e) (args : Array Value) {z : Value} {w' : World} (hr : (e args).run G w = .ok z w') :
    (callFunc f args).run G w = .ok (.value z) w' := by
  obtain ⟨h1, h2, h3⟩ := isN_ok hi
  rw [run_callFunc_extern hf (by rw [h1]; exact hne) h3 hn he, hr]; rfl
/-- the bytes of a string that is written out -/
noncomputable def natsO (s : List SI) : Option (List Nat) := mapO (fun e => match e with | .lit (.ofNat n) => (match Nat.ble n 255 with | true => some n | false => none) | _ => none) s
theorem natsO_ok {σ : Nat → Int} : ∀ {s : List SI} {ns : List Nat} {us : List UInt8}, natsO s = some ns → us.map (fun b => (b.toNat : Int)) = s.map (SI.ev σ) → us.map UInt8.toNat = ns
  | [], ns, us, h, hu => by cases h; cases us with | nil => rfl | cons a us => simp at hu
  | e :: s, ns, us, h, hu => by
    obtain ⟨b, bs, h1, h2, rfl⟩ := mapO_cons _ _ _ h
    cases us with
    | nil => simp at hu
    | cons a us =>
      simp only [List.map_cons, List.cons.injEq] at hu
      split at h1
      · split at h1
        · cases h1
          rw [List.map_cons, natsO_ok h2 hu.2]
          have := hu.1
          simp only [SI.ev, Int.ofNat_eq_natCast] at this
          congr 1
          exact_mod_cast this
        · cases h1
      · cases h1
noncomputable def idxN (c : Nat) (ns : List Nat) : Nat → Option Nat := List.rec (fun _ => none) (fun a _ ih i => Bool.rec (ih (Nat.succ i)) (some i) (Nat.beq a c)) ns
noncomputable def cntN (c : Nat) (ns : List Nat) : Nat := List.rec 0 (fun a _ ih => Bool.rec ih (Nat.succ ih) (Nat.beq a c)) ns
theorem u8_beq (a c : UInt8) : (a == c) = Nat.beq a.toNat c.toNat := by
  rw [beqN, Bool.eq_iff_iff, beq_iff_eq, decide_eq_true_iff]
  exact ⟨fun h => by rw [h], fun h => UInt8.toNat_inj.1 h⟩
theorem idxN_ok (c : UInt8) : ∀ (us : List UInt8) (i : Nat), (idxN c.toNat (us.map UInt8.toNat) i = none ∧ Lib.indexByte us c = -1) ∨ ∃ j : Nat, idxN c.toNat (us.map UInt8.toNat) i = some (i + j) ∧ Lib.indexByte us c = j
  | [], i => .inl ⟨rfl, rfl⟩
  | a :: us, i => by
    have e : idxN c.toNat ((a :: us).map UInt8.toNat) i = (Bool.rec (idxN c.toNat (us.map UInt8.toNat) (i + 1)) (some i) (Nat.beq a.toNat c.toNat) : Option Nat) := rfl
    rw [e, ← u8_beq]
    unfold Lib.indexByte
    cases hb : (a == c) with
    | true => exact .inr ⟨0, rfl, rfl⟩
    | false =>
      rcases idxN_ok c us (i + 1) with ⟨h1, h2⟩ | ⟨j, h1, h2⟩
      · left
        refine ⟨h1, ?_⟩
        rw [h2]; rfl
      · right
        refine ⟨j + 1, ?_, ?_⟩
        · show idxN c.toNat (us.map UInt8.toNat) (i + 1) = _
          rw [h1]; congr 1; omega
        · rw [h2]
          have : ((j : Int) == -1) = false := by rw [beq_eq_false_iff_ne]; omega
          rw [this]; simp
theorem cntN_ok (c : UInt8) : ∀ (us : List UInt8), cntN c.toNat (us.map UInt8.toNat) = us.count c
  | [] => rfl
  | a :: us => by
    have e : cntN c.toNat ((a :: us).map UInt8.toNat) = (Bool.rec (cntN c.toNat (us.map UInt8.toNat)) (Nat.succ (cntN c.toNat (us.map UInt8.toNat))) (Nat.beq a.toNat c.toNat) : Nat) := rfl
    rw [e, ← u8_beq, List.count_cons, cntN_ok c us]
    cases (a == c) <;> rfl
/-- an entry that looks at no memory -/
noncomputable def extO (fn : Func) (args : List AV) : Option AV := match args with
  | [x] => match isN fn "internal/abi.NoEscape" with
    | true => some x
    | false => none
  | [.str s, .int .u8 (.lit (.ofNat c))] => match natsO s, Nat.ble c 255 with
    | some ns, true => match isN fn "internal/bytealg.IndexByteString" with
      | true => some (.int .i64 (.lit (match idxN c ns 0 with | some i => .ofNat i | none => .negSucc 0)))
      | false => match isN fn "internal/bytealg.CountString" with
        | true => some (.int .i64 (.lit (.ofNat (cntN c ns))))
        | false => none
    | _, _ => none
  | _ => none
theorem extO_ok {f : FuncId} {fn : Func} (hf : G.funcs[f]? = some fn) {args : List AV} {xs : List Value} (hx : VRs E args xs) {v : AV} (h : extO fn args = some v) : ∃ z, (callFunc f xs.toArray).run G w = .ok (.value z) w ∧ VR E v z := by
  unfold extO at h
  split at h
  · split at h
    · rename_i hi
      cases h
      cases hx with
      | cons hx hs =>
        cases hs
        obtain ⟨h1, h2, _⟩ := isN_ok hi
        obtain ⟨a, b, c, d⟩ := look_noEscape
        exact ⟨_, run_ext hf hi (by decide) (by simp [Extern.findNext, h1, h2, c, look_empty]) (by simp [Extern.find, h1, a, b, d]) _ (Lib.run_noEscape w _), hx⟩
    · cases h
  · rename_i s c
    split at h
    · rename_i ns hns hc
      have hc := Nat.le_of_ble_eq_true hc
      cases hx with
      | cons hs hx =>
        cases hx with
        | cons hc' hx =>
          cases hx
          cases hs with
          | str hs =>
            rename_i ba
            cases hc'
            have hns := natsO_ok hns hs
            have h8 : ((Int.toNat (SI.ev E.σ (.lit (.ofNat c)))).toUInt8).toNat = c := by simp [SI.ev]; omega
            split at h
            · rename_i hi
              cases h
              obtain ⟨h1, h2, _⟩ := isN_ok hi
              obtain ⟨a, b, c1, d⟩ := look_index
              refine ⟨_, run_ext hf hi (by decide) (by simp [Extern.findNext, h1, h2, c1, look_empty]) (by simp [Extern.find, h1, a, b, d]) _ (Lib.run_indexByteString ba _ w), ?_⟩
              have := idxN_ok (Int.toNat (SI.ev E.σ (.lit (.ofNat c)))).toUInt8 ba.data.toList 0
              rw [h8, hns] at this
              rcases this with ⟨h3, h4⟩ | ⟨j, h3, h4⟩
              · rw [h3, h4]; exact .int .i64 (.lit (-1))
              · rw [h3, h4, Nat.zero_add]; exact .int .i64 (.lit j)
            · split at h
              · rename_i hi
                cases h
                obtain ⟨h1, h2, _⟩ := isN_ok hi
                obtain ⟨a, b, c1, d⟩ := look_count
                refine ⟨_, run_ext hf hi (by decide) (by simp [Extern.findNext, h1, h2, c1, look_empty]) (by simp [Extern.find, h1, a, b, d]) _ (Lib.run_countString ba _ w), ?_⟩
                have := cntN_ok (Int.toNat (SI.ev E.σ (.lit (.ofNat c)))).toUInt8 ba.data.toList
                rw [h8, hns] at this
                rw [this]
                exact .int .i64 (.lit _)
              · cases h
    · cases h
  · cases h
/-- new bytes, whatever they are -/
noncomputable def mnzO (G : Program) (fn : Func) (args : List AV) : Option (AObj × (P → AV)) := match args with
  | [.int .i64 (.lit (.ofNat n))] => match isN fn "internal/bytealg.MakeNoZero", Nat.ble n 1000000 with
    | true, true => match fn.resultTypes.toList with
      | [t] => match G.underlying t with
        | some (.slice e) => match Nat.beq (G.cellsOf e) 1 with
          | true => some (.cells (repA n [.top]) e true, fun l => .sl l 0 n (.op 0))
          | false => none
        | _ => none
      | _ => none
    | _, _ => none
  | _ => none
theorem tops (E : Env) : ∀ (vs : List Value), VRs E (repA vs.length [.top]) vs
  | [] => .nil
  | v :: vs => .cons (.top v) (tops E vs)
theorem mnzO_ok {f : FuncId} {fn : Func} (hf : G.funcs[f]? = some fn) {args : List AV} {xs : List Value} (hx : VRs E args xs) {o : AObj} {mk : P → AV} (h : mnzO G fn args = some (o, mk)) :
    ∃ ob x n c, (callFunc f xs.toArray).run G w = .ok (.value x) { w with heap := w.heap.push ob, drawn := w.drawn + n } ∧ ∀ E' l, E.le E' → E'.ρ l = some (w.heap.size, c) → OR G E' c o ob ∧ VR E' (mk l) x := by
  unfold mnzO at h
  split at h
  · rename_i n
    split at h
    · rename_i hi hn
      have hn := Nat.le_of_ble_eq_true hn
      split at h
      · rename_i t ht
        split at h
        · rename_i e hu
          split at h
          · rename_i hc
            cases h
            have hc := Nat.eq_of_beq_eq_true hc
            have hts : fn.resultTypes = #[t] := by apply Array.ext'; simpa using ht
            cases hx with
            | cons hx hs =>
              cases hs
              cases hx
              obtain ⟨h1, h2, _⟩ := isN_ok hi
              obtain ⟨a, b, c1⟩ := look_mnz
              obtain ⟨cs, hrun, hle, _⟩ := Lib.run_makeNoZero (P := G) w fn.params t e hu n (by omega)
              rw [← hts] at hrun
              refine ⟨.cells cs e, _, 2, cs.size, run_ext hf hi (by decide) (by simp [Extern.findNext, h1, h2, c1, look_empty]) (by simp [Extern.find, h1, a, b]) _ hrun, fun E' l hle' he => ⟨?_, ?_⟩⟩
              · have hl : (cs.toList.take n).length = n := by rw [List.length_take, Array.length_toList]; omega
                have := tops E' (cs.toList.take n)
                rw [hl] at this
                exact .cells (pre := cs.toList.take n) (rest := cs.toList.drop n) this (List.take_append_drop n _).symm (fun h => by cases h) (fun _ => by rw [hc, Nat.mul_one]) (.inl rfl)
              · exact .sl he (fun _ => rfl) hle rfl
          · cases h
        · cases h
      · cases h
    · cases h
  · cases h
end
end Go.Ai

/- What one operation comes to, on abstract values. -/
namespace Go.Ai
open Go Go.RowKit
set_option linter.unusedVariables false
inductive K3 where
  | rd (v : AV)
  | al (o : AObj) (mk : P → AV)
  | wv (v : AV) (H : Hp)
  | wu (H : Hp)
  | call (f : FuncId) (args : List AV)
  | yield (l : P) (args : List AV)
  | defer (f : FuncId) (args cap : List AV)
  | recover
  | pan (v : AV)
  | sel (v : AV)
  | err (n : Nat)
def K3.ofR (n : Nat) : Option AV → K3
  | some v => .rd v
  | none => .err n
def K3.ofA (n : Nat) : Option (AObj × (P → AV)) → K3
  | some (o, mk) => .al o mk
  | none => .err n
def K3.ofP (n : Nat) : Option AObj → K3
  | some o => .al o (fun l => .ptr l 0)
  | none => .err n
def K3.ofW (n : Nat) : Option (AV × Hp) → K3
  | some (v, H) => .wv v H
  | none => .err n
def K3.ofU (n : Nat) : Option Hp → K3
  | some H => .wu H
  | none => .err n
def hasBody (G : Program) (f : FuncId) : Bool := match G.funcs[f]? with
  | some fn => !(fn.name == "runtime.NumGoroutine") && fn.body.isSome
  | none => false
/-- operands that may lack -/
noncomputable def evOpt (ev : Operand → Option AV) : Option Operand → Option (Option AV)
  | none => some none
  | some x => match ev x with
    | some v => some (some v)
    | none => none
noncomputable def partsO (ev : Operand → Option AV) (ps : List (Nat × Operand)) : Option (List (Nat × AV)) :=
  mapO (fun p => match ev p.2 with | some v => some (p.1, v) | none => none) ps
def min2O (x y : AV) : Option AV := match x, y with
  | .int k (.lit a), .int _ (.lit b) => some (.int k (.lit (match ltI b a with | true => b | false => a)))
  | _, _ => none
def minO (l : List AV) : Option AV := match l with
  | [x, y] => min2O x y
  | _ => none
/-- a new block, as a write -/
noncomputable def mkW (ob : AObj) (mk : P → AV) (H : Hp) : K3 := P.nextK H.nx (fun nx' => PT.putK H.nx H.tab (some ob) (fun t => .wv (mk H.nx) ⟨nx', t⟩))
noncomputable def extK (G : Program) (f : FuncId) (args : List AV) (H : Hp) : K3 := match G.funcs[f]? with
  | some fn => match extO fn args with
    | some v => .rd v
    | none => match mnzO G fn args with
      | some (ob, mk) => mkW ob mk H
      | none => .err 21
  | none => .err 21
noncomputable def callK (G : Program) (cf : Cf) (c : Call) (ev : Operand → Option AV) (H : Hp) : K3 :=
  match mapO ev c.args.toList with
  | none => .err 20
  | some args => match c.callee with
    | .value f => match ev f with
      | some (.fn (.func f) first cap) => match hasBody G f with
        | true => .call f ((first ++ args) ++ cap)
        | false => extK G f ((first ++ args) ++ cap) H
      | some (.fn (.yield l) first _) => .yield l (first ++ args)
      | _ => .err 22
    | .invoke _ _ => .err 23
    | .builtin b => match b with
      | .append => match c.argTypes.toList, args with
        | [t, xt], [s, x] => appendK G t xt s x H (K3.ofW 24)
        | _, _ => .err 25
      | .copy => match c.argTypes.toList, args with
        | [t, _], [d, s] => copyK G t d s H (K3.ofW 26)
        | _, _ => .err 27
      | .delete => match c.argTypes.toList, args with
        | [t, _], [m, k] => mapDelK cf G t m k H (K3.ofW 28)
        | _, _ => .err 29
      | .len => match c.argTypes.toList, args with
        | [t], [x] => K3.ofR 30 (lenO G H.tab t x)
        | _, _ => .err 31
      | .min => K3.ofR 32 (minO args)
      | .cap => match c.argTypes.toList, args with
        | [t], [x] => K3.ofR 35 (capO' G t x)
        | _, _ => .err 35
      | .unsafeSliceData => match c.argTypes.toList, args with
        | [t], [x] => K3.ofR 36 (sdO x)
        | _, _ => .err 36
      | .unsafeString => match c.argTypes.toList, args with
        | [t, _], [p, n] => ustrK cf G t p n H (K3.ofW 37)
        | _, _ => .err 37
      | .close => match args with
        | [.chan l] => match PT.get l H.tab with
          | some (.chan false) => PT.putK l H.tab (some (.chan true)) (fun t => .wv (.tup []) ⟨H.nx, t⟩)
          | _ => .err 34
        | _ => .err 34
      | .recover => .recover
      | _ => .err 33
/-- a select of one receive, with a default: the channel has no buffered value -/
noncomputable def selK (G : Program) (cases : List SelectCase) (ev : Operand → Option AV) (H : Hp) : K3 := match cases with
  | [s] => match s.send with
    | none => match ev s.chan with
      | some (.chan l) => match PT.get l H.tab with
        | some (.chan cl) => match zeroO G s.elem with
          | some z => .sel (.tup [.int .i64 (.lit (Bool.rec (.negSucc (nat_lit 0)) (.ofNat (nat_lit 0)) cl)), .bool false, z])
          | none => .err 51
        | _ => .err 51
      | _ => .err 51
    | some _ => .err 51
  | _ => .err 51
/-- two nils of an interface's type: one of them the literal -/
def litOp : Operand → Operand → Bool
  | .const _, _ => true
  | _, .const _ => true
  | _, _ => false
def nilSame (G : Program) (op : BinOp) (t : TypeId) (xo yo : Operand) : Option Bool := match G.underlying t, litOp xo yo, op with
  | some (.interface _), true, .eql => some true
  | some (.interface _), true, .neq => some false
  | _, _, _ => none
noncomputable def binOpN {R : Type} (cf : Cf) (G : Program) (op : BinOp) (t : TypeId) (xo yo : Operand) (x y : AV) (K : Option AV → R) : R := match x with
  | .if0 => match y with
    | .if0 => match nilSame G op t xo yo with
      | some r => K (some (.bool r))
      | none => K none
    | _ => binOpK cf G op t x y K
  | _ => binOpK cf G op t x y K
/-- a slice of bytes to its own type: the row gets a mark behind its end -/
noncomputable def slcO (G : Program) (tab : PT AObj) (s d : TypeId) (v : AV) : Bool := match v with
  | .sl l _ len _ => match Nat.beq s d, Nat.ble 1 len, PT.get l tab with
    | true, true, some (.cells _ _ _) => match G.underlying s with
      | some (.slice e) => match G.underlying e with
        | some (.int .u8) => true
        | _ => false
      | _ => false
    | _, _, _ => false
  | _ => false
noncomputable def cvtK (G : Program) (cf : Cf) (s d : TypeId) (v : AV) (H : Hp) : K3 := match slcO G H.tab s d v with
  | true => .wv v H
  | false => match v with
    | .ptr l o => K3.ofR 15 (unsO G H.tab s d (.ptr l o))
    | .str l => match G.underlying s, s2bO G d l with
      | some _, some (ob, mk) => mkW ob mk H
      | _, _ => convIK G cf H.tab s d (.str l) (K3.ofR 15)
    | v => convIK G cf H.tab s d v (K3.ofR 15)
noncomputable def opK (G : Program) (cf : Cf) (o : Oper) (ev : Operand → Option AV) (H : Hp) : K3 :=
  match o.op with
  | .move x => K3.ofR 1 (ev x)
  | .assign x => K3.ofR 1 (ev x)
  | .load t a => match ev a with | some p => K3.ofR 2 (loadG cf G H.tab t p) | none => .err 2
  | .fieldAddr s x f => match ev x with | some v => K3.ofR 3 (fieldAddrO G s v f) | none => .err 3
  | .binOp op t x y _ => match ev x, ev y with | some a, some b => binOpN cf G op t x y a b (K3.ofR 4) | _, _ => .err 4
  | .call c => callK G cf c ev H
  | .nilCheck x => match ev x with | some v => K3.ofR 5 (nilChkO v) | none => .err 5
  | .indexAddr t x i => match ev x, ev i with | some a, some b => K3.ofR 6 (indexAddrC cf G t a b) | _, _ => .err 6
  | .store t a x => match ev a, ev x with | some p, some v => storeK G t p v H (K3.ofU 7) | _, _ => .err 7
  | .pick c a b => match ev c with | some (.bool r) => K3.ofR 8 (Bool.rec (ev b) (ev a) r) | _ => .err 8
  | .extract t i => match ev t with | some v => K3.ofR 9 (extractO v i) | none => .err 9
  | .build t ps => match partsO ev ps.toList with | some ps => K3.ofR 10 (buildO G t ps) | none => .err 10
  | .buildSlice t n ps => match partsO ev ps.toList with | some ps => K3.ofA 11 (buildSlO G t n ps) | none => .err 11
  | .unOp op _ x => match ev x with | some v => unK cf op v (K3.ofR 12) | none => .err 12
  | .box t x => match ev x with | some v => K3.ofP 13 (boxO t v) | none => .err 13
  | .alloc t => K3.ofP 14 (allocO G t)
  | .convert s d x => match ev x with | some v => cvtK G cf s d v H | none => .err 15
  | .makeFunc (.func f) first cap => match mapO ev first.toList, mapO ev cap.toList with | some a, some b => .rd (.fn (.func f) a b) | _, _ => .err 16
  | .slice t x lo hi none => match ev x, evOpt ev lo, evOpt ev hi with | some v, some a, some b => K3.ofR 17 (sliceC cf G t v a b) | _, _, _ => .err 17
  | .slice t x lo hi (some m) => match ev x, evOpt ev lo, evOpt ev hi, ev m with | some v, some a, some b, some c => K3.ofR 19 (slice3O G t v a b c) | _, _, _, _ => .err 19
  | .lookup t x k ok => match ev x, ev k with | some a, some b => K3.ofR 18 (lookO cf G H.tab t a b ok) | _, _ => .err 18
  | .index t x i => match ev x, ev i with | some a, some b => K3.ofR 19 (indexO G t a b) | _, _ => .err 19
  | .panic x => match ev x with | some (.iface t v) => .pan (.iface t v) | _ => .err 40
  | .makeSlice t l c => match ev l, ev c with | some a, some b => K3.ofA 41 (makeC cf G t a b) | _, _ => .err 41
  | .mapUpdate t m k x => match ev m, ev k, ev x with | some m, some k, some v => mapPutK cf G t m k v H (K3.ofU 42) | _, _, _ => .err 42
  | .insert t m k x => match ev m, ev k, ev x with | some m, some k, some v => mapPutK cf G t m k v H (K3.ofU 42) | _, _, _ => .err 42
  | .range t x => match ev x with | some v => K3.ofA 47 (rangeO G H.tab t v) | none => .err 47
  | .next it s => match ev it with | some v => nextK v s H (K3.ofW 48) | none => .err 48
  | .entry it => match ev it with | some v => K3.ofR 49 (entryO H.tab v) | none => .err 49
  | .makeInterface t x => match ev x with | some v => K3.ofR 43 (mkIfaceO G t v) | none => .err 43
  | .makeMap _ none => .al (.map [] 0) .map
  | .defer c => match mapO ev c.args.toList, c.callee with
    | some args, .value f => match ev f with
      | some (.fn (.func f) first cap) => .defer f (first ++ args) cap
      | _ => .err 44
    | _, _ => .err 44
  | .typeAssert x xt t ok => match ev x with | some v => K3.ofR 45 (assertO G v xt t ok) | none => .err 45
  | .field t x f => match ev x with | some v => K3.ofR 46 (fieldO G t v f) | none => .err 46
  | .makeChan t n => match ev n with | some v => K3.ofA 52 (makeChanO G t v) | none => .err 52
  | .select cases blocking => match blocking with
    | false => selK G cases.toList ev H
    | true => .err 51
  | _ => .err 50
section
variable {G : Program} {W0 : World} {E : Env} {nx : Nat} {w : World} {cf : Cf}
def OpR (G : Program) (W0 : World) (E : Env) (H : Hp) (w : World) (s : Sem Next) : K3 → Prop
  | .rd v => ∃ x, s.run G w = .ok (.value x) w ∧ VR E v x
  | .al obj mk => ∃ ob x n c, s.run G w = .ok (.value x) { w with heap := w.heap.push ob, drawn := w.drawn + n } ∧ ∀ E' l, E.le E' → E'.ρ l = some (w.heap.size, c) → OR G E' c obj ob ∧ VR E' (mk l) x
  | .wv v H' => ∃ z w' E', s.run G w = .ok (.value z) w' ∧ Mv G W0 E H.f H.nx.toNat w E' H'.f H'.nx.toNat w' ∧ VR E' v z
  | .wu H' => ∃ w' E', s.run G w = .ok .skip w' ∧ Mv G W0 E H.f H.nx.toNat w E' H'.f H'.nx.toNat w'
  | .call f args => ∃ xs : List Value, s.run G w = .ok (.enter f xs.toArray) w ∧ VRs E args xs
  | .yield l args => ∃ b c, ∃ xs : List Value, E.ρ l = some (b, c) ∧ s.run G w = (Instr.yield b xs.toArray).run G w ∧ VRs E args xs
  | .defer f args cap => ∃ xs ys : List Value, s.run G w = .ok (.defer { target := .fn (.func f) ys.toArray, args := xs.toArray }) w ∧ VRs E args xs ∧ VRs E cap ys
  | .recover => s.run G w = .ok .recover w
  | .pan v => ∃ x, s.run G w = .halt (.panic x) w ∧ VR E v x
  | .sel v => ∃ c z cap sn rc cl tm, s.run G w = .ok (.comm #[Conc.rcase c z] false .select) w ∧ w.heap[c]? = some (.chan cap #[] cl sn rc tm) ∧ VR E v (.tuple #[goInt (Bool.rec (-1) 0 cl), .bool false, z])
  | .err _ => True
theorem valRun {s : Sem Value} {z : Value} {w' : World} (h : s.run G w = .ok z w') : (do pure (.value (← s)) : Sem Next).run G w = .ok (.value z) w' := by simp [h]
theorem OpR.ofR {H : Hp} {s : Sem Value} {n : Nat} {r : Option AV} (h : ∀ v, r = some v → ∃ z, s.run G w = .ok z w ∧ VR E v z) : OpR G W0 E H w (do pure (.value (← s))) (K3.ofR n r) := by
  cases r with
  | none => trivial
  | some v => obtain ⟨z, h1, h2⟩ := h v rfl; exact ⟨z, valRun h1, h2⟩
theorem OpR.ofA {H : Hp} {s : Sem Value} {n : Nat} {r : Option (AObj × (P → AV))} (h : ∀ o mk, r = some (o, mk) → AlR G E w o mk s) : OpR G W0 E H w (do pure (.value (← s))) (K3.ofA n r) := by
  cases r with
  | none => trivial
  | some p => obtain ⟨o, mk⟩ := p; obtain ⟨ob, x, k, c, h1, h2⟩ := h o mk rfl; exact ⟨ob, x, k, c, valRun h1, h2⟩
theorem OpR.ofP {H : Hp} {s : Sem Value} {n : Nat} {r : Option AObj} (h : ∀ o, r = some o → AlR G E w o (fun l => .ptr l 0) s) : OpR G W0 E H w (do pure (.value (← s))) (K3.ofP n r) := by
  cases r with
  | none => trivial
  | some o => obtain ⟨ob, x, k, c, h1, h2⟩ := h o rfl; exact ⟨ob, x, k, c, valRun h1, h2⟩
theorem OpR.ofW {H : Hp} {s : Sem Value} {n : Nat} {r : Option (AV × Hp)} (h : AppR G W0 E H w r s) : OpR G W0 E H w (do pure (.value (← s))) (K3.ofW n r) := by
  cases r with
  | none => trivial
  | some p => obtain ⟨v, H'⟩ := p; obtain ⟨z, w', E', h1, h2, h3⟩ := h v H' rfl; exact ⟨z, w', E', valRun h1, h2, h3⟩
theorem OpR.ofU {H : Hp} {s : Sem Unit} {n : Nat} {r : Option Hp} (h : AppU G W0 E H w r s) : OpR G W0 E H w (do s; pure .skip) (K3.ofU n r) := by
  cases r with
  | none => trivial
  | some H' => obtain ⟨w', E', h1, h2⟩ := h H' rfl; exact ⟨w', E', by simp [h1], h2⟩
theorem mkW_ok {H : Hp} (hr : HR G W0 E H.f H.nx.toNat w) {s : Sem Next} {o : AObj} {mk : P → AV} (h : ∃ ob x n c, s.run G w = .ok (.value x) { w with heap := w.heap.push ob, drawn := w.drawn + n } ∧ ∀ E' l, E.le E' → E'.ρ l = some (w.heap.size, c) → OR G E' c o ob ∧ VR E' (mk l) x) :
    OpR G W0 E H w s (mkW o mk H) := by
  obtain ⟨ob, x, n, c, hz, hal⟩ := h
  unfold mkW
  rw [P.nextK_eq, PT.putK_eq]
  have hnone : E.ρ H.nx = none := by
    cases hρ : E.ρ H.nx with
    | none => rfl
    | some y => exact absurd (hr.dom _ _ hρ) (by omega)
  have hE := Env.le_add (x := (w.heap.size, c)) hnone
  obtain ⟨hor, hvr⟩ := hal _ H.nx hE (Env.add_same _ _ _)
  have mv := Mv.new hr hnone (nx' := (P.next H.nx).toNat) (by rw [P.toNat_next]; omega) (by rw [P.toNat_next]; omega) c hor (Nat.le_refl _)
  have mv2 := mv.trans (Mv.same (w' := { w with heap := w.heap.push ob, drawn := w.drawn + n }) mv.hr rfl rfl rfl rfl)
  refine ⟨x, _, _, hz, ?_, hvr⟩
  have : Hp.f ⟨P.next H.nx, PT.put H.nx H.tab (some o)⟩ = upd H.f H.nx (some o) := put_upd _ _ _
  rw [this]; exact mv2
theorem parts_ok {ev : Operand → Option AV} {ρ : Operand → Value} (h : EvR E ev ρ) : ∀ (l : List (Nat × Operand)) {r : List (Nat × AV)}, partsO ev l = some r → PR E r (l.map fun (i, x) => (i, ρ x))
  | [], r, e => by cases e; exact .nil
  | (i, x) :: l, r, e => by
    obtain ⟨b, bs, h1, h2, rfl⟩ := mapO_cons _ _ _ e
    split at h1
    · rename_i v hv; cases h1; exact .cons (h x v hv) (parts_ok h l h2)
    · cases h1
theorem evOpt_ok {ev : Operand → Option AV} {ρ : Operand → Value} (h : EvR E ev ρ) {x : Option Operand} {r : Option AV} (e : evOpt ev x = some r) : OV E r (x.map ρ) := by
  cases x with
  | none => cases e; exact .none
  | some x =>
    cases hv : ev x with
    | none => simp [evOpt, hv] at e
    | some v => simp [evOpt, hv] at e; subst e; exact .some (h x v hv)
theorem hasBody_run {f : FuncId} (h : hasBody G f = true) (args : Array Value) : (callFunc f args).run G w = .ok (.enter f args) w := by
  unfold hasBody at h
  split at h
  · rename_i fn hf
    simp only [Bool.and_eq_true, Bool.not_eq_true'] at h
    obtain ⟨h1, h2⟩ := h
    have h3 : fn.name ≠ "runtime.NumGoroutine" := beq_eq_false_iff_ne.1 h1
    have h4 : fn.body ≠ none := fun e => by rw [e] at h2; cases h2
    simp [callFunc, hf, h3, h4]
  · cases h
theorem VRs.arr {E : Env} {as : List AV} {a : Array Value} (h : VRs E as a.toList) : ∃ xs : List Value, a = xs.toArray ∧ VRs E as xs := ⟨a.toList, by simp, h⟩
theorem len_eq_two {α : Type} {a : Array α} {x y : α} (h : a.toList = [x, y]) : a = #[x, y] := by apply Array.ext'; simpa using h
theorem len_eq_one {α : Type} {a : Array α} {x : α} (h : a.toList = [x]) : a = #[x] := by apply Array.ext'; simpa using h
theorem min2O_ok {x y v : AV} {x' y' : Value} (hx : VR E x x') (hy : VR E y y') (h : min2O x y = some v) : ∃ z, (Builtin.min2 x' y').run G w = .ok z w ∧ VR E v z := by
  unfold min2O at h
  split at h
  · rename_i k a k' b
    cases hx; cases hy
    cases h
    refine ⟨.int k (if b < a then b else a), rfl, ?_⟩
    rw [ltI_eq]
    by_cases hlt : b < a
    · simp only [hlt, decide_true, if_true]; exact .int k (.lit b)
    · simp only [hlt, decide_false, if_false]; exact .int k (.lit a)
  · cases h
theorem callK_ok (hcf : cf.ok E.σ) {H : Hp} (hr : HR G W0 E H.f H.nx.toNat w) {c : Call} {ty : TypeId} {ev : Operand → Option AV} {ρ : Operand → Value} (hev : EvR E ev ρ) :
    OpR G W0 E H w (do let d ← resolve ρ c ty; invoke d.target d.args) (callK G cf c ev H) := by
  unfold callK
  cases hargs : mapO ev c.args.toList with
  | none => trivial
  | some args =>
    have hvs := mapO_ev hev _ hargs
    have hmap : (c.args.map ρ).toList = c.args.toList.map ρ := by simp
    simp only
    cases hc : c.callee with
    | invoke r nm => trivial
    | value f =>
      simp only
      split
      · rename_i g first cap hf
        have hfv := hev f _ hf
        split
        · rename_i hb
          generalize hρ : ρ f = fv at hfv
          cases hfv with
          | fn hfn h1 h2 =>
            cases hfn with
            | func =>
              rename_i first' cap'
              refine ⟨(first' ++ c.args.toList.map ρ) ++ cap', ?_, (h1.append hvs).append h2⟩
              simp only [resolve, hc, hρ, Deferred.ofValue, Sem.run_bind, Sem.run_pure, Result.andThen_ok, invoke]
              rw [hasBody_run hb]
              congr 2
              apply Array.ext'; simp
        · generalize hρ : ρ f = fv at hfv
          cases hfv with
          | fn hfn h1 h2 =>
            cases hfn with
            | func =>
              rename_i first' cap'
              have hxs := (h1.append hvs).append h2
              have heq : (do let d ← resolve ρ c ty; invoke d.target d.args : Sem Next).run G w = (callFunc g ((first' ++ c.args.toList.map ρ) ++ cap').toArray).run G w := by
                simp only [resolve, hc, hρ, Deferred.ofValue, Sem.run_bind, Sem.run_pure, Result.andThen_ok, invoke]
                congr 2
                apply Array.ext'; simp
              unfold extK
              split
              · rename_i fn hfn'
                split
                · rename_i v hv
                  obtain ⟨z, hz, hvz⟩ := extO_ok (w := w) hfn' hxs hv
                  exact ⟨z, heq.trans hz, hvz⟩
                · cases hm : mnzO G fn ((first ++ args) ++ cap) with
                  | none => trivial
                  | some p =>
                    obtain ⟨o, mk⟩ := p
                    obtain ⟨ob, x, n, c', hz, hal⟩ := mnzO_ok (w := w) hfn' hxs hm
                    exact mkW_ok hr ⟨ob, x, n, c', heq.trans hz, hal⟩
              · trivial
      · rename_i l first cap hf
        have hfv := hev f _ hf
        generalize hρ : ρ f = fv at hfv
        cases hfv with
        | fn hfn h1 h2 =>
          cases hfn with
          | yield e =>
            rename_i first' cap' b c'
            refine ⟨b, c', first' ++ c.args.toList.map ρ, e, ?_, h1.append hvs⟩
            simp only [resolve, hc, hρ, Deferred.ofValue, Sem.run_bind, Sem.run_pure, Result.andThen_ok, invoke]
            congr 2
            apply Array.ext'; simp
      · trivial
    | builtin b =>
      have hres : ∀ (b : Builtin), c.callee = .builtin b → (do let d ← resolve ρ c ty; invoke d.target d.args : Sem Next).run G w = (builtin b c.argTypes ty (c.args.map fun | .const _ => true | _ => false) (c.args.map ρ)).run G w := by
        intro b hb
        simp only [resolve, hb, Sem.run_bind, Sem.run_pure, Result.andThen_ok, invoke]
        rfl
      have two : ∀ {x y : AV} {t u : TypeId}, c.argTypes.toList = [t, u] → args = [x, y] → ∃ x' y', c.args.map ρ = #[x', y'] ∧ VR E x x' ∧ VR E y y' ∧ c.argTypes = #[t, u] := by
        intro x y t u h1 h2
        subst h2
        cases hl : c.args.toList.map ρ with
        | nil => rw [hl] at hvs; cases hvs
        | cons a l =>
          rw [hl] at hvs
          cases hvs with
          | cons ha hs =>
            cases hs with
            | cons hb hs =>
              cases hs
              exact ⟨_, _, len_eq_two (hmap.trans hl), ha, hb, len_eq_two h1⟩
      have one : ∀ {x : AV} {t : TypeId}, c.argTypes.toList = [t] → args = [x] → ∃ x', c.args.map ρ = #[x'] ∧ VR E x x' ∧ c.argTypes = #[t] := by
        intro x t h1 h2
        subst h2
        cases hl : c.args.toList.map ρ with
        | nil => rw [hl] at hvs; cases hvs
        | cons a l =>
          rw [hl] at hvs
          cases hvs with
          | cons ha hs => cases hs; exact ⟨_, len_eq_one (hmap.trans hl), ha, len_eq_one h1⟩
      have lift : ∀ {s : Sem Value} {k : K3} {b : Builtin}, c.callee = .builtin b → (builtin b c.argTypes ty (c.args.map fun | .const _ => true | _ => false) (c.args.map ρ)) = (do pure (.value (← s))) → OpR G W0 E H w (do pure (.value (← s))) k → OpR G W0 E H w (do let d ← resolve ρ c ty; invoke d.target d.args) k := by
        intro s k b hb he hk
        have hh := hres b hb
        rw [he] at hh
        cases k <;> simp only [OpR] at hk ⊢ <;> first | (rw [hh]; exact hk) | trivial
      simp only
      cases b <;> try exact trivial
      case append =>
        simp only
        split
        · rename_i t xt s x h1
          obtain ⟨s', x', ha, hs, hx, hT⟩ := two h1 rfl
          obtain ⟨r, hr1, hr2⟩ := appendK_ok (R := K3) (xt := xt) hr hs hx ty (K3.ofW 24)
          rw [hr1]
          exact lift hc (by rw [ha, hT]; rfl) (OpR.ofW hr2)
        · trivial
      case copy =>
        simp only
        split
        · rename_i t xt s x h1
          obtain ⟨s', x', ha, hs, hx, hT⟩ := two h1 rfl
          obtain ⟨r, hr1, hr2⟩ := copyK_ok (R := K3) (xt := xt) hr hs hx ty (K3.ofW 26)
          rw [hr1]
          exact lift hc (by rw [ha, hT]; rfl) (OpR.ofW hr2)
        · trivial
      case delete =>
        simp only
        split
        · rename_i t xt s x h1
          obtain ⟨s', x', ha, hs, hx, hT⟩ := two h1 rfl
          obtain ⟨r, hr1, hr2⟩ := mapDelK_ok (R := K3) (xt := xt) hcf hr hs hx ty (K3.ofW 28)
          rw [hr1]
          exact lift hc (by rw [ha, hT]; rfl) (OpR.ofW hr2)
        · trivial
      case len =>
        simp only
        split
        · rename_i t x h1
          obtain ⟨x', ha, hx, hT⟩ := one h1 rfl
          refine lift hc (s := Builtin.len_ #[t] ty #[x']) (by rw [ha, hT]; rfl) (OpR.ofR fun v hv => ?_)
          exact lenO_ok hr hx hv ty
        · trivial
      case min =>
        refine lift hc (s := Builtin.min_ c.argTypes ty (c.args.map ρ)) rfl (OpR.ofR fun v hv => ?_)
        unfold minO at hv
        split at hv
        · rename_i x y
          cases hl : c.args.toList.map ρ with
          | nil => rw [hl] at hvs; cases hvs
          | cons x' l =>
            rw [hl] at hvs
            cases hvs with
            | cons hx hs =>
              cases hs with
              | cons hy hs =>
                cases hs
                rw [len_eq_two (hmap.trans hl)]
                obtain ⟨z, h1, h2⟩ := min2O_ok (G := G) (w := w) hx hy hv
                exact ⟨z, by simp [Builtin.min_, h1], h2⟩
        · cases hv
      case cap =>
        simp only
        split
        · rename_i t x h1
          obtain ⟨x', ha, hx, hT⟩ := one h1 rfl
          exact lift hc (s := Builtin.cap_ #[t] ty #[x']) (by rw [ha, hT]; rfl) (OpR.ofR fun v hv => capO'_ok hx hv)
        · trivial
      case unsafeSliceData =>
        simp only
        split
        · rename_i t x h1
          obtain ⟨x', ha, hx, hT⟩ := one h1 rfl
          exact lift hc (s := Builtin.unsafeSliceData_ #[t] ty #[x']) (by rw [ha, hT]; rfl) (OpR.ofR fun v hv => sdO_ok hx hv)
        · trivial
      case unsafeString =>
        simp only
        split
        · rename_i t it p n h1
          obtain ⟨p', n', ha, hp, hn, hT⟩ := two h1 rfl
          obtain ⟨r, hr1, hr2⟩ := ustrK_ok (R := K3) (pt := t) (it := it) (ty := ty) hcf hr hp hn (K3.ofW 37)
          rw [hr1]
          exact lift hc (by rw [ha, hT]; rfl) (OpR.ofW hr2)
        · trivial
      case close =>
        simp only
        split
        · rename_i l
          split
          · rename_i hl
            cases hl0 : c.args.toList.map ρ with
            | nil => rw [hl0] at hvs; cases hvs
            | cons a q =>
              rw [hl0] at hvs
              cases hvs with
              | cons ha hs =>
                cases hs
                have hargs' := len_eq_one (hmap.trans hl0)
                obtain ⟨b, c', ob, e, _, hb, ho⟩ := hr.obj l _ hl
                cases ho with
                | chan =>
                  rename_i cap sn rc tm
                  cases ha with
                  | chan e' =>
                    rw [e] at e'; cases e'
                    have hmv := setObj_mv (ob := .chan cap #[] true sn rc tm) hr hl e hb (.chan (c := c') (cap := cap) (s := sn) (r := rc) (cl := true) (tm := tm))
                    rw [PT.putK_eq]
                    refine lift hc (s := Builtin.close_ c.argTypes ty (c.args.map ρ)) rfl ?_
                    refine ⟨.tuple #[], _, E, ?_, hmv, VR.tup (vs := []) .nil⟩
                    have hrun : (getObj b).run G w = .ok (.chan cap #[] false sn rc tm) w := by simp [getObj, Sem.run, hb]
                    have hset := setObj_run (G := G) (w := w) (o' := .chan cap #[] true sn rc tm) hb (by simp)
                    rw [hargs']
                    have hcl : ∃ F : Obj → Sem Value, Builtin.close_ c.argTypes ty #[Value.chan (some b)] = (getObj b >>= F) ∧ (F (.chan cap #[] false sn rc tm)).run G w = .ok (.tuple #[]) { w with heap := w.heap.setIfInBounds b (.chan cap #[] true sn rc tm) } := by
                      refine ⟨_, rfl, ?_⟩
                      simp [hset]
                    obtain ⟨F, hF1, hF2⟩ := hcl
                    have hfull : (Builtin.close_ c.argTypes ty #[Value.chan (some b)]).run G w = .ok (.tuple #[]) { w with heap := w.heap.setIfInBounds b (.chan cap #[] true sn rc tm) } := by
                      rw [hF1, Sem.run_bind, hrun]
                      exact hF2
                    exact valRun hfull
          · trivial
        · trivial
      case recover => exact hres _ hc
theorem nil_guard {op : BinOp} {t : TypeId} {xo yo : Operand} (h : litOp xo yo = true) : (eqGuard op t xo yo .nilIface .nilIface).run G w = .ok () w := by
  unfold eqGuard
  cases xo <;> cases yo <;> first | (simp [litOp] at h; done) | (cases op <;> rfl)
theorem nil_eq (d : Nat) {t : TypeId} {ms : Array (String × TypeId)} (hu : G.underlying t = some (.interface ms)) : (Op.equalIn (d + 1) t .nilIface .nilIface).run G w = .ok true w := by
  simp [Op.equalIn, run_underlying hu]
theorem nil_bin {t : TypeId} {ms : Array (String × TypeId)} (hu : G.underlying t = some (.interface ms)) : (binOp .eql t .nilIface .nilIface).run G w = .ok (.bool true) w ∧ (binOp .neq t .nilIface .nilIface).run G w = .ok (.bool false) w := by
  have h : (Op.equal t .nilIface .nilIface).run G w = .ok true w := nil_eq 9999 hu
  constructor <;> simp [binOp, h]
theorem binOpN_ok {R : Type} (hcf : cf.ok E.σ) {op : BinOp} {t : TypeId} {xo yo : Operand} {x y : AV} {x' y' : Value} (hx : VR E x x') (hy : VR E y y') (K : Option AV → R) :
    ∃ r, binOpN cf G op t xo yo x y K = K r ∧ ∀ v, r = some v → ∃ z, (do eqGuard op t xo yo x' y'; binOp op t x' y' : Sem Value).run G w = .ok z w ∧ VR E v z := by
  unfold binOpN
  split
  · split
    · cases hx; cases hy
      split
      · rename_i r hr
        refine ⟨_, rfl, fun v hv => ?_⟩
        cases hv
        unfold nilSame at hr
        split at hr
        · rename_i ms hu hl
          cases hr
          exact ⟨.bool true, by simp only [Sem.run_bind, nil_guard hl, Result.andThen_ok]; exact (nil_bin hu).1, .bool _⟩
        · rename_i ms hu hl
          cases hr
          exact ⟨.bool false, by simp only [Sem.run_bind, nil_guard hl, Result.andThen_ok]; exact (nil_bin hu).2, .bool _⟩
        · cases hr
      · exact ⟨none, rfl, fun v hv => by cases hv⟩
    · exact binOpK_ok hcf hx hy K
  · exact binOpK_ok hcf hx hy K
theorem freeze_run (w : World) (b k : Nat) {arr : Array Value} {ty : TypeId} {fz : Nat × Nat} (hb : w.heap[b]? = some (.cells arr ty fz)) : (w.freeze ⟨b, k, none⟩ 1).heap.size = w.heap.size ∧ (w.freeze ⟨b, k, none⟩ 1).heap[b]? = some (.cells arr ty (if fz.1 = fz.2 then (k, k + 1) else (min fz.1 k, max fz.2 (k + 1)))) ∧ (∀ i, i ≠ b → (w.freeze ⟨b, k, none⟩ 1).heap[i]? = w.heap[i]?) ∧ (w.freeze ⟨b, k, none⟩ 1).os = w.os ∧ (w.freeze ⟨b, k, none⟩ 1).tape = w.tape ∧ (w.freeze ⟨b, k, none⟩ 1).output = w.output := by
  unfold World.freeze
  rw [if_neg (by decide)]
  refine ⟨by simp, ?_, fun i hi => ?_, rfl, rfl, rfl⟩
  · simp only [Array.getElem?_modify, if_true, hb, Option.map_some]
    by_cases h : fz.1 = fz.2 <;> simp [h]
  · simp [Array.getElem?_modify]
    intro e; exact absurd e.symm hi
theorem slc_ok {H : Hp} (hr : HR G W0 E H.f H.nx.toNat w) {s d : TypeId} {v : AV} {x : Value} (hx : VR E v x) (h : slcO G H.tab s d v = true) : OpR G W0 E H w (do pure (.value (← convert s d x))) (.wv v H) := by
  unfold slcO at h
  split at h
  · rename_i l off len cap
    split at h
    · rename_i cs ty opn h1 h2 h3
      have h1 := Nat.eq_of_beq_eq_true h1
      have h2 := Nat.le_of_ble_eq_true h2
      subst h1
      split at h
      · rename_i e hu
        split at h
        · rename_i hu2
          have h3 : H.f l = some (.cells cs ty opn) := h3
          obtain ⟨b, c, arr, fz, pre, rest, e1, hge, hb, hv, ha, hop, hcc, hfz⟩ := hr.row h3
          have hx0 := hx
          cases hx with
          | sl e' haa hle hc =>
            rename_i a b' c' n
            rw [e1] at e'; cases e'
            have haa := haa (by omega)
            subst haa
            obtain ⟨f1, f2, f3, f4, f5, f6⟩ := freeze_run w b arr.size hb
            have hsh : w.shape? b = some (ty, arr.size) := by unfold World.shape?; rw [hb]
            refine ⟨.slice (some ⟨b, off, none⟩) len n, w.freeze ⟨b, arr.size, none⟩ 1, E, ?_, ?_, hx0⟩
            · simp [convert, run_underlying hu, run_underlying hu2, markStringish, hsh]
            · have hset := Mv.set hr h3 e1 (o := .cells cs ty opn) (.cells hv ha hop hcc (by
                unfold Fz at *
                by_cases h : fz.1 = fz.2
                · simp [h]
                · rw [if_neg h]
                  right
                  rcases hfz with hfz | hfz
                  · exact absurd hfz h
                  · simp only; omega)) f1 f2 f3 f4 f5 f6
              have hsame : upd H.f l (some (.cells cs ty opn)) = H.f := by
                funext q
                by_cases hq : q = l
                · subst hq; rw [upd_same]; exact h3.symm
                · rw [upd_other _ _ hq]
              rw [hsame] at hset
              exact hset
        · cases h
      · cases h
    · cases h
  · cases h
theorem opK_ok [GlOk cf.gl W0] (hcf : cf.ok E.σ) {H : Hp} (hr : HR G W0 E H.f H.nx.toNat w) {o : Oper} {ev : Operand → Option AV} {ρ : Operand → Value} (hev : EvR E ev ρ) : OpR G W0 E H w (execOp ρ o) (opK G cf o ev H) := by
  unfold opK execOp
  cases ho : o.op <;> simp only <;> try exact trivial
  case move x =>
    cases hx : ev x with
    | none => trivial
    | some v => exact ⟨ρ x, rfl, hev x v hx⟩
  case assign x =>
    cases hx : ev x with
    | none => trivial
    | some v => exact ⟨ρ x, rfl, hev x v hx⟩
  case pick c a b =>
    split
    · rename_i r hc
      have hcv := hev c _ hc
      have hb : ρ c = .bool r := by generalize ρ c = y at hcv; cases hcv; rfl
      cases r with
      | true =>
        cases ha : ev a with
        | none => trivial
        | some v => exact ⟨ρ a, by simp [hb, asBool], hev a v ha⟩
      | false =>
        cases ha : ev b with
        | none => trivial
        | some v => exact ⟨ρ b, by simp [hb, asBool], hev b v ha⟩
    · trivial
  case alloc t => exact OpR.ofP fun o h => allocO_ok h
  case box t x =>
    cases hx : ev x with
    | none => trivial
    | some v => exact OpR.ofP fun o h => boxO_ok (hev x v hx) h
  case build t ps =>
    cases hp : partsO ev ps.toList with
    | none => trivial
    | some qs => exact OpR.ofR fun v h => buildO_ok (by simpa using parts_ok hev _ hp) h
  case buildSlice t n ps =>
    cases hp : partsO ev ps.toList with
    | none => trivial
    | some qs => exact OpR.ofA fun o mk h => buildSlO_ok (by simpa using parts_ok hev _ hp) h
  case load t a =>
    cases hx : ev a with
    | none => trivial
    | some v => exact OpR.ofR fun u h => loadG_ok hcf hr (hev a v hx) h
  case store t a x =>
    split
    · rename_i p v hp hv
      obtain ⟨r, h1, h2⟩ := storeK_ok (R := K3) (t := t) hr (hev a p hp) (hev x v hv) (K3.ofU 7)
      rw [h1]; exact OpR.ofU h2
    · trivial
  case nilCheck x =>
    cases hx : ev x with
    | none => trivial
    | some v =>
      simp only
      cases hn : nilChkO v with
      | none => trivial
      | some u =>
        have hxv := hev x v hx
        generalize ρ x = y at hxv
        unfold nilChkO at hn
        split at hn <;> first
          | (cases hn; done)
          | (cases hn; cases hxv with
             | ptr e => exact ⟨_, rfl, .ptr e⟩)
          | (cases hn; cases hxv with
             | glob => exact ⟨_, rfl, .glob _ _⟩)
          | (cases hn; cases hxv with
             | iter e => exact ⟨_, rfl, .iter e⟩)
          | (cases hn; cases hxv; rename_i e; exact ⟨_, rfl, .iface _ e⟩)
          | (cases hn; cases hxv with
             | fn hf h1 h2 => cases hf; exact ⟨_, rfl, .fn (.func _) h1 h2⟩)
          | (cases hn; cases hxv with
             | fn hf h1 h2 => cases hf with
               | yield e => exact ⟨_, rfl, .fn (.yield e) h1 h2⟩)
  case binOp op t x y yt =>
    split
    · rename_i a b ha hb
      obtain ⟨r, h1, h2⟩ := binOpN_ok (R := K3) (G := G) (w := w) hcf (op := op) (t := t) (xo := x) (yo := y) (hev x a ha) (hev y b hb) (K3.ofR 4)
      rw [h1]; exact OpR.ofR h2
    · trivial
  case unOp op t x =>
    cases hx : ev x with
    | none => trivial
    | some v =>
      obtain ⟨r, h1, h2⟩ := unK_ok (R := K3) (G := G) (w := w) hcf (op := op) (hev x v hx) (K3.ofR 12)
      simp only; rw [h1]; exact OpR.ofR h2
  case convert s d x =>
    cases hx : ev x with
    | none => trivial
    | some v =>
      simp only
      unfold cvtK
      split
      · rename_i hs
        exact slc_ok hr (hev x v hx) hs
      · split
        · exact OpR.ofR fun u h => unsO_ok hr (hev x _ hx) h
        · split
          · rename_i hs1 hs2
            obtain ⟨ob, z, n, c, h1, h2⟩ := s2bO_ok (w := w) hs1 (hev x _ hx) hs2
            exact mkW_ok hr ⟨ob, z, n, c, valRun h1, h2⟩
          · obtain ⟨r, h1, h2⟩ := convIK_ok (R := K3) (src := s) (dst := d) hcf hr (hev x _ hx) (K3.ofR 15)
            rw [h1]; exact OpR.ofR h2
        · obtain ⟨r, h1, h2⟩ := convIK_ok (R := K3) (src := s) (dst := d) hcf hr (hev x _ hx) (K3.ofR 15)
          rw [h1]; exact OpR.ofR h2
  case makeInterface t x =>
    cases hx : ev x with
    | none => trivial
    | some v => exact OpR.ofR fun u h => mkIfaceO_ok (hev x v hx) h
  case makeFunc fn first cap =>
    cases fn <;> try exact trivial
    case func f =>
      simp only
      split
      · rename_i a b ha hb
        have h1 := mapO_ev hev _ ha
        have h2 := mapO_ev hev _ hb
        refine ⟨.func (.func f) (first.map ρ) (cap.map ρ), by simp [Instr.makeFunc], ?_⟩
        have := VR.fn (E := E) (.func f) h1 h2
        have e1 : (first.toList.map ρ).toArray = first.map ρ := by apply Array.ext'; simp
        have e2 : (cap.toList.map ρ).toArray = cap.map ρ := by apply Array.ext'; simp
        rwa [e1, e2] at this
      · trivial
  case makeMap t r =>
    cases r with
    | none =>
      obtain ⟨ob, x, n, c, h1, h2⟩ := mapMk_ok (G := G) (E := E) (w := w) (t := t)
      exact ⟨ob, x, n, c, valRun h1, h2⟩
    | some x => trivial
  case makeSlice t l c =>
    split
    · rename_i a b ha hb
      exact OpR.ofA fun o mk h => makeC_ok hcf (hev l a ha) (hev c b hb) h
    · trivial
  case slice t x lo hi mx =>
    cases mx with
    | some m =>
      simp only
      split
      · rename_i v a b c hv ha hb hc
        exact OpR.ofR fun u h => slice3O_ok (hev x v hv) (evOpt_ok hev ha) (evOpt_ok hev hb) (hev m c hc) h
      · trivial
    | none =>
      simp only
      split
      · rename_i v a b hv ha hb
        exact OpR.ofR fun u h => sliceC_ok hcf (hev x v hv) (evOpt_ok hev ha) (evOpt_ok hev hb) h
      · trivial
  case fieldAddr s x f =>
    cases hx : ev x with
    | none => trivial
    | some v => exact OpR.ofR fun u h => fieldAddrO_ok (hev x v hx) h
  case field s x f =>
    cases hx : ev x with
    | none => trivial
    | some v => exact OpR.ofR fun u h => fieldO_ok (hev x v hx) h
  case indexAddr t x i =>
    split
    · rename_i a b ha hb
      exact OpR.ofR fun u h => indexAddrC_ok hcf (hev x a ha) (hev i b hb) h
    · trivial
  case index t x i =>
    split
    · rename_i a b ha hb
      exact OpR.ofR fun u h => indexO_ok (hev x a ha) (hev i b hb) h
    · trivial
  case lookup t x k ok =>
    split
    · rename_i a b ha hb
      exact OpR.ofR fun u h => lookO_ok hcf hr (hev x a ha) (hev k b hb) h
    · trivial
  case mapUpdate t m k x =>
    split
    · rename_i a b c ha hb hc
      obtain ⟨r, h1, h2⟩ := mapPutK_ok (R := K3) (t := t) hcf hr (hev m a ha) (hev k b hb) (hev x c hc) (K3.ofU 42)
      rw [h1]; exact OpR.ofU h2
    · trivial
  case insert t m k x =>
    split
    · rename_i a b c ha hb hc
      obtain ⟨r, h1, h2⟩ := mapPutK_ok (R := K3) (t := t) hcf hr (hev m a ha) (hev k b hb) (hev x c hc) (K3.ofU 42)
      rw [h1]; exact OpR.ofU h2
    · trivial
  case range t x =>
    cases hx : ev x with
    | none => trivial
    | some v => exact OpR.ofA fun o mk h => rangeO_ok hr (hev x v hx) h
  case next it s =>
    cases hx : ev it with
    | none => trivial
    | some v =>
      obtain ⟨r, h1, h2⟩ := nextK_ok (R := K3) (isStr := s) hr o.type (hev it v hx) (K3.ofW 48)
      simp only; rw [h1]; exact OpR.ofW h2
  case entry it =>
    cases hx : ev it with
    | none => trivial
    | some v => exact OpR.ofR fun u h => entryO_ok hr (hev it v hx) h
  case typeAssert x xt t ok =>
    cases hx : ev x with
    | none => trivial
    | some v => exact OpR.ofR fun u h => assertO_ok (hev x v hx) h
  case extract t i =>
    cases hx : ev t with
    | none => trivial
    | some v => exact OpR.ofR fun u h => extractO_ok (hev t v hx) h
  case call c => exact callK_ok hcf hr hev
  case defer c =>
    split
    · rename_i args f hargs hc
      split
      · rename_i g first cap hf
        have hfv := hev f _ hf
        have hvs := mapO_ev hev _ hargs
        generalize hρ : ρ f = fv at hfv
        cases hfv with
        | fn hfn h1 h2 =>
          cases hfn with
          | func =>
            rename_i first' cap'
            refine ⟨first' ++ c.args.toList.map ρ, cap', ?_, h1.append hvs, h2⟩
            simp only [resolve, hc, hρ, Deferred.ofValue, Sem.run_bind, Sem.run_pure, Result.andThen_ok]
            congr 3
            apply Array.ext'; simp
      · trivial
    · trivial
  case makeChan t n =>
    cases he : ev n with
    | none => trivial
    | some v => exact OpR.ofA (fun o mk h => makeChanO_ok (hev _ _ he) h)
  case select cs bl =>
    cases bl with
    | true => trivial
    | false =>
      show OpR G W0 E H w _ (selK G cs.toList ev H)
      unfold selK
      cases hcs : cs.toList with
      | nil => trivial
      | cons s rest =>
        cases rest with
        | cons s2 rest => trivial
        | nil =>
          simp only
          cases hsend : s.send with
          | some x => trivial
          | none =>
            simp only
            split
            · rename_i l hch
              split
              · rename_i cl hl
                split
                · rename_i z hz
                  obtain ⟨b, c', ob, e, _, hb, ho⟩ := hr.obj l _ hl
                  have hcv := hev _ _ hch
                  obtain ⟨z', hz1, hz2, _⟩ := zeroO_ok (w := w) hz E
                  cases ho with
                  | chan =>
                    rename_i cap sn rc tm
                    generalize hρ : ρ s.chan = cv at hcv
                    cases hcv with
                    | chan e' =>
                      rw [e] at e'; cases e'
                      have harr : cs = #[s] := by apply Array.ext'; simpa using hcs
                      subst harr
                      refine ⟨b, z', cap, sn, rc, cl, tm, ?_, hb, ?_⟩
                      · simp [hsend, hρ, hz1, Conc.rcase]
                      · refine VR.tup (vs := [_, _, _]) (.cons ?_ (.cons (.bool false) (.cons hz2 .nil)))
                        cases cl with
                        | false => exact .int .i64 (.lit (-1))
                        | true => exact .int .i64 (.lit 0)
                · trivial
              · trivial
            · trivial
  case panic x =>
    split
    · rename_i t v hx
      have hxv := hev x _ hx
      generalize hρ : ρ x = y at hxv
      cases hxv with
      | iface _ hv =>
        exact ⟨_, by simp [Instr.panic], .iface t hv⟩
    · trivial
end
end Go.Ai

/- One operation, in a form that the kernel reckons fast: small bodies, a recursor at the top. -/
namespace Go.Ai
open Go Go.RowKit
set_option linter.unusedVariables false
section
variable (G : Program) (cf : Cf) (ev : Operand → Option AV) (H : Hp)
noncomputable def o1 (n : Nat) (F : AV → K3) : Option AV → K3 := Option.rec (.err n) F
noncomputable def o2 (n : Nat) (F : AV → AV → K3) (b : Option AV) : Option AV → K3 := Option.rec (.err n) (fun x => o1 n (F x) b)
noncomputable def fMove (x : Operand) : K3 := K3.ofR 1 (ev x)
noncomputable def fPick (c a b : Operand) : K3 := match ev c with | some (.bool r) => K3.ofR 8 (Bool.rec (ev b) (ev a) r) | _ => .err 8
noncomputable def fAlloc (t : TypeId) : K3 := K3.ofP 14 (allocO G t)
noncomputable def fBox (t : TypeId) (x : Operand) : K3 := o1 13 (fun v => K3.ofP 13 (boxO t v)) (ev x)
noncomputable def fBuild (t : TypeId) (ps : Array (Nat × Operand)) : K3 := match partsO ev ps.toList with | some ps => K3.ofR 10 (buildO G t ps) | none => .err 10
noncomputable def fBuildSl (t : TypeId) (n : Nat) (ps : Array (Nat × Operand)) : K3 := match partsO ev ps.toList with | some ps => K3.ofA 11 (buildSlO G t n ps) | none => .err 11
noncomputable def fLoad (t : TypeId) (a : Operand) : K3 := o1 2 (fun p => K3.ofR 2 (loadG cf G H.tab t p)) (ev a)
noncomputable def fStore (t : TypeId) (a x : Operand) : K3 := o2 7 (fun p v => storeK G t p v H (K3.ofU 7)) (ev x) (ev a)
noncomputable def fNil (x : Operand) : K3 := o1 5 (fun v => K3.ofR 5 (nilChkO v)) (ev x)
noncomputable def fBin (op : BinOp) (t : TypeId) (x y : Operand) (_ : TypeId) : K3 := o2 4 (fun a b => binOpN cf G op t x y a b (K3.ofR 4)) (ev y) (ev x)
noncomputable def fUn (op : UnOp) (_ : TypeId) (x : Operand) : K3 := o1 12 (fun v => unK cf op v (K3.ofR 12)) (ev x)
noncomputable def fConv (s d : TypeId) (x : Operand) : K3 := o1 15 (fun v => cvtK G cf s d v H) (ev x)
noncomputable def fIface (t : TypeId) (x : Operand) : K3 := o1 43 (fun v => K3.ofR 43 (mkIfaceO G t v)) (ev x)
noncomputable def fFunc : Fn → Array Operand → Array Operand → K3
  | .func f, first, cap => match mapO ev first.toList, mapO ev cap.toList with | some a, some b => .rd (.fn (.func f) a b) | _, _ => .err 16
  | _, _, _ => .err 50
noncomputable def fMap (_ : TypeId) : Option Operand → K3
  | none => .al (.map [] 0) .map
  | _ => .err 50
noncomputable def fSlice (t : TypeId) (x : Operand) (lo hi : Option Operand) : Option Operand → K3
  | none => match ev x, evOpt ev lo, evOpt ev hi with | some v, some a, some b => K3.ofR 17 (sliceC cf G t v a b) | _, _, _ => .err 17
  | some m => match ev x, evOpt ev lo, evOpt ev hi, ev m with | some v, some a, some b, some c => K3.ofR 19 (slice3O G t v a b c) | _, _, _, _ => .err 19
noncomputable def fFieldA (s : TypeId) (x : Operand) (f : Nat) : K3 := o1 3 (fun v => K3.ofR 3 (fieldAddrO G s v f)) (ev x)
noncomputable def fField (t : TypeId) (x : Operand) (f : Nat) : K3 := o1 46 (fun v => K3.ofR 46 (fieldO G t v f)) (ev x)
noncomputable def fIndexA (t : TypeId) (x i : Operand) : K3 := o2 6 (fun a b => K3.ofR 6 (indexAddrC cf G t a b)) (ev i) (ev x)
noncomputable def fIndex (t : TypeId) (x i : Operand) : K3 := o2 19 (fun a b => K3.ofR 19 (indexO G t a b)) (ev i) (ev x)
noncomputable def fLook (t : TypeId) (x k : Operand) (ok : Bool) : K3 := o2 18 (fun a b => K3.ofR 18 (lookO cf G H.tab t a b ok)) (ev k) (ev x)
noncomputable def fMapPut (t : TypeId) (m k x : Operand) : K3 := match ev m, ev k, ev x with | some m, some k, some v => mapPutK cf G t m k v H (K3.ofU 42) | _, _, _ => .err 42
noncomputable def fRange (t : TypeId) (x : Operand) : K3 := o1 47 (fun v => K3.ofA 47 (rangeO G H.tab t v)) (ev x)
noncomputable def fNext (it : Operand) (s : Bool) : K3 := o1 48 (fun v => nextK v s H (K3.ofW 48)) (ev it)
noncomputable def fEntry (it : Operand) : K3 := o1 49 (fun v => K3.ofR 49 (entryO H.tab v)) (ev it)
noncomputable def fAssert (x : Operand) (xt t : TypeId) (ok : Bool) : K3 := o1 45 (fun v => K3.ofR 45 (assertO G v xt t ok)) (ev x)
noncomputable def fExtract (t : Operand) (i : Nat) : K3 := o1 9 (fun v => K3.ofR 9 (extractO v i)) (ev t)
noncomputable def fCall (c : Call) : K3 := callK G cf c ev H
noncomputable def fDefer (c : Call) : K3 := match mapO ev c.args.toList, c.callee with
    | some args, .value f => match ev f with
      | some (.fn (.func f) first cap) => .defer f (first ++ args) cap
      | _ => .err 44
    | _, _ => .err 44
noncomputable def fPanic (x : Operand) : K3 := match ev x with | some (.iface t v) => .pan (.iface t v) | _ => .err 40
noncomputable def fMakeCh (t : TypeId) (n : Operand) : K3 := o1 52 (fun v => K3.ofA 52 (makeChanO G t v)) (ev n)
noncomputable def fSel (cases : Array SelectCase) : Bool → K3
  | false => selK G cases.toList ev H
  | true => .err 51
noncomputable def fMakeSl' (t : TypeId) (l c : Operand) : K3 := o2 41 (fun a b => K3.ofA 41 (makeC cf G t a b)) (ev c) (ev l)
noncomputable def opF (o : Oper) : K3 :=
  Op.rec (motive := fun _ => K3) (fMove ev) (fMove ev) (fPick ev) (fAlloc G) (fBox ev) (fBuild G ev) (fBuildSl G ev) (fMapPut G cf ev H) (fLoad G cf ev H) (fStore G ev H) (fun _ => .err 50) (fun _ => .err 50) (fNil ev) (fBin G cf ev) (fUn cf ev) (fConv G cf ev H)
    (fun _ _ => .err 50) (fIface G ev) (fFunc ev) fMap (fMakeCh G ev) (fMakeSl' G cf ev) (fSlice G cf ev) (fFieldA G ev) (fField G ev) (fIndexA G cf ev) (fIndex G ev) (fLook G cf ev H) (fMapPut G cf ev H) (fun _ _ _ => .err 50) (fun _ _ _ _ => .err 50) (fRange G ev H) (fNext ev H)
    (fEntry ev H) (fAssert G ev) (fExtract ev) (fCall G cf ev H) (fun _ => .err 50) (fDefer ev) (fPanic ev) (fun _ _ => .err 50) (fun _ _ _ => .err 50) (fSel G ev H) o.op
end
theorem o2_eq (n : Nat) (F : AV → AV → K3) (a b : Option AV) : o2 n F b a = match a, b with | some x, some y => F x y | _, _ => .err n := by cases a <;> cases b <;> rfl
theorem o1_eq (n : Nat) (F : AV → K3) (a : Option AV) : o1 n F a = match a with | some x => F x | none => .err n := by cases a <;> rfl
theorem opF_eq (G : Program) (cf : Cf) (ev : Operand → Option AV) (H : Hp) (o : Oper) : opF G cf ev H o = opK G cf o ev H := by
  obtain ⟨dst, op, type, pos, after, guard⟩ := o
  cases op with
  | makeFunc f a b => cases f <;> rfl
  | makeMap t r => cases r <;> rfl
  | slice t x lo hi m => cases m <;> rfl
  | store t a x => exact o2_eq _ _ _ _
  | binOp op t x y _ => exact o2_eq _ _ _ _
  | indexAddr t x i => exact o2_eq _ _ _ _
  | index t x i => exact o2_eq _ _ _ _
  | lookup t x k ok => exact o2_eq _ _ _ _
  | makeSlice t l c => exact o2_eq _ _ _ _
  | box t x => exact o1_eq _ _ _
  | makeChan t n => exact o1_eq _ _ _
  | select cs b => cases b <;> rfl
  | load t x => exact o1_eq _ _ _
  | nilCheck x => exact o1_eq _ _ _
  | unOp op t x => exact o1_eq _ _ _
  | convert s d x => exact o1_eq _ _ _
  | makeInterface t x => exact o1_eq _ _ _
  | fieldAddr s x f => exact o1_eq _ _ _
  | field s x f => exact o1_eq _ _ _
  | range t x => exact o1_eq _ _ _
  | next x b => exact o1_eq _ _ _
  | entry x => exact o1_eq _ _ _
  | typeAssert x xt t ok => exact o1_eq _ _ _
  | extract t i => exact o1_eq _ _ _
  | _ => rfl
end Go.Ai

/- The abstract machine: regions, code, frames, calls. -/
namespace Go.Ai
open Go Go.RowKit
set_option linter.unusedVariables false

/-! ### equality of values, for regions whose order is open -/
def capBeq : Cap → Cap → Bool
  | .ex a, .ex b => Nat.beq a b
  | .op a, .op b => Nat.beq a b
  | _, _ => false
noncomputable def AFn.beq : AFn → AFn → Bool
  | .func f, .func g => Nat.beq f g
  | .yield a, .yield b => P.beq a b
  | _, _ => false
noncomputable def obeqP (a b : Option P) : Bool := match a, b with
  | none, none => true
  | some p, some q => P.beq p q
  | _, _ => false
noncomputable def listBeq {α : Type} (f : α → α → Bool) (a : List α) : List α → Bool :=
  List.rec (fun b => List.casesOn b true (fun _ _ => false)) (fun x _ ih b => List.casesOn b false (fun y t => Bool.rec false (ih t) (f x y))) a
/-- of a depth: values that hold others -/
noncomputable def AV.beqN (n : Nat) : AV → AV → Bool :=
  Nat.rec (fun _ _ => false) (fun _ ih x y => match x, y with
    | .bool a, .bool b => Bool.rec (Bool.rec true false b) b a
    | .int k a, .int k' b => kbeq k k' && SI.beq a b
    | .str a, .str b => listBeq SI.beq a b
    | .ptr0, .ptr0 => true
    | .ptr l o, .ptr l' o' => P.beq l l' && Nat.beq o o'
    | .glob g o, .glob g' o' => Nat.beq g g' && Nat.beq o o'
    | .sl0, .sl0 => true
    | .sl l o n c, .sl l' o' n' c' => P.beq l l' && Nat.beq o o' && Nat.beq n n' && capBeq c c'
    | .map0, .map0 => true
    | .map l, .map l' => P.beq l l'
    | .fn f a b, .fn f' a' b' => AFn.beq f f' && listBeq ih a a' && listBeq ih b b'
    | .fn0, .fn0 => true
    | .if0, .if0 => true
    | .iface t v, .iface t' v' => Nat.beq t t' && ih v v'
    | .agg a, .agg b => listBeq ih a b
    | .tup a, .tup b => listBeq ih a b
    | .iter l, .iter l' => P.beq l l'
    | .chan0, .chan0 => true
    | .chan l, .chan l' => P.beq l l'
    | .xsl m, .xsl m' => Nat.beq m m'
    | .xptr i, .xptr i' => Nat.beq i i'
    | .gsl l a x y, .gsl l' a' x' y' => obeqP l l' && Nat.beq a a' && SI.beq x x' && SI.beq y y'
    | .gptr l a x, .gptr l' a' x' => obeqP l l' && Nat.beq a a' && SI.beq x x'
    | _, _ => false) n
noncomputable def AV.same (x y : AV) : Bool := AV.beqN 8 x y

/-! ### regions -/
/-- is an operation to be done? -/
noncomputable def wantO (ops : List Oper) (o : Oper) (tm : PT AV) : Option Bool := match o.guard with
  | none => some true
  | some (j, want) => match nthL ops j with
    | some oj => match oj.dst with
      | some t => match PT.get (P.of t) tm with
        | some (.bool b) => some (Bool.rec (Bool.rec true false want) want b)
        | some (.tup _) => some false
        | _ => none
      | none => some false
    | none => some false
noncomputable def wantG (ops : List Oper) (tm : PT AV) (p : Nat × Bool) : Option Bool := match nthL ops p.1 with
  | some oj => match oj.dst with
    | some t => match PT.get (P.of t) tm with
      | some (.bool b) => some (Bool.rec (Bool.rec true false p.2) p.2 b)
      | some (.tup _) => some false
      | _ => none
    | none => some false
  | none => some false
noncomputable def wantF (ops : List Oper) (o : Oper) (tm : PT AV) : Option Bool := Option.rec (some true) (wantG ops tm) o.guard
theorem wantF_eq (ops : List Oper) (o : Oper) (tm : PT AV) : wantF ops o tm = wantO ops o tm := by
  unfold wantF wantO
  cases o.guard with
  | none => rfl
  | some p => rfl
/-- a temporary is written -/
noncomputable def putT {R : Type} (n : Nat) (d : Option Nat) (tm : PT AV) (v : AV) (K : Option (PT AV) → R) : R := match d with
  | none => K (some tm)
  | some t => match Nat.ble (Nat.succ t) n with
    | true => PT.putK (P.of t) tm (some v) (fun tm => K (some tm))
    | false => K none
/-- what a frame has still to call when it is left -/
inductive AD where
  | call (f : FuncId) (args cap : List AV)
  | mark (l : P)
/-- may a panic be caught here? -/
inductive RC where
  | no
  | avail (v : AV)
  | used
  | bar
inductive KR where
  | ret (v : AV) (H : Hp)
  | pan (v : AV) (H : Hp)
  | err (n : Nat)
inductive Ex where
  | normal
  | exit (id : Nat)
  | ret
  | pan (v : AV)
inductive CR where
  | ok (ex : Ex) (tm : PT AV) (ds : List AD) (H : Hp) (rc : RC)
  | err (n : Nat)
abbrev CallF := FuncId → List AV → Hp → KR
abbrev RndF := P → List AV → Hp → KR

/-- a region in the row of its text -/
abbrev IH := PT AV → List AD → Hp → RC → CR
noncomputable def putC (n : Nat) (d : Option Nat) (tm : PT AV) (v : AV) (F : PT AV → CR) : CR := Option.rec (F tm) (fun t => Bool.rec (.err 61) (PT.putK (P.of t) tm (some v) F) (Nat.ble (Nat.succ t) n)) d
noncomputable def sRd (n : Nat) (d : Option Nat) (ih : IH) (tm : PT AV) (ds : List AD) (H : Hp) (rc : RC) (v : AV) : CR := putC n d tm v (fun tm => ih tm ds H rc)
noncomputable def sAl (n : Nat) (d : Option Nat) (ih : IH) (tm : PT AV) (ds : List AD) (H : Hp) (rc : RC) (ob : AObj) (mk : P → AV) : CR :=
  P.nextK H.nx (fun nx' => PT.putK H.nx H.tab (some ob) (fun t' => putC n d tm (mk H.nx) (fun tm => ih tm ds ⟨nx', t'⟩ rc)))
noncomputable def sWv (n : Nat) (d : Option Nat) (ih : IH) (tm : PT AV) (ds : List AD) (rc : RC) (v : AV) (H : Hp) : CR := sRd n d ih tm ds H rc v
noncomputable def sWu (n : Nat) (d : Option Nat) (ih : IH) (tm : PT AV) (ds : List AD) (rc : RC) (H : Hp) : CR := sRd n d ih tm ds H rc (.tup [])
noncomputable def sEnd (n : Nat) (d : Option Nat) (ih : IH) (tm : PT AV) (ds : List AD) (rc : RC) : KR → CR
  | .ret v H => sRd n d ih tm ds H rc v
  | .pan v H => .ok (.pan v) tm ds H rc
  | .err k => .err k
noncomputable def sDefer (n : Nat) (d : Option Nat) (ih : IH) (tm : PT AV) (ds : List AD) (H : Hp) (rc : RC) (f : FuncId) (args cap : List AV) : CR := match rc with
  | .bar => .err 63
  | rc => sRd n d ih tm (.call f args cap :: ds) H rc (.tup [])
noncomputable def sRecover (n : Nat) (d : Option Nat) (ih : IH) (tm : PT AV) (ds : List AD) (H : Hp) : RC → CR
  | .bar => .err 63
  | .avail v => sRd n d ih tm ds H .used v
  | rc => sRd n d ih tm ds H rc .if0
noncomputable def regDo (G : Program) (cf : Cf) (call : CallF) (rnd : RndF) (n : Nat) (o : Oper) (d : Option Nat) (ih : IH) (tm : PT AV) (ds : List AD) (H : Hp) (rc : RC) : CR :=
  K3.rec (motive := fun _ => CR) (sRd n d ih tm ds H rc) (sAl n d ih tm ds H rc) (sWv n d ih tm ds rc) (sWu n d ih tm ds rc) (fun f args => sEnd n d ih tm ds rc (call f args H)) (fun l args => sEnd n d ih tm ds rc (rnd l args H)) (sDefer n d ih tm ds H rc) (sRecover n d ih tm ds H rc)
    (fun v => .ok (.pan v) tm ds H rc) (sRd n d ih tm ds H rc) CR.err (opF G cf (evO tm) H o)
noncomputable def regS (G : Program) (cf : Cf) (call : CallF) (rnd : RndF) (n : Nat) (ops : List Oper) (o : Oper) (ih : IH) (tm : PT AV) (ds : List AD) (H : Hp) (rc : RC) : CR :=
  Option.rec (.err 60) (fun b => Bool.rec (sRd n o.dst ih tm ds H rc (.tup [])) (regDo G cf call rnd n o o.dst ih tm ds H rc) b) (wantF ops o tm)
noncomputable def regK (G : Program) (cf : Cf) (call : CallF) (rnd : RndF) (n : Nat) (ops rest : List Oper) : PT AV → List AD → Hp → RC → CR :=
  List.rec (fun tm ds H rc => .ok .normal tm ds H rc) (fun o _ ih => regS G cf call rnd n ops o ih) rest
theorem putC_eq (n : Nat) (d : Option Nat) (tm : PT AV) (v : AV) (F : PT AV → CR) : putC n d tm v F = putT n d tm v (fun r => match r with | some tm => F tm | none => .err 61) := by
  unfold putC putT
  cases d with
  | none => rfl
  | some t =>
    simp only
    cases Nat.ble (Nat.succ t) n <;> rfl

/-! ### regions whose order is open -/
/-- of each operation: those that must be done ahead of it, as bits -/
noncomputable def edgesM (acc : List Nat) (es : List Edge) : Nat := List.rec 0 (fun e _ ih => match e.ground with
  | .textOnly _ => ih
  | .gcOnly _ => ih
  | _ => Nat.lor (Nat.lor (Nat.pow 2 e.on) (match nthL acc e.on with | some m => m | none => 0)) ih) es
noncomputable def ancs (ops : List Oper) : List Nat → List Nat := List.rec (fun acc => acc) (fun o _ ih acc => ih (acc ++ [edgesM acc o.after.toList])) ops
def opTmps : List Operand → List Nat
  | [] => []
  | .tmp t :: l => t :: opTmps l
  | _ :: l => opTmps l
/-- the temporaries that an operation looks at -/
def looks (ops : List Oper) (o : Oper) : List Nat := (match o.guard with
  | some (j, _) => (match ops[j]? with | some oj => oj.dst.toList | none => [])
  | none => []) ++ opTmps o.op.operands.toList
/-- each edge that binds goes back -/
def plainEdges (i : Nat) (o : Oper) : Bool := o.after.toList.all fun e => match e.ground with | .textOnly _ => true | .gcOnly _ => true | _ => Nat.ble (Nat.succ e.on) i
def bit (m i : Nat) : Bool := Nat.beq (Nat.land (Nat.shiftRight m i) 1) 1
theorem bit_def (m i : Nat) : bit m i = Nat.testBit m i := by
  have h : Nat.land (Nat.shiftRight m i) 1 = (m >>> i) % 2 := Nat.and_one_is_mod _
  have h2 : (m >>> i) % 2 < 2 := Nat.mod_lt _ (by omega)
  rw [bit, h, beqN, Nat.testBit, show 1 &&& (m >>> i) = (m >>> i) % 2 by rw [Nat.and_comm]; exact Nat.and_one_is_mod _]
  generalize (m >>> i) % 2 = q at h2
  match q, h2 with
  | 0, _ => rfl
  | 1, _ => rfl
noncomputable def gD (as : List Nat) (i : Nat) : Nat := Option.rec 0 (fun x => x) (nthL as i)
theorem gD_eq (as : List Nat) (i : Nat) : gD as i = as.getD i 0 := by
  unfold gD
  rw [nthL_eq, List.getD_eq_getElem?_getD]
  cases as[i]? <;> rfl
/-- no two write one temporary; who looks at what another writes stands in an order with it -/
noncomputable def pairOk (ops : List Oper) (as : List Nat) (i j : Nat) (oi oj : Oper) : Bool :=
  (match oi.dst with
  | none => true
  | some t => (match oj.dst with | some u => !(Nat.beq t u) | none => true) && (!((looks ops oj).any (Nat.beq t)) || bit (gD as (max i j)) (min i j)))
noncomputable def regStatic (ops : List Oper) (as : List Nat) : Bool :=
  ops.zipIdx.all fun (oi, i) => plainEdges i oi && ops.zipIdx.all fun (oj, j) => Nat.beq i j || pairOk ops as i j oi oj
/-- the operands that are temporaries; those alone are looked up -/
noncomputable def memN (t : Nat) (l : List Nat) : Bool := List.rec false (fun a _ ih => match Nat.beq a t with | true => true | false => ih) l
noncomputable def evL (tm : PT AV) (ts : List Nat) : Operand → Option AV
  | .tmp t => match memN t ts with
    | true => PT.get (P.of t) tm
    | false => none
  | x => evO tm x
noncomputable def evR (tm : PT AV) (o : Oper) : Operand → Option AV := evL tm (opTmps o.op.operands.toList)
def isAl : Op → Bool
  | .alloc _ | .box .. | .buildSlice .. | .makeSlice .. | .makeMap _ none | .makeChan .. => true
  | _ => false
/-- of each operation: what it came to -/
inductive TE where
  | skip
  | rd (tm : PT AV) (v : AV)
  | al (l : P) (ob : AObj) (v : AV)
  | wr (v : AV)
def TE.val : TE → AV
  | .skip => .tup []
  | .rd _ v | .al _ _ v | .wr v => v
/-- made ahead, and not yet laid in by a writer: laid in now, if it must -/
noncomputable def anyBit (as : List Nat) (i : Nat) (done : List Nat) : Bool := List.rec false (fun w _ ih => match bit (gD as w) i with | true => true | false => ih) done
noncomputable def layT {R : Type} (as : List Nat) (m : Nat) (done : List Nat) (xs : List (Nat × P × AObj)) : PT AObj → (PT AObj → R) → R :=
  List.rec (fun t k => k t) (fun x _ ih t k => match bit m x.1, anyBit as x.1 done with
    | true, false => PT.putK x.2.1 t (some x.2.2) (fun t => ih t k)
    | _, _ => ih t k) xs
noncomputable def layAll {R : Type} (as : List Nat) (done : List Nat) (xs : List (Nat × P × AObj)) : PT AObj → (PT AObj → R) → R :=
  List.rec (fun t k => k t) (fun x _ ih t k => match anyBit as x.1 done with
    | false => PT.putK x.2.1 t (some x.2.2) (fun t => ih t k)
    | _ => ih t k) xs
noncomputable def eraseD {R : Type} (ops : List Oper) : PT AV → (PT AV → R) → R :=
  List.rec (fun t k => k t) (fun o _ ih t k => match o.dst with | some d => PT.putK (P.of d) t none (fun t => ih t k) | none => ih t k) ops
noncomputable def allBehind (as : List Nat) (i : Nat) (rest : List Oper) (j : Nat) : Bool := List.rec (fun _ => true) (fun _ _ ih j => match bit (gD as j) i with | true => ih (Nat.succ j) | false => false) rest j
/-- is the last writer one that must come ahead? -/
def chained (m : Nat) (wl : List Nat) : Bool := match wl with | [] => true | x :: _ => bit m x
noncomputable def resvK {R : Type} (ops : List Oper) : P → (List P → P → R) → R := List.rec (fun p k => k [] p) (fun _ _ ih p k => P.nextK p (fun q => ih q (fun l r => k (p :: l) r))) ops
structure TrS where
  rl : List TE
  hs : List Hp
  wl : List Nat
  xs : List (Nat × P × AObj)
/-- the row of the text -/
noncomputable def traceK {R : Type} (G : Program) (cf : Cf) (call : CallF) (n : Nat) (ops : List Oper) (as : List Nat) (K : TrS → PT AV → Hp → Option AV → R) (bad : Nat → R) (rest : List Oper) :
    Nat → List P → PT AV → Hp → TrS → R :=
  List.rec (fun _ _ tm H s => K s tm H none) (fun o rest ih i names tm H s =>
    let go := fun (v : AV) (H : Hp) (s : TrS) => putT n o.dst tm v (fun r => match r with | some tm => ih (Nat.succ i) names.tail tm H s | none => bad 61)
    match wantF ops o tm with
    | none => bad 60
    | some false => go (.tup []) H { s with rl := .skip :: s.rl }
    | some true => layT as (gD as i) s.wl s.xs H.tab (fun t =>
      let wrote := fun (v : AV) (H' : Hp) => match chained (gD as i) s.wl with
        | true => go v H' { s with rl := .wr v :: s.rl, hs := H' :: s.hs, wl := i :: s.wl }
        | false => bad 70
      match opF G cf (evR tm o) ⟨H.nx, t⟩ o with
      | .rd v => go v H { s with rl := .rd tm v :: s.rl }
      | .al ob mk => match isAl o.op, names with
        | true, l :: _ => go (mk l) H { s with rl := .al l ob (mk l) :: s.rl, xs := (i, l, ob) :: s.xs }
        | _, _ => bad 71
      | .wv v H' => wrote v H'
      | .wu H' => wrote (.tup []) H'
      | .call f args => match call f args ⟨H.nx, t⟩ with
        | .ret v H' => wrote v H'
        | .pan v H' => match chained (gD as i) s.wl, allBehind as i rest (Nat.succ i) with
          | true, true => K s tm H' (some v)
          | _, _ => bad 73
        | .err k => bad k
      | .err k => bad k
      | _ => bad 75)) rest
/-- the heaps that one may meet: those that wrote till then; who writes next -/
structure Sn where
  H : Hp
  done : List Nat
  next : Option Nat
noncomputable def snaps (wl : List Nat) : List Hp → Option Nat → List Sn :=
  List.rec (fun hs nxt => match hs with | H :: _ => [⟨H, [], nxt⟩] | [] => []) (fun w wl ih hs nxt => match hs with | H :: hs => ⟨H, w :: wl, nxt⟩ :: ih hs (some w) | [] => []) wl
noncomputable def rereads (G : Program) (cf : Cf) (as : List Nat) (xs : List (Nat × P × AObj)) (i : Nat) (o : Oper) (tm : PT AV) (v : AV) (s : Sn) : Bool :=
  match (match s.next with | some q => bit (gD as i) q | none => false), anyBit as i s.done with
  | false, false => layT as (gD as i) s.done xs s.H.tab (fun t => match opF G cf (evR tm o) ⟨s.H.nx, t⟩ o with
    | .rd u => AV.same u v
    | _ => false)
  | _, _ => true
/-- it looks at no memory -/
def hfree : Op → Bool
  | .move _ | .assign _ | .pick .. | .extract .. | .fieldAddr .. | .field .. | .indexAddr .. | .index .. | .nilCheck _ | .binOp .. | .unOp .. | .build .. | .makeInterface .. | .makeFunc .. | .typeAssert .. | .slice .. => true
  | _ => false
/-- 0: no memory; 1: memory is read; 2: it is written; 3: not taken -/
def kindO (op : Op) : Nat := match op with
  | .load .. => 1
  | .lookup .. => 1
  | .convert .. => 2
  | .store .. => 2
  | .mapUpdate .. => 2
  | .call c => match c.callee with
    | .value _ => 2
    | .builtin .append => 2
    | .builtin .copy => 2
    | .builtin .delete => 2
    | .builtin .len => 1
    | .builtin .min => 1
    | _ => 3
  | op => match hfree op with
    | true => 0
    | false => 3
noncomputable def ordP (as : List Nat) (i j : Nat) (a b : Oper) : Bool := match kindO a.op, kindO b.op with
  | 0, _ => true
  | _, 0 => true
  | 1, 1 => true
  | _, _ => bit (gD as j) i
noncomputable def ordR (as : List Nat) (i : Nat) (a : Oper) : List Oper → Nat → Bool
  | [], _ => true
  | b :: l, j => ordP as i j a b && ordR as i a l (Nat.succ j)
noncomputable def ordB (as : List Nat) : List Oper → Nat → Bool
  | [], _ => true
  | a :: l, i => Nat.ble (kindO a.op) 2 && ordR as i a l (Nat.succ i) && ordB as l (Nat.succ i)
/-- lazily: the one, or the other -/
noncomputable def okT (a b : Bool) : Bool := Bool.rec b true a
/-- what was read is read at each heap that one may meet; what is made anew is in none of them -/
noncomputable def teOk (G : Program) (cf : Cf) (as : List Nat) (xs : List (Nat × P × AObj)) (sn : List Sn) (i : Nat) (o : Oper) : TE → Bool
  | .rd tm v => match sn with
    | [_] => true
    | _ => match hfree o.op with
      | true => true
      | false => allL (rereads G cf as xs i o tm v) sn
  | .al l _ _ => allL (fun s => match anyBit as i s.done, PT.get l s.H.tab with
    | true, _ => true
    | false, none => true
    | false, some _ => false) sn
  | _ => true
noncomputable def tesOk (G : Program) (cf : Cf) (ops : List Oper) (as : List Nat) (xs : List (Nat × P × AObj)) (sn : List Sn) (rl : List TE) : Bool :=
  List.rec true (fun te rl ih => match nthL ops (lenL rl) with
    | some o => match teOk G cf as xs sn (lenL rl) o te with
      | true => ih
      | false => false
    | none => false) rl
noncomputable def drawK (G : Program) (cf : Cf) (call : CallF) (n : Nat) (ops : List Oper) (as : List Nat) (tm0 : PT AV) (ds : List AD) (H0 : Hp) (rc : RC) : CR :=
  resvK ops H0.nx (fun names nx => traceK G cf call n ops as (fun s tm H pan => match okT (ordB as ops 0) (tesOk G cf ops as s.xs (snaps s.wl s.hs none) s.rl) with
    | false => .err 77
    | true => match pan with
      | none => layAll as s.wl s.xs H.tab (fun t => .ok .normal tm ds ⟨H.nx, t⟩ rc)
      | some v => eraseD ops tm0 (fun tm => .ok (.pan v) tm ds H rc)) (fun k => .err k) ops 0 names tm0 ⟨nx, H0.tab⟩ ⟨[], [⟨nx, H0.tab⟩], [], []⟩)
noncomputable def regionK (G : Program) (cf : Cf) (call : CallF) (rnd : RndF) (n : Nat) (ops : List Oper) (draw : Bool) (tm : PT AV) (ds : List AD) (H : Hp) (rc : RC) : CR := match draw with
  | false => regK G cf call rnd n ops ops tm ds H rc
  | true => match regStatic ops (ancs ops []) with
    | true => drawK G cf call n ops (ancs ops []) tm ds H rc
    | false => .err 76

/-! ### code -/
noncomputable def thenN (F : IH) : CR → CR
  | .ok .normal tm ds H rc => F tm ds H rc
  | r => r
noncomputable def blockN (id : Nat) : CR → CR
  | .ok (.exit j) tm ds H rc => match Nat.beq j id with
    | true => .ok .normal tm ds H rc
    | false => .ok (.exit j) tm ds H rc
  | r => r
noncomputable def condN (a b : CR) : Option AV → CR
  | some (.bool true) => a
  | some (.bool false) => b
  | _ => .err 81
/-- a loop over a function: what comes behind its call -/
noncomputable def loopEnd (tm : PT AV) (ds : List AD) (rc : RC) (dl l : P) : KR → CR
  | .ret _ H => match PT.get l H.tab with
    | some (.loop st pend fn n tm' ps a b d) => match st with
      | .busy => .err 66
      | _ => PT.putK l H.tab (some (.loop .exhausted pend fn n tm' ps a b d)) (fun t => match pend with
        | none => .ok .normal tm (.mark dl :: ds) ⟨H.nx, t⟩ rc
        | some .ret => .ok .ret tm (.mark dl :: ds) ⟨H.nx, t⟩ rc
        | some (.exit id) => .ok (.exit id) tm (.mark dl :: ds) ⟨H.nx, t⟩ rc
        | _ => .err 65)
    | _ => .err 67
  | .pan v H => .ok (.pan v) tm (.mark dl :: ds) H rc
  | .err k => .err k
noncomputable def rangeB (G : Program) (call : CallF) (n fid : Nat) (f : Operand) (params : Array Tmp) (assign body : Code) (tm : PT AV) (ds : List AD) (H : Hp) (rc : RC) : CR := match evO tm f with
    | some (.fn (.func g) first cap) => match hasBody G g with
      | true => P.nextK H.nx (fun p1 => P.nextK p1 (fun p2 => PT.putK H.nx H.tab (some .defd) (fun t1 => PT.putK p1 t1 (some (.loop .ready none fid n tm params.toList assign body H.nx)) (fun t2 =>
        loopEnd tm ds rc H.nx p1 (call g ((first ++ [.fn (.yield p1) [] []]) ++ cap) ⟨p2, t2⟩)))))
      | false => .err 68
    | _ => .err 69
noncomputable def rangeK (G : Program) (call : CallF) (n fid : Nat) (f : Operand) (params : Array Tmp) (assign body : Code) (tm : PT AV) (ds : List AD) (H : Hp) (rc : RC) : CR := match rc with
  | .bar => .err 64
  | rc => rangeB G call n fid f params assign body tm ds H rc
noncomputable def codeS (G : Program) (cf : Cf) (call : CallF) (rnd : RndF) (n fid : Nat) (ih : Code → IH) (c : Code) (tm : PT AV) (ds : List AD) (H : Hp) (rc : RC) : CR :=
  Code.casesOn (motive := fun _ => CR) c (.ok .normal tm ds H rc) (fun _ ops draw => regionK G cf call rnd n ops.toList draw tm ds H rc) (fun a b => thenN (ih b) (ih a tm ds H rc)) (fun c a b => condN (ih a tm ds H rc) (ih b tm ds H rc) (evO tm c))
    (fun id c => blockN id (ih c tm ds H rc)) (fun c => thenN (ih (.loop c)) (ih c tm ds H rc)) (fun f ps a b => rangeK G call n fid f ps a b tm ds H rc) (fun id => .ok (.exit id) tm ds H rc) (fun _ => .err 82) (fun _ => .err 82) (fun _ => .err 82) (.ok .ret tm ds H rc) (fun _ => .err 82)
noncomputable def codeK (G : Program) (cf : Cf) (call : CallF) (rnd : RndF) (n fid : Nat) (fuel : Nat) : Code → PT AV → List AD → Hp → RC → CR :=
  Nat.rec (fun _ _ _ _ _ => .err 80) (fun _ ih => codeS G cf call rnd n fid ih) fuel

/-! ### frames -/
noncomputable def argsT (args : List AV) : Nat → PT AV → PT AV := List.rec (fun _ t => t) (fun a _ ih i t => ih (Nat.succ i) (PT.put (P.of i) t (some a))) args
noncomputable def resO (G : Program) (tm : PT AV) (H : Hp) : ResultVar → Option AV
  | .tmp t => PT.get (P.of t) tm
  | .cell a t => match PT.get (P.of a) tm with
    | some p => loadO G H.tab t p
    | none => none
noncomputable def resultsO (G : Program) (fn : Func) (tm : PT AV) (H : Hp) : Option AV := match mapO (resO G tm H) fn.results.toList with
  | some [v] => some v
  | some vs => some (.tup vs)
  | none => none
inductive Md where
  | ret
  | pan (v : AV)
/-- a deferred call: what is caught is told -/
inductive DR where
  | ok (H : Hp) (rc : RC)
  | err (n : Nat)
noncomputable def dcallK (G : Program) (cf : Cf) (call : CallF) (rnd : RndF) (fuel : Nat) (f : FuncId) (args : List AV) (H : Hp) (rc : RC) : DR := match G.funcs[f]? with
  | some fn => match fn.body with
    | some c => match Nat.ble (lenL args) fn.ntmps with
      | true => match codeK G cf call rnd fn.ntmps f fuel c (argsT args 0 .e) [] H rc with
        | .ok .normal tm [] H rc => match resultsO G fn tm H with | some _ => .ok H rc | none => .err 107
        | .ok .ret tm [] H rc => match resultsO G fn tm H with | some _ => .ok H rc | none => .err 108
        | .err k => .err k
        | _ => .err 109
      | false => .err 110
    | none => .err 111
  | none => .err 112
noncomputable def leaveK (G : Program) (cf : Cf) (call : CallF) (rnd : RndF) (fuel : Nat) (fn : Func) (tm : PT AV) (ds : List AD) : Md → Hp → KR :=
  List.rec (fun md H => match md with
    | .ret => match resultsO G fn tm H with | some v => .ret v H | none => .err 90
    | .pan v => .pan v H) (fun d _ ih md H => match d with
    | .call f args cap => match hasBody G f with
      | true => match dcallK G cf call rnd fuel f (args ++ cap) H (match md with | .ret => .no | .pan v => .avail v) with
        | .ok H .used => ih .ret H
        | .ok H .no => ih .ret H
        | .ok H (.avail v) => ih (.pan v) H
        | .err k => .err k
        | _ => .err 91
      | false => .err 92
    | .mark l => match PT.get l H.tab with
      | some .defd => PT.putK l H.tab (some .gone) (fun t => ih md ⟨H.nx, t⟩)
      | _ => .err 93) ds
noncomputable def frameK (G : Program) (cf : Cf) (call : CallF) (rnd : RndF) (fuel : Nat) (f : FuncId) (args : List AV) (H : Hp) : KR := match G.funcs[f]? with
  | some fn => match fn.body with
    | some c => match Nat.ble (lenL args) fn.ntmps with
      | true => match codeK G cf call rnd fn.ntmps f fuel c (argsT args 0 .e) [] H .no with
        | .ok .normal tm ds H _ => leaveK G cf call rnd fuel fn tm ds .ret H
        | .ok .ret tm ds H _ => leaveK G cf call rnd fuel fn tm ds .ret H
        | .ok (.pan v) tm ds H _ => leaveK G cf call rnd fuel fn tm ds (.pan v) H
        | .ok (.exit _) _ _ _ _ => .err 94
        | .err k => .err (Bool.rec (k + 1000 * (f + 1)) k (Nat.ble 1000 k))
      | false => .err 95
    | none => .err 96
  | none => .err 97
/-- a round of a loop over a function: how it ends -/
noncomputable def roundEnd (l : P) (jump : Option Code) (H : Hp) : KR := match PT.get l H.tab with
  | some (.loop _ _ fn n tm ps a b d) => PT.putK l H.tab (some (.loop (match jump with | none => .ready | some _ => .done) jump fn n tm ps a b d)) (fun t => .ret (.bool (match jump with | none => true | some _ => false)) ⟨H.nx, t⟩)
  | _ => .err 101
noncomputable def setArgs (ps : List Nat) : List AV → PT AV → PT AV :=
  List.rec (fun _ t => t) (fun p _ ih args t => List.casesOn args t (fun a args => ih args (PT.put (P.of p) t (some a)))) ps
noncomputable def roundK (G : Program) (cf : Cf) (call : CallF) (rnd : RndF) (fuel : Nat) (l : P) (args : List AV) (H : Hp) : KR := match PT.get l H.tab with
  | some (.loop _ _ fn n tm ps assign body _) => match G.funcs[fn]?, Nat.beq (lenL args) (lenL ps), allL (fun p => Nat.ble (Nat.succ p) n) ps with
    | some _, true, true => match codeK G cf call rnd n fn fuel assign (setArgs ps args tm) [] H .bar with
      | .ok .normal tm [] H _ => match PT.get l H.tab with
        | some (.loop .ready pend fn' n' tm' ps' a' b' d') => PT.putK l H.tab (some (.loop .busy pend fn' n' tm' ps' a' b' d')) (fun t => match codeK G cf call rnd n fn fuel body tm [] ⟨H.nx, t⟩ .bar with
          | .ok .normal _ [] H _ => roundEnd l none H
          | .ok .ret _ [] H _ => roundEnd l (some .ret) H
          | .ok (.exit id) _ [] H _ => roundEnd l (some (.exit id)) H
          | .ok (.pan v) _ [] H _ => .pan v H
          | .err k => .err k
          | _ => .err 102)
        | _ => .err 103
      | .err k => .err k
      | _ => .err 104
    | _, _, _ => .err 105
  | _ => .err 106
/-- calls of a depth -/
noncomputable def bothN (G : Program) (cf : Cf) (fuel : Nat) (d : Nat) : CallF × RndF := Nat.rec (fun _ _ _ => .err 98, fun _ _ _ => .err 99) (fun _ ih => (frameK G cf ih.1 ih.2 fuel, roundK G cf ih.1 ih.2 fuel)) d
noncomputable def callN (G : Program) (cf : Cf) (fuel : Nat) (d : Nat) : CallF := (bothN G cf fuel d).1
end Go.Ai

/- The machine's moves, and a region in the row of its text. -/
namespace Go.Ai
open Go Go.RowKit
set_option linter.unusedVariables false
/-- a frame that runs -/
def Fr (b : Frame) (arr : Array Value) (todo : List Item) (ds : List Deferred) : Frame :=
  { fn := b.fn, tmps := arr, todo, defers := ds, mode := .run, kind := b.kind, roundOf := b.roundOf }
def putA (arr : Array Value) (d : Option Tmp) (v : Value) : Array Value := match d with
  | some d => arr.setIfInBounds d v
  | none => arr
theorem putA_size (arr : Array Value) (d : Option Tmp) (v : Value) : (putA arr d v).size = arr.size := by cases d <;> simp [putA]
theorem Fr_eval (b : Frame) (arr : Array Value) (todo : List Item) (ds : List Deferred) : (Fr b arr todo ds).eval = Act.eval ⟨arr, ds⟩ := by
  funext x; cases x <;> rfl
theorem Fr_finish (b : Frame) (arr : Array Value) (ops : Array Oper) (i : Nat) (rest : List Nat) (k : List Item) (ds : List Deferred) (v : Value) :
    (Fr b arr (.inRegion ops (i :: rest) :: k) ds).finish v = Fr b (putA arr ((ops[i]?).bind (·.dst)) v) (.inRegion ops rest :: k) ds := by
  cases h : (ops[i]?).bind (·.dst) <;> simp [Frame.finish, Fr, putA, h]
theorem Fr_raise (b : Frame) (arr : Array Value) (todo : List Item) (ds : List Deferred) (chain : List PanicEntry) :
    (Fr b arr todo ds).raise chain = { Fr b arr todo ds with mode := .panicking chain } := rfl
section
variable {P : Program} {b : Frame} {arr : Array Value} {ds : List Deferred} {k : List Item} {cs : List Frame} {w w' : World} {ops : Array Oper}
theorem st_skip : step P (lone (Fr b arr (.code .skip :: k) ds) cs w) = .next (lone (Fr b arr k ds) cs w) := step_lone_go (by simp [stepG, stepG.exec, Fr])
theorem st_inBlock {id : Nat} : step P (lone (Fr b arr (.inBlock id :: k) ds) cs w) = .next (lone (Fr b arr k ds) cs w) := step_lone_go (by simp [stepG, stepG.exec, Fr])
theorem st_seq {x y : Code} : step P (lone (Fr b arr (.code (.seq x y) :: k) ds) cs w) = .next (lone (Fr b arr (.code x :: .code y :: k) ds) cs w) := step_lone_go (by simp [stepG, stepG.exec, Fr])
theorem st_cond {c : Operand} {x y : Code} {t : Bool} (h : Act.eval ⟨arr, ds⟩ c = .bool t) :
    step P (lone (Fr b arr (.code (.cond c x y) :: k) ds) cs w) = .next (lone (Fr b arr (.code (if t then x else y) :: k) ds) cs w) :=
  step_lone_go (by
    have := congrFun (Fr_eval b arr (.code (.cond c x y) :: k) ds) c
    simp only [Fr] at this
    simp [stepG, stepG.exec, Fr, this, h])
theorem st_block {id : Nat} {c : Code} : step P (lone (Fr b arr (.code (.block id c) :: k) ds) cs w) = .next (lone (Fr b arr (.code c :: .inBlock id :: k) ds) cs w) := step_lone_go (by simp [stepG, stepG.exec, Fr])
theorem st_loop {c : Code} : step P (lone (Fr b arr (.code (.loop c) :: k) ds) cs w) = .next (lone (Fr b arr (.code c :: .inLoop c :: k) ds) cs w) := step_lone_go (by simp [stepG, stepG.exec, Fr])
theorem st_inLoop {c : Code} : step P (lone (Fr b arr (.inLoop c :: k) ds) cs w) = .next (lone (Fr b arr (.code c :: .inLoop c :: k) ds) cs w) := step_lone_go (by simp [stepG, stepG.exec, Fr])
theorem st_exit {id : Nat} {k' : List Item} (h : exitTo id k = some k') : step P (lone (Fr b arr (.code (.exit id) :: k) ds) cs w) = .next (lone (Fr b arr k' ds) cs w) :=
  step_lone_go (by simp [stepG, stepG.exec, Fr, h])
theorem st_ret (hb : b.roundOf = none) : step P (lone (Fr b arr (.code .ret :: k) ds) cs w) = .next (lone { Fr b arr (.code .ret :: k) ds with mode := .returning } cs w) :=
  step_lone_go (by simp [stepG, stepG.exec, Fr, hb])
theorem st_end (hb : b.roundOf = none) : step P (lone (Fr b arr [] ds) cs w) = .next (lone { Fr b arr [] ds with mode := .returning } cs w) :=
  step_lone_go (by simp [stepG, stepG.exec, Fr, hb])
theorem st_region {id : Nat} : step P (lone (Fr b arr (.code (.region id ops false) :: k) ds) cs w) = .next (lone (Fr b arr (.inRegion ops (List.range ops.size) :: k) ds) cs w) :=
  step_lone_go (by simp [stepG, stepG.exec, Fr])
theorem st_region_draw {id : Nat} : step P (lone (Fr b arr (.code (.region id ops true) :: k) ds) cs w) =
    .next (lone (Fr b arr (.inRegion ops (Region.schedule (P.follows .mixedOrders) ops (w.tape w.drawn (.order b.fn id))) :: k) ds) cs { w with drawn := w.drawn + 1 }) :=
  step_lone_go (by simp [stepG, stepG.exec, Fr, choose, Sem.run, Question.forced, Question.cut])
theorem st_region_end : step P (lone (Fr b arr (.inRegion ops [] :: k) ds) cs w) = .next (lone (Fr b arr k ds) cs w) := step_lone_go (by simp [stepG, stepG.exec, Fr])
theorem st_op_skip {i : Nat} {rest : List Nat} (h : ((ops[i]?).map (Region.wanted · (yielded ops arr))).getD false = false) :
    step P (lone (Fr b arr (.inRegion ops (i :: rest) :: k) ds) cs w) = .next (lone (Fr b (putA arr ((ops[i]?).bind (·.dst)) undef) (.inRegion ops rest :: k) ds) cs w) := by
  rw [← Fr_finish]
  exact step_lone_go (by
    have h' := h
    simp only [Fr] at *
    simp [stepG, stepG.exec, h'])
theorem stepG_fr {i : Nat} {rest : List Nat} {o : Oper} (ho : ops[i]? = some o) (hw : Region.wanted o (yielded ops arr) = true) (hd : b.roundOf = none ∨ ∀ c, o.op ≠ .defer c) :
    stepG P true { frame := Fr b arr (.inRegion ops (i :: rest) :: k) ds, callers := cs, status := .running, dying := none } w =
      stepG.apply P true (Fr b arr (.inRegion ops (i :: rest) :: k) ds) cs none (execOp (Act.eval ⟨arr, ds⟩) o) w := by
  have he := Fr_eval b arr (.inRegion ops (i :: rest) :: k) ds
  simp only [Fr] at he
  simp only [stepG, stepG.exec, stepG.oper, Frame.oper?, Fr, ho, hw, he, Option.map_some, Option.getD_some, if_true]
  split
  · rename_i l c h1 h2
    rcases hd with hd | hd
    · rw [hd] at h1; cases h1
    · exact absurd h2 (hd c)
  · rfl
section
variable {i : Nat} {rest : List Nat} {o : Oper}
theorem st_value (ho : ops[i]? = some o) (hw : Region.wanted o (yielded ops arr) = true) (hd : b.roundOf = none ∨ ∀ c, o.op ≠ .defer c) {v : Value} (hr : (execOp (Act.eval ⟨arr, ds⟩) o).run P w = .ok (.value v) w') :
    step P (lone (Fr b arr (.inRegion ops (i :: rest) :: k) ds) cs w) = .next (lone (Fr b (putA arr o.dst v) (.inRegion ops rest :: k) ds) cs w') := by
  have hf := Fr_finish b arr ops i rest k ds v
  rw [ho] at hf
  refine step_lone_go ?_
  rw [stepG_fr ho hw hd, show putA arr o.dst v = putA arr ((some o).bind (·.dst)) v from rfl, ← hf]
  simp [stepG.apply, hr]
theorem st_unit (ho : ops[i]? = some o) (hw : Region.wanted o (yielded ops arr) = true) (hd : b.roundOf = none ∨ ∀ c, o.op ≠ .defer c) (hr : (execOp (Act.eval ⟨arr, ds⟩) o).run P w = .ok .skip w') :
    step P (lone (Fr b arr (.inRegion ops (i :: rest) :: k) ds) cs w) = .next (lone (Fr b (putA arr o.dst undef) (.inRegion ops rest :: k) ds) cs w') := by
  have hf := Fr_finish b arr ops i rest k ds undef
  rw [ho] at hf
  refine step_lone_go ?_
  rw [stepG_fr ho hw hd, show putA arr o.dst undef = putA arr ((some o).bind (·.dst)) undef from rfl, ← hf]
  simp [stepG.apply, hr]
theorem st_defer (ho : ops[i]? = some o) (hw : Region.wanted o (yielded ops arr) = true) (hd : b.roundOf = none ∨ ∀ c, o.op ≠ .defer c) {d : Deferred} (hr : (execOp (Act.eval ⟨arr, ds⟩) o).run P w = .ok (.defer d) w') :
    step P (lone (Fr b arr (.inRegion ops (i :: rest) :: k) ds) cs w) = .next (lone (Fr b (putA arr o.dst undef) (.inRegion ops rest :: k) (d :: ds)) cs w') := by
  have hf := Fr_finish b arr ops i rest k (d :: ds) undef
  rw [ho] at hf
  refine step_lone_go ?_
  rw [stepG_fr ho hw hd, show putA arr o.dst undef = putA arr ((some o).bind (·.dst)) undef from rfl, ← hf]
  simp only [stepG.apply, Sem.runT_eq, hr, GStep.bare_after]
  rfl
theorem st_enter (ho : ops[i]? = some o) (hw : Region.wanted o (yielded ops arr) = true) (hd : b.roundOf = none ∨ ∀ c, o.op ≠ .defer c) {f : FuncId} {args : Array Value} (hr : (execOp (Act.eval ⟨arr, ds⟩) o).run P w = .ok (.enter f args) w') :
    step P (lone (Fr b arr (.inRegion ops (i :: rest) :: k) ds) cs w) = .next (lone (Frame.enter P f args .normal) (Fr b arr (.inRegion ops (i :: rest) :: k) ds :: cs) w') := by
  refine step_lone_go ?_
  rw [stepG_fr ho hw hd]
  simp [stepG.apply, hr, Fr]
theorem st_panic (ho : ops[i]? = some o) (hw : Region.wanted o (yielded ops arr) = true) (hd : b.roundOf = none ∨ ∀ c, o.op ≠ .defer c) {v : Value} (hr : (execOp (Act.eval ⟨arr, ds⟩) o).run P w = .halt (.panic v) w') :
    step P (lone (Fr b arr (.inRegion ops (i :: rest) :: k) ds) cs w) = .next (lone { Fr b arr (.inRegion ops (i :: rest) :: k) ds with mode := .panicking [{ v, recovered := false }] } cs w') := by
  refine step_lone_go ?_
  rw [stepG_fr ho hw hd, ← Fr_raise]
  simp [stepG.apply, hr]
theorem st_recover (ho : ops[i]? = some o) (hw : Region.wanted o (yielded ops arr) = true) (hd : b.roundOf = none ∨ ∀ c, o.op ≠ .defer c) (hb : b.roundOf = none) {v : Value} {cs' : List Frame} (hr : (execOp (Act.eval ⟨arr, ds⟩) o).run P w = .ok .recover w') (ht : tryRecover (Fr b arr (.inRegion ops (i :: rest) :: k) ds) cs = some (v, cs')) :
    step P (lone (Fr b arr (.inRegion ops (i :: rest) :: k) ds) cs w) = .next (lone (Fr b (putA arr o.dst v) (.inRegion ops rest :: k) ds) cs' w') := by
  have hf := Fr_finish b arr ops i rest k ds v
  rw [ho] at hf
  refine step_lone_go ?_
  rw [stepG_fr ho hw hd, show putA arr o.dst v = putA arr ((some o).bind (·.dst)) v from rfl, ← hf]
  have hr0 : (Fr b arr (.inRegion ops (i :: rest) :: k) ds).roundOf = none := hb
  simp [stepG.apply, hr, hr0, ht]
theorem st_norecover (ho : ops[i]? = some o) (hw : Region.wanted o (yielded ops arr) = true) (hd : b.roundOf = none ∨ ∀ c, o.op ≠ .defer c) (hb : b.roundOf = none) (hr : (execOp (Act.eval ⟨arr, ds⟩) o).run P w = .ok .recover w') (ht : tryRecover (Fr b arr (.inRegion ops (i :: rest) :: k) ds) cs = none) :
    step P (lone (Fr b arr (.inRegion ops (i :: rest) :: k) ds) cs w) = .next (lone (Fr b (putA arr o.dst .nilIface) (.inRegion ops rest :: k) ds) cs w') := by
  have hf := Fr_finish b arr ops i rest k ds .nilIface
  rw [ho] at hf
  refine step_lone_go ?_
  rw [stepG_fr ho hw hd, show putA arr o.dst Value.nilIface = putA arr ((some o).bind (·.dst)) .nilIface from rfl, ← hf]
  have hr0 : (Fr b arr (.inRegion ops (i :: rest) :: k) ds).roundOf = none := hb
  simp [stepG.apply, hr, hr0, ht]
theorem st_round (ho : ops[i]? = some o) (hw : Region.wanted o (yielded ops arr) = true) (hd : b.roundOf = none ∨ ∀ c, o.op ≠ .defer c) {l fn : Nat} {tmps : Array Value} {assign body : Code} (hr : (execOp (Act.eval ⟨arr, ds⟩) o).run P w = .ok (.round l fn tmps assign body) w') :
    step P (lone (Fr b arr (.inRegion ops (i :: rest) :: k) ds) cs w) = .next (lone (Frame.round l fn tmps assign body .normal) (Fr b arr (.inRegion ops (i :: rest) :: k) ds :: cs) w') := by
  refine step_lone_go ?_
  rw [stepG_fr ho hw hd]
  simp [stepG.apply, hr]
end
theorem st_sel {i : Nat} {rest : List Nat} {o : Oper} (ho : ops[i]? = some o) (hw : Region.wanted o (yielded ops arr) = true) (hd : b.roundOf = none ∨ ∀ c, o.op ≠ .defer c) {c cap s r : Nat} {cl tm : Bool} {z : Value} (hr : (execOp (Act.eval ⟨arr, ds⟩) o).run P w = .ok (.comm #[Conc.rcase c z] false .select) w)
    (hc : w.heap[c]? = some (.chan cap #[] cl s r tm)) :
    step P (lone (Fr b arr (.inRegion ops (i :: rest) :: k) ds) cs w) = .next (lone (Fr b (putA arr o.dst (.tuple #[goInt (Bool.rec (-1) 0 cl), .bool false, z])) (.inRegion ops rest :: k) ds) cs w) := by
  have hf := Fr_finish b arr ops i rest k ds (.tuple #[goInt (Bool.rec (-1) 0 cl), .bool false, z])
  rw [ho] at hf
  have h2 : ∃ es, stepG.apply P true (Fr b arr (.inRegion ops (i :: rest) :: k) ds) cs none (execOp (Act.eval ⟨arr, ds⟩) o) w = .comm (Conc.G (Fr b arr (.inRegion ops (i :: rest) :: k) ds) cs) #[Conc.rcase c z] false .select w es := by
    simp only [stepG.apply, Sem.runT_eq, hr, if_true, GStep.after]
    exact ⟨_, rfl⟩
  have hg : ∃ es, stepG P true (Conc.G (Fr b arr (.inRegion ops (i :: rest) :: k) ds) cs) w = .comm (Conc.G (Fr b arr (.inRegion ops (i :: rest) :: k) ds) cs) #[Conc.rcase c z] false .select w es := by
    obtain ⟨es, h2⟩ := h2
    exact ⟨es, (stepG_fr (P := P) (b := b) (ds := ds) (cs := cs) (w := w) (k := k) (rest := rest) ho hw hd).trans h2⟩
  obtain ⟨es, hg⟩ := hg
  rw [show putA arr o.dst (.tuple #[goInt (Bool.rec (-1) 0 cl), .bool false, z]) = putA arr ((some o).bind (·.dst)) (.tuple #[goInt (Bool.rec (-1) 0 cl), .bool false, z]) from rfl, ← hf]
  rw [Conc.lone_eq_solo, Conc.lone_eq_solo]
  cases cl with
  | false => exact Conc.step_lone_select_default hg hc
  | true => exact Conc.step_lone_select_recv_shut hg hc
theorem st_range {f : Operand} {params : Array Tmp} {assign body : Code} {l : Nat} {mark : List Deferred} {g : FuncId} {xs : Array Value} {w1 : World} (hb : b.roundOf = none) (he : (Instr.enterLoop b.fn arr params assign body none).run P w = .ok (l, mark) w1)
    (hc : (do let d ← resolve (Act.eval ⟨arr, mark ++ ds⟩) { callee := .value f, args := #[.const (.func (.yield l) #[] #[])], argTypes := #[] } 0; invoke d.target d.args : Sem Next).run P w1 = .ok (.enter g xs) w1) :
    step P (lone (Fr b arr (.code (.rangeFunc f params assign body) :: k) ds) cs w) = .next (lone (Frame.enter P g xs .normal) (Fr b arr (.inRangeFunc l :: k) (mark ++ ds) :: cs) w1) := by
  refine step_lone_go ?_
  have hev := Fr_eval b arr (.inRangeFunc l :: k) (mark ++ ds)
  simp only [Fr, hb] at hev
  simp only [stepG, stepG.exec, Fr, hb, Sem.runT_eq, he, GStep.bare_after, hev, stepG.apply, hc, if_true, GStep.bare_go]
theorem st_endRange {l : Nat} {jump : Option Code} (he : (Instr.endLoop l).run P w = .ok jump w') :
    step P (lone (Fr b arr (.endRangeFunc l :: k) ds) cs w) = .next (lone (Fr b arr ((jump.map Item.code).toList ++ k) ds) cs w') :=
  step_lone_go (by simp [stepG, stepG.exec, Fr, he])
theorem st_begin {l : Nat} (hb : b.roundOf = some l) (he : (Instr.beginRound l).run P w = .ok () w') :
    step P (lone (Fr b arr (.beginRound :: k) ds) cs w) = .next (lone (Fr b arr k ds) cs w') :=
  step_lone_go (by simp [stepG, stepG.exec, stepG.apply, Fr, hb, he, Frame.finish])
theorem st_leave_end {l : Nat} {v : Value} {c : Frame} (hb : b.roundOf = some l) (hk : b.kind = .normal) (he : (Instr.endRound l none).run P w = .ok v w') :
    step P (lone (Fr b arr [] ds) (c :: cs) w) = .next (lone (c.finish v) cs w') :=
  step_lone_go (by simp [stepG, stepG.exec, Fr, hb, hk, he, doReturn])
theorem st_leave_ret {l : Nat} {v : Value} {c : Frame} (hb : b.roundOf = some l) (hk : b.kind = .normal) (he : (Instr.endRound l (some .ret)).run P w = .ok v w') :
    step P (lone (Fr b arr (.code .ret :: k) ds) (c :: cs) w) = .next (lone (c.finish v) cs w') :=
  step_lone_go (by simp [stepG, stepG.exec, Fr, hb, hk, he, doReturn])
theorem st_leave_exit {l id : Nat} {v : Value} {c : Frame} (hb : b.roundOf = some l) (hk : b.kind = .normal) (hx : exitTo id k = none) (he : (Instr.endRound l (some (.exit id))).run P w = .ok v w') :
    step P (lone (Fr b arr (.code (.exit id) :: k) ds) (c :: cs) w) = .next (lone (c.finish v) cs w') :=
  step_lone_go (by simp [stepG, stepG.exec, Fr, hb, hk, hx, he, doReturn])
end
/-! ### loops over functions -/
section
variable {P : Program} {w : World}
theorem loop_get {b : Nat} {r : Loop} (h : w.heap[b]? = some (.loop r)) : (Instr.getLoop b).run P w = .ok r w := by
  simp [Instr.getLoop, getObj, Sem.run, h]
theorem enterLoop_run (fn : FuncId) (arr : Array Value) (params : Array Tmp) (assign body : Code) : (Instr.enterLoop fn arr params assign body none).run P w =
    .ok (w.heap.size + 1, [{ target := .collected w.heap.size, args := #[] }]) { w with heap := (w.heap.push (.deferred (some []))).push (.loop { state := .ready, pending := none, fn, tmps := arr, params, assign, body, defers := w.heap.size }) } := by
  simp [Instr.enterLoop, newObj, Sem.run]
  rfl
theorem endLoop_run {b : Nat} {r : Loop} (h : w.heap[b]? = some (.loop r)) (hs : r.state ≠ .busy) : (Instr.endLoop b).run P w = .ok r.pending { w with heap := w.heap.setIfInBounds b (.loop { r with state := .exhausted }) } := by
  simp [Instr.endLoop, loop_get h, hs, setObj_run h]
theorem yield_run {b : Nat} {r : Loop} (h : w.heap[b]? = some (.loop r)) {args : Array Value} (hs : args.size = r.params.size) : (Instr.yield b args).run P w = .ok (.round b r.fn ((r.params.zip args).foldl (fun tmps (t, a) => tmps.setIfInBounds t a) r.tmps) r.assign r.body) w := by
  simp [Instr.yield, loop_get h, hs]
theorem begin_run {b : Nat} {r : Loop} (h : w.heap[b]? = some (.loop r)) (hs : r.state = .ready) : (Instr.beginRound b).run P w = .ok () { w with heap := w.heap.setIfInBounds b (.loop { r with state := .busy }) } := by
  simp [Instr.beginRound, loop_get h, hs, setObj_run h]
theorem endRound_run {b : Nat} {r : Loop} (h : w.heap[b]? = some (.loop r)) (j : Option Code) : (Instr.endRound b j).run P w = .ok (.bool j.isNone) { w with heap := w.heap.setIfInBounds b (.loop { r with state := if j.isNone then .ready else .done, pending := j }) } := by
  simp [Instr.endRound, loop_get h, setObj_run h]
theorem take_run {b : Nat} (h : w.heap[b]? = some (.deferred (some []))) : (Instr.takeDeferred b).run P w = .ok [] { w with heap := w.heap.setIfInBounds b (.deferred none) } := by
  simp [Instr.takeDeferred, getObj, Sem.run, h, setObj_run h]
theorem st_take {fr : Frame} {cs : List Frame} {w' : World} {b : Nat} {ds : List Deferred} (hm : fr.mode ≠ .run) (hd : fr.defers = { target := .collected b, args := #[] } :: ds) (he : (Instr.takeDeferred b).run P w = .ok [] w') :
    step P (lone fr cs w) = .next (lone { fr with defers := ds } cs w') := by
  refine step_lone_go ?_
  cases hmode : fr.mode with
  | run => exact absurd hmode hm
  | returning => simp [stepG, unwind, hmode, hd, he]
  | panicking chain => simp [stepG, unwind, hmode, hd, he]
end

/-! ### what is said of a piece of code -/
def Ends (P : Program) (E : Env) (b : Frame) (k : List Item) (arr : Array Value) (ds : List Deferred) (cs : List Frame) (w : World) (m : Machine) : Ex → Prop
  | .normal => Steps P m (lone (Fr b arr k ds) cs w)
  | .exit id => ∃ j, exitTo id (j ++ k) = exitTo id k ∧ Steps P m (lone (Fr b arr (.code (.exit id) :: (j ++ k)) ds) cs w)
  | .ret => ∃ j, Steps P m (lone (Fr b arr (.code .ret :: j) ds) cs w)
  | .pan v => ∃ x j, VR E v x ∧ Steps P m (lone { Fr b arr j ds with mode := .panicking [{ v := x, recovered := false }] } cs w)
theorem Ends.of_steps {P : Program} {E : Env} {b : Frame} {k : List Item} {arr : Array Value} {ds : List Deferred} {cs : List Frame} {w : World} {m m' : Machine} {ex : Ex} (h : Steps P m m') (h' : Ends P E b k arr ds cs w m' ex) : Ends P E b k arr ds cs w m ex := by
  cases ex with
  | normal => exact h.trans h'
  | exit id => obtain ⟨j, e, s⟩ := h'; exact ⟨j, e, h.trans s⟩
  | ret => obtain ⟨j, s⟩ := h'; exact ⟨j, h.trans s⟩
  | pan v => obtain ⟨x, j, e, s⟩ := h'; exact ⟨x, j, e, h.trans s⟩
inductive DsR (E : Env) : List AD → List Deferred → Prop
  | nil : DsR E [] []
  | call {f : FuncId} {args cap : List AV} {xs ys : List Value} {ds : List AD} {dv : List Deferred} (h1 : VRs E args xs) (h2 : VRs E cap ys) (h : DsR E ds dv) : DsR E (.call f args cap :: ds) ({ target := .fn (.func f) ys.toArray, args := xs.toArray } :: dv)
  | mark {l : P} {b c : Nat} {ds : List AD} {dv : List Deferred} (h1 : E.ρ l = some (b, c)) (h : DsR E ds dv) : DsR E (.mark l :: ds) ({ target := .collected b, args := #[] } :: dv)
theorem DsR.mono {E E' : Env} (h : E.le E') : ∀ {ds : List AD} {dv : List Deferred}, DsR E ds dv → DsR E' ds dv
  | _, _, .nil => .nil
  | _, _, .call h1 h2 h3 => .call (h1.mono h) (h2.mono h) (DsR.mono h h3)
  | _, _, .mark h1 h2 => .mark (h.2 _ _ h1) (DsR.mono h h2)
inductive RcR (E : Env) (b : Frame) : RC → List Frame → Prop
  | no (hb : b.roundOf = none) (hk : b.kind = .normal) (cs : List Frame) : RcR E b .no cs
  | ret (hb : b.roundOf = none) (hk : b.kind = .deferred) {c : Frame} {cs : List Frame} (hm : c.mode = .returning) : RcR E b .no (c :: cs)
  | avail (hb : b.roundOf = none) (hk : b.kind = .deferred) {c : Frame} {cs : List Frame} {v : AV} {x : Value} (hm : c.mode = .panicking [{ v := x, recovered := false }]) (hv : VR E v x) : RcR E b (.avail v) (c :: cs)
  | used (hb : b.roundOf = none) (hk : b.kind = .deferred) {c : Frame} {cs : List Frame} {x : Value} (hm : c.mode = .panicking [{ v := x, recovered := true }]) : RcR E b .used (c :: cs)
  | bar (cs : List Frame) : RcR E b .bar cs
theorem RcR.mono {E E' : Env} (h : E.le E') {b : Frame} {rc : RC} {cs : List Frame} (k : RcR E b rc cs) : RcR E' b rc cs := by
  cases k with
  | no a c => exact .no a c _
  | ret a c d => exact .ret a c d
  | avail a c d e => exact .avail a c d (e.mono h)
  | used a c d => exact .used a c d
  | bar => exact .bar _
theorem RcR.round {E : Env} {b : Frame} {rc : RC} {cs : List Frame} (h : RcR E b rc cs) (hn : rc ≠ .bar) : b.roundOf = none := by
  cases h with
  | no a c => exact a
  | ret a c d => exact a
  | avail a c d e => exact a
  | used a c d => exact a
  | bar => exact absurd rfl hn
def Mod (b : Frame) (cs cs' : List Frame) : Prop := cs' = cs ∨ (b.kind = .deferred ∧ ∃ c r m, cs = c :: r ∧ cs' = { c with mode := m } :: r)
theorem Mod.refl (b : Frame) (cs : List Frame) : Mod b cs cs := .inl rfl
theorem Mod.trans {b : Frame} {cs cs' cs'' : List Frame} (h : Mod b cs cs') (k : Mod b cs' cs'') : Mod b cs cs'' := by
  rcases h with rfl | ⟨hk, c, r, m, rfl, rfl⟩
  · exact k
  · rcases k with rfl | ⟨_, c', r', m', e, rfl⟩
    · exact .inr ⟨hk, c, r, m, rfl, rfl⟩
    · cases e; exact .inr ⟨hk, c, r, m', rfl, rfl⟩
variable {G : Program} {W0 : World} {cf : Cf}
structure St (G : Program) (W0 : World) (n : Nat) (b : Frame) (tm : PT AV) (ds : List AD) (H : Hp) (rc : RC) (E : Env) (w : World) (arr : Array Value) (dv : List Deferred) (cs : List Frame) : Prop where
  hr : HR G W0 E H.f H.nx.toNat w
  sz : arr.size = n
  tr : TR E tm arr
  ds : DsR E ds dv
  rc : RcR E b rc cs
structure Out (G : Program) (W0 : World) (n : Nat) (b : Frame) (H : Hp) (E : Env) (w : World) (cs : List Frame) (tm' : PT AV) (ds' : List AD) (H' : Hp) (rc' : RC) (E' : Env) (w' : World) (arr' : Array Value) (dv' : List Deferred) (cs' : List Frame) : Prop where
  mv : Mv G W0 E H.f H.nx.toNat w E' H'.f H'.nx.toNat w'
  st : St G W0 n b tm' ds' H' rc' E' w' arr' dv' cs'
  md : Mod b cs cs'
theorem Out.trans {n : Nat} {b : Frame} {H H' H'' : Hp} {E E' E'' : Env} {w w' w'' : World} {cs cs' cs'' : List Frame} {tm' tm'' : PT AV} {ds' ds'' : List AD} {rc' rc'' : RC} {arr' arr'' : Array Value} {dv' dv'' : List Deferred}
    (h : Out G W0 n b H E w cs tm' ds' H' rc' E' w' arr' dv' cs') (k : Out G W0 n b H' E' w' cs' tm'' ds'' H'' rc'' E'' w'' arr'' dv'' cs'') : Out G W0 n b H E w cs tm'' ds'' H'' rc'' E'' w'' arr'' dv'' cs'' :=
  ⟨h.mv.trans k.mv, k.st, h.md.trans k.md⟩
def CodeOk (G : Program) (W0 : World) (n : Nat) (b : Frame) (H : Hp) (E : Env) (w : World) (cs : List Frame) (m : Machine) (k : List Item) : CR → Prop
  | .ok ex tm' ds' H' rc' => ∃ E' w' arr' dv' cs', Out G W0 n b H E w cs tm' ds' H' rc' E' w' arr' dv' cs' ∧ Ends G E' b k arr' dv' cs' w' m ex
  | .err _ => True
theorem CodeOk.then {n : Nat} {b : Frame} {H H' : Hp} {E E' : Env} {w w' : World} {cs cs' : List Frame} {m m' : Machine} {k : List Item} {tm' : PT AV} {ds' : List AD} {rc' : RC} {arr' : Array Value} {dv' : List Deferred} {r : CR}
    (o : Out G W0 n b H E w cs tm' ds' H' rc' E' w' arr' dv' cs') (h : Steps G m m') (h' : CodeOk G W0 n b H' E' w' cs' m' k r) : CodeOk G W0 n b H E w cs m k r := by
  cases r with
  | err => trivial
  | ok ex tm'' ds'' H'' rc'' =>
    obtain ⟨E2, w2, a2, d2, c2, o2, e2⟩ := h'
    exact ⟨E2, w2, a2, d2, c2, o.trans o2, e2.of_steps h⟩
/-- what a call comes to -/
def CallRes (G : Program) (W0 : World) (E : Env) (H : Hp) (w : World) (f : FuncId) (xs : List Value) : KR → Prop
  | .ret v H' => Calls G f xs.toArray w fun e w' => ∃ E' x, e = .returned x ∧ Mv G W0 E H.f H.nx.toNat w E' H'.f H'.nx.toNat w' ∧ VR E' v x
  | .pan v H' => Calls G f xs.toArray w fun e w' => ∃ E' x, e = .panicked [{ v := x, recovered := false }] ∧ Mv G W0 E H.f H.nx.toNat w E' H'.f H'.nx.toNat w' ∧ VR E' v x
  | .err _ => True
def CallOk (G : Program) (W0 : World) (cf : Cf) (call : CallF) : Prop := ∀ f args H E w xs, cf.ok E.σ → HR G W0 E H.f H.nx.toNat w → VRs E args xs → CallRes G W0 E H w f xs (call f args H)
/-- what a round comes to -/
def RndRes (G : Program) (W0 : World) (E : Env) (H : Hp) (w : World) (b : Nat) (xs : List Value) : KR → Prop
  | .ret v H' => ∃ fn tmps assign body, (Instr.yield b xs.toArray).run G w = .ok (.round b fn tmps assign body) w ∧ ∀ (c : Frame) (cs : List Frame), ∃ E' w' x, Mv G W0 E H.f H.nx.toNat w E' H'.f H'.nx.toNat w' ∧ VR E' v x ∧
      Steps G (lone (Frame.round b fn tmps assign body .normal) (c :: cs) w) (lone (c.finish x) cs w')
  | .pan v H' => ∃ fn tmps assign body, (Instr.yield b xs.toArray).run G w = .ok (.round b fn tmps assign body) w ∧ ∀ (c : Frame) (cs : List Frame), ∃ E' w' x, Mv G W0 E H.f H.nx.toNat w E' H'.f H'.nx.toNat w' ∧ VR E' v x ∧
      Steps G (lone (Frame.round b fn tmps assign body .normal) (c :: cs) w) (lone (c.raise [{ v := x, recovered := false }]) cs w')
  | .err _ => True
def RndOk (G : Program) (W0 : World) (cf : Cf) (rnd : RndF) : Prop := ∀ l args H E w xs b c, cf.ok E.σ → HR G W0 E H.f H.nx.toNat w → E.ρ l = some (b, c) → VRs E args xs → RndRes G W0 E H w b xs (rnd l args H)
/-! ### temporaries -/
noncomputable def putF (n : Nat) (d : Option Nat) (tm : PT AV) (v : AV) : Option (PT AV) := match d with
  | none => some tm
  | some t => match Nat.ble (Nat.succ t) n with
    | true => some (PT.put (P.of t) tm (some v))
    | false => none
theorem putT_eq {R : Type} (n : Nat) (d : Option Nat) (tm : PT AV) (v : AV) (K : Option (PT AV) → R) : putT n d tm v K = K (putF n d tm v) := by
  unfold putT putF
  cases d with
  | none => rfl
  | some t =>
    simp only
    split
    · rename_i h; first | (rw [PT.putK_eq]; done) | (rw [PT.putK_eq]; simp only [h])
    · rename_i h; first | rfl | simp only [h]
theorem putF_ok {E : Env} {n : Nat} {d : Option Nat} {tm tm' : PT AV} {v : AV} {x : Value} {arr : Array Value} (h : putF n d tm v = some tm') (ht : TR E tm arr) (hs : arr.size = n) (hv : VR E v x) : TR E tm' (putA arr d x) := by
  unfold putF at h
  cases d with
  | none => cases h; exact ht
  | some t =>
    simp only at h
    split at h
    · rename_i hl
      cases h
      exact ht.set (by have := Nat.le_of_ble_eq_true hl; omega) hv
    · cases h
theorem wantO_ok {E : Env} {ops : Array Oper} {o : Oper} {tm : PT AV} {arr : Array Value} {r : Bool} (ht : TR E tm arr) (h : wantO ops.toList o tm = some r) : Region.wanted o (yielded ops arr) = r := by
  unfold wantO at h
  unfold Region.wanted
  split at h
  · rename_i hg; cases h; rw [hg]
  · rename_i j want hg
    rw [hg]
    simp only
    split at h
    · rename_i oj hj
      rw [nthL_eq] at hj
      have hj' : ops[j]? = some oj := by simpa using hj
      split at h
      · rename_i t hdst
        split at h
        · rename_i bl hb
          cases h
          obtain ⟨x, hx, hv⟩ := ht t _ hb
          cases hv
          have : yielded ops arr j = some bl := by simp [yielded, hj', hdst, hx]
          rw [this]
          cases bl <;> cases want <;> rfl
        · rename_i l hb
          cases h
          obtain ⟨x, hx, hv⟩ := ht t _ hb
          cases hv
          have : yielded ops arr j = none := by simp [yielded, hj', hdst, hx]
          rw [this]; rfl
        · cases h
      · rename_i hdst
        cases h
        have : yielded ops arr j = none := by simp [yielded, hj', hdst]
        rw [this]; rfl
    · rename_i hj
      cases h
      rw [nthL_eq] at hj
      have hj' : ops[j]? = none := by simpa using hj
      have : yielded ops arr j = none := by simp [yielded, hj']
      rw [this]; rfl
theorem opK_defer {o : Oper} {c : Call} {ev : Operand → Option AV} {H : Hp} (h : o.op = .defer c) : (∃ f a cap, opK G cf o ev H = .defer f a cap) ∨ ∃ n, opK G cf o ev H = .err n := by
  unfold opK
  rw [h]
  simp only
  split
  · split
    · exact .inl ⟨_, _, _, rfl⟩
    · exact .inr ⟨_, rfl⟩
  · exact .inr ⟨_, rfl⟩
theorem vr_undef (E : Env) : VR E (.tup []) undef := .tup .nil
end Go.Ai

/- A region in the row of its text. -/
namespace Go.Ai
open Go Go.RowKit
set_option linter.unusedVariables false
variable {G : Program} {W0 : World} {cf : Cf}
theorem regK_cons (call : CallF) (rnd : RndF) (n : Nat) (ops : List Oper) (o : Oper) (rest : List Oper) (tm : PT AV) (ds : List AD) (H : Hp) (rc : RC) :
    regK G cf call rnd n ops (o :: rest) tm ds H rc = match wantO ops o tm with
    | none => .err 60
    | some false => putT n o.dst tm (.tup []) (fun r => match r with | some tm => regK G cf call rnd n ops rest tm ds H rc | none => .err 61)
    | some true => match opK G cf o (evO tm) H with
      | .rd v => putT n o.dst tm v (fun r => match r with | some tm => regK G cf call rnd n ops rest tm ds H rc | none => .err 61)
      | .al ob mk => P.nextK H.nx (fun nx' => PT.putK H.nx H.tab (some ob) (fun t' => putT n o.dst tm (mk H.nx) (fun r => match r with | some tm => regK G cf call rnd n ops rest tm ds ⟨nx', t'⟩ rc | none => .err 61)))
      | .wv v H => putT n o.dst tm v (fun r => match r with | some tm => regK G cf call rnd n ops rest tm ds H rc | none => .err 61)
      | .wu H => putT n o.dst tm (.tup []) (fun r => match r with | some tm => regK G cf call rnd n ops rest tm ds H rc | none => .err 61)
      | .call f args => match call f args H with
        | .ret v H => putT n o.dst tm v (fun r => match r with | some tm => regK G cf call rnd n ops rest tm ds H rc | none => .err 61)
        | .pan v H => .ok (.pan v) tm ds H rc
        | .err k => .err k
      | .defer f args cap => match rc with
        | .bar => .err 63
        | _ => putT n o.dst tm (.tup []) (fun r => match r with | some tm => regK G cf call rnd n ops rest tm (.call f args cap :: ds) H rc | none => .err 61)
      | .recover => match rc with
        | .bar => .err 63
        | .avail v => putT n o.dst tm v (fun r => match r with | some tm => regK G cf call rnd n ops rest tm ds H .used | none => .err 61)
        | _ => putT n o.dst tm .if0 (fun r => match r with | some tm => regK G cf call rnd n ops rest tm ds H rc | none => .err 61)
      | .pan v => .ok (.pan v) tm ds H rc
      | .sel v => putT n o.dst tm v (fun r => match r with | some tm => regK G cf call rnd n ops rest tm ds H rc | none => .err 61)
      | .yield l args => match rnd l args H with
        | .ret v H => putT n o.dst tm v (fun r => match r with | some tm => regK G cf call rnd n ops rest tm ds H rc | none => .err 61)
        | .pan v H => .ok (.pan v) tm ds H rc
        | .err k => .err k
      | .err k => .err k := by
  have key : ∀ (ds : List AD) (H : Hp) (rc : RC) (v : AV), sRd n o.dst (regK G cf call rnd n ops rest) tm ds H rc v = putT n o.dst tm v (fun r => match r with | some tm => regK G cf call rnd n ops rest tm ds H rc | none => .err 61) :=
    fun ds H rc v => putC_eq n o.dst tm v (fun tm => regK G cf call rnd n ops rest tm ds H rc)
  change regS G cf call rnd n ops o (regK G cf call rnd n ops rest) tm ds H rc = _
  unfold regS
  rw [wantF_eq]
  cases wantO ops o tm with
  | none => rfl
  | some b =>
    cases b with
    | false => exact key ds H rc (.tup [])
    | true =>
      change regDo G cf call rnd n o o.dst (regK G cf call rnd n ops rest) tm ds H rc = _
      unfold regDo
      rw [opF_eq]
      cases opK G cf o (evO tm) H with
      | rd v => exact key ds H rc v
      | wv v H => exact key ds H rc v
      | wu H => exact key ds H rc (.tup [])
      | al ob mk => exact congrArg (P.nextK H.nx) (funext fun nx' => congrArg (PT.putK H.nx H.tab (some ob)) (funext fun t' => putC_eq n o.dst tm (mk H.nx) (fun tm => regK G cf call rnd n ops rest tm ds ⟨nx', t'⟩ rc)))
      | call f args =>
        change sEnd n o.dst (regK G cf call rnd n ops rest) tm ds rc (call f args H) = match call f args H with
          | .ret v H => putT n o.dst tm v (fun r => match r with | some tm => regK G cf call rnd n ops rest tm ds H rc | none => .err 61)
          | .pan v H => .ok (.pan v) tm ds H rc
          | .err k => .err k
        cases call f args H with
        | ret v H => exact key ds H rc v
        | pan v H => rfl
        | err k => rfl
      | defer f args cap =>
        cases rc with
        | bar => rfl
        | no => exact key (.call f args cap :: ds) H .no (.tup [])
        | avail v => exact key (.call f args cap :: ds) H (.avail v) (.tup [])
        | used => exact key (.call f args cap :: ds) H .used (.tup [])
      | recover =>
        cases rc with
        | bar => rfl
        | no => exact key ds H .no .if0
        | avail v => exact key ds H .used v
        | used => exact key ds H .used .if0
      | yield l a =>
        change sEnd n o.dst (regK G cf call rnd n ops rest) tm ds rc (rnd l a H) = match rnd l a H with
          | .ret v H => putT n o.dst tm v (fun r => match r with | some tm => regK G cf call rnd n ops rest tm ds H rc | none => .err 61)
          | .pan v H => .ok (.pan v) tm ds H rc
          | .err k => .err k
        cases rnd l a H with
        | ret v H => exact key ds H rc v
        | pan v H => rfl
        | err k => rfl
      | pan v => rfl
      | sel v => exact key ds H rc v
      | err k => rfl
/-- one more operation done: on with the rest -/
theorem go_on {n : Nat} {b : Frame} {H H' : Hp} {E E' : Env} {w w' : World} {cs cs' : List Frame} {m m' : Machine} {k : List Item} {tm : PT AV} {v : AV} {x : Value} {ds' : List AD} {rc' : RC} {arr : Array Value} {dv' : List Deferred} {d : Option Nat} {F : PT AV → CR}
    (htr : TR E tm arr) (hsz : arr.size = n) (hmv : Mv G W0 E H.f H.nx.toNat w E' H'.f H'.nx.toNat w') (hv : VR E' v x) (hds : DsR E' ds' dv') (hrc : RcR E' b rc' cs') (hmd : Mod b cs cs') (hst : Steps G m m')
    (next : ∀ tm', St G W0 n b tm' ds' H' rc' E' w' (putA arr d x) dv' cs' → CodeOk G W0 n b H' E' w' cs' m' k (F tm')) :
    CodeOk G W0 n b H E w cs m k (putT n d tm v (fun r => match r with | some tm => F tm | none => .err 61)) := by
  rw [putT_eq]
  cases hp : putF n d tm v with
  | none => trivial
  | some tm' =>
    have st : St G W0 n b tm' ds' H' rc' E' w' (putA arr d x) dv' cs' := ⟨hmv.hr, by rw [putA_size]; exact hsz, putF_ok hp (htr.mono hmv.le) hsz hv, hds, hrc⟩
    exact CodeOk.then ⟨hmv, st, hmd⟩ hst (next tm' st)
theorem regK_ok [GlOk cf.gl W0] {call : CallF} {rnd : RndF} (hcall : CallOk G W0 cf call) (hrnd : RndOk G W0 cf rnd) {n : Nat} {b : Frame} {ops : Array Oper} : ∀ (rest : List Oper) (i : Nat), ops.toList.drop i = rest → ∀ (tm : PT AV) (ds : List AD) (H : Hp) (rc : RC) (E : Env) (w : World) (arr : Array Value) (dv : List Deferred) (cs : List Frame) (k : List Item),
    cf.ok E.σ → St G W0 n b tm ds H rc E w arr dv cs →
    CodeOk G W0 n b H E w cs (lone (Fr b arr (.inRegion ops (List.range' i rest.length) :: k) dv) cs w) k (regK G cf call rnd n ops.toList rest tm ds H rc) := by
  intro rest
  induction rest with
  | nil =>
    intro i _ tm ds H rc E w arr dv cs k hcf st
    exact ⟨E, w, arr, dv, cs, ⟨Mv.refl st.hr, st, .refl _ _⟩, .one st_region_end⟩
  | cons o rest ih =>
    intro i hdrop tm ds H rc E w arr dv cs k hcf st
    have hdrop' : ops.toList.drop (i + 1) = rest := by
      rw [← List.drop_drop, hdrop]; rfl
    have ho : ops[i]? = some o := by
      have : ops.toList[i]? = some o := by
        have := List.getElem?_drop (xs := ops.toList) (i := i) (j := 0)
        rw [hdrop] at this
        simpa using this.symm
      simpa using this
    have hrange : List.range' i (o :: rest).length = i :: List.range' (i + 1) rest.length := by simp [List.range'_succ]
    rw [hrange, regK_cons]
    have IH := ih (i + 1) hdrop'
    cases hwant : wantO ops.toList o tm with
    | none => trivial
    | some bl =>
    have hw := wantO_ok st.tr hwant
    cases bl with
    | false =>
      refine go_on st.tr st.sz (Mv.refl st.hr) (vr_undef E) st.ds st.rc (.refl _ _) (.one ?_) (fun tm' st' => IH tm' ds H rc E w _ dv cs k hcf st')
      have := st_op_skip (P := G) (b := b) (arr := arr) (ds := dv) (k := k) (cs := cs) (w := w) (ops := ops) (i := i) (rest := List.range' (i + 1) rest.length) (by simp [ho, hw])
      rw [ho] at this
      exact this
    | true =>
    have hop := opK_ok hcf st.hr (o := o) (evO_ok (a := ⟨arr, dv⟩) st.tr)
    have hbar : ∀ {q}, q = opK G cf o (evO tm) H → (∀ f a c, q ≠ .defer f a c) → (∀ e, q ≠ .err e) → b.roundOf = none ∨ ∀ c, o.op ≠ .defer c := by
      intro q hq h1 h2
      refine .inr fun c hc => ?_
      rcases opK_defer (G := G) (cf := cf) (ev := evO tm) (H := H) hc with ⟨f, a, cap, e⟩ | ⟨e, he⟩
      · exact h1 f a cap (hq.trans e)
      · exact h2 e (hq.trans he)
    simp only
    generalize hq : opK G cf o (evO tm) H = q at hop
    cases q with
    | err e => trivial
    | yield l a =>
      obtain ⟨bl, cl, xs, hρ, hrun, hxs⟩ := hop
      have hb := hbar hq.symm (by simp) (by simp)
      have hc := hrnd l a H E w xs bl cl hcf st.hr hρ hxs
      simp only
      cases hr : rnd l a H with
      | err e => trivial
      | ret v H' =>
        rw [hr] at hc
        obtain ⟨fn, tmps, assign, body, hy, hc⟩ := hc
        obtain ⟨E', w', x, mv, hv, hsteps⟩ := hc (Fr b arr (.inRegion ops (i :: List.range' (i + 1) rest.length) :: k) dv) cs
        refine go_on st.tr st.sz mv hv (st.ds.mono mv.le) (st.rc.mono mv.le) (.refl _ _) (.head (st_round ho hw hb (hrun.trans hy)) ?_) (fun tm' st' => IH tm' ds H' rc E' w' _ dv cs k (by rw [mv.le.1]; exact hcf) st')
        rw [Fr_finish, ho] at hsteps
        exact hsteps
      | pan v H' =>
        rw [hr] at hc
        obtain ⟨fn, tmps, assign, body, hy, hc⟩ := hc
        obtain ⟨E', w', x, mv, hv, hsteps⟩ := hc (Fr b arr (.inRegion ops (i :: List.range' (i + 1) rest.length) :: k) dv) cs
        exact ⟨E', w', arr, dv, cs, ⟨mv, ⟨mv.hr, st.sz, st.tr.mono mv.le, st.ds.mono mv.le, st.rc.mono mv.le⟩, .refl _ _⟩, x, .inRegion ops (i :: List.range' (i + 1) rest.length) :: k, hv, .head (st_round ho hw hb (hrun.trans hy)) hsteps⟩
    | sel v =>
      obtain ⟨c, z, cap, sn, rcv, cl, tmr, hrun, hch, hv⟩ := hop
      exact go_on st.tr st.sz (Mv.refl st.hr) hv st.ds st.rc (.refl _ _) (.one (st_sel ho hw (hbar hq.symm (by simp) (by simp)) hrun hch)) (fun tm' st' => IH tm' ds H rc E w _ dv cs k hcf st')
    | rd v =>
      obtain ⟨x, hrun, hv⟩ := hop
      exact go_on st.tr st.sz (Mv.refl st.hr) hv st.ds st.rc (.refl _ _) (.one (st_value ho hw (hbar hq.symm (by simp) (by simp)) hrun)) (fun tm' st' => IH tm' ds H rc E w _ dv cs k hcf st')
    | al ob mk =>
      obtain ⟨obj, x, nn, c, hrun, hal⟩ := hop
      simp only
      rw [P.nextK_eq, PT.putK_eq]
      have hnone : E.ρ H.nx = none := by
        cases hρ : E.ρ H.nx with
        | none => rfl
        | some y => exact absurd (st.hr.dom _ _ hρ) (by omega)
      have hE := Env.le_add (x := (w.heap.size, c)) hnone
      obtain ⟨hor, hvr⟩ := hal _ H.nx hE (Env.add_same _ _ _)
      have mv := Mv.new st.hr hnone (nx' := (P.next H.nx).toNat) (by rw [P.toNat_next]; omega) (by rw [P.toNat_next]; omega) c hor (Nat.le_refl _)
      have mv2 := mv.trans (Mv.same (w' := { w with heap := w.heap.push obj, drawn := w.drawn + nn }) mv.hr rfl rfl rfl rfl)
      have mv3 : Mv G W0 E H.f H.nx.toNat w (E.add H.nx (w.heap.size, c)) (Hp.f ⟨P.next H.nx, PT.put H.nx H.tab (some ob)⟩) (P.next H.nx).toNat { w with heap := w.heap.push obj, drawn := w.drawn + nn } := by
        have : Hp.f ⟨P.next H.nx, PT.put H.nx H.tab (some ob)⟩ = upd H.f H.nx (some ob) := put_upd _ _ _
        rw [this]; exact mv2
      exact go_on (H' := ⟨P.next H.nx, PT.put H.nx H.tab (some ob)⟩) st.tr st.sz mv3 hvr (st.ds.mono mv3.le) (st.rc.mono mv3.le) (.refl _ _) (.one (st_value ho hw (hbar hq.symm (by simp) (by simp)) hrun)) (fun tm' st' => IH tm' ds _ rc _ _ _ dv cs k hcf st')
    | wv v H' =>
      obtain ⟨x, w', E', hrun, mv, hv⟩ := hop
      exact go_on st.tr st.sz mv hv (st.ds.mono mv.le) (st.rc.mono mv.le) (.refl _ _) (.one (st_value ho hw (hbar hq.symm (by simp) (by simp)) hrun)) (fun tm' st' => IH tm' ds H' rc E' w' _ dv cs k (by rw [mv.le.1]; exact hcf) st')
    | wu H' =>
      obtain ⟨w', E', hrun, mv⟩ := hop
      exact go_on st.tr st.sz mv (vr_undef E') (st.ds.mono mv.le) (st.rc.mono mv.le) (.refl _ _) (.one (st_unit ho hw (hbar hq.symm (by simp) (by simp)) hrun)) (fun tm' st' => IH tm' ds H' rc E' w' _ dv cs k (by rw [mv.le.1]; exact hcf) st')
    | call f args =>
      obtain ⟨xs, hrun, hxs⟩ := hop
      have hb := hbar hq.symm (by simp) (by simp)
      have hc := hcall f args H E w xs hcf st.hr hxs
      simp only
      cases hr : call f args H with
      | err e => trivial
      | ret v H' =>
        rw [hr] at hc
        obtain ⟨e, w', fr, ⟨E', x, rfl, mv, hv⟩, hsteps, _, hleave⟩ := hc (Fr b arr (.inRegion ops (i :: List.range' (i + 1) rest.length) :: k) dv :: cs)
        refine go_on st.tr st.sz mv hv (st.ds.mono mv.le) (st.rc.mono mv.le) (.refl _ _) (.head (st_enter ho hw hb hrun) (hsteps.trans (.one ?_))) (fun tm' st' => IH tm' ds H' rc E' w' _ dv cs k (by rw [mv.le.1]; exact hcf) st')
        have := step_leave_returned (c := Fr b arr (.inRegion ops (i :: List.range' (i + 1) rest.length) :: k) dv) (cs := cs) hleave
        rw [Fr_finish, ho] at this
        exact this
      | pan v H' =>
        rw [hr] at hc
        obtain ⟨e, w', fr, ⟨E', x, rfl, mv, hv⟩, hsteps, _, hleave⟩ := hc (Fr b arr (.inRegion ops (i :: List.range' (i + 1) rest.length) :: k) dv :: cs)
        refine ⟨E', w', arr, dv, cs, ⟨mv, ⟨mv.hr, st.sz, st.tr.mono mv.le, st.ds.mono mv.le, st.rc.mono mv.le⟩, .refl _ _⟩, x, .inRegion ops (i :: List.range' (i + 1) rest.length) :: k, hv, .head (st_enter ho hw hb hrun) (hsteps.trans (.one ?_))⟩
        exact step_leave_panicked (c := Fr b arr (.inRegion ops (i :: List.range' (i + 1) rest.length) :: k) dv) (cs := cs) hleave
    | defer f args cap =>
      obtain ⟨xs, ys, hrun, h1, h2⟩ := hop
      have fin : rc ≠ .bar → CodeOk G W0 n b H E w cs (lone (Fr b arr (.inRegion ops (i :: List.range' (i + 1) rest.length) :: k) dv) cs w) k (putT n o.dst tm (.tup []) (fun r => match r with | some tm => regK G cf call rnd n ops.toList rest tm (.call f args cap :: ds) H rc | none => .err 61)) := by
        intro hne
        exact go_on st.tr st.sz (Mv.refl st.hr) (vr_undef E) (.call h1 h2 st.ds) st.rc (.refl _ _) (.one (st_defer ho hw (.inl (st.rc.round hne)) hrun)) (fun tm' st' => IH tm' _ H rc E w _ _ cs k hcf st')
      cases rc with
      | bar => trivial
      | no => exact fin (by simp)
      | avail v => exact fin (by simp)
      | used => exact fin (by simp)
    | recover =>
      have hb := hbar hq.symm (by simp) (by simp)
      have hrun : (execOp (Act.eval ⟨arr, dv⟩) o).run G w = .ok .recover w := hop
      have hif : VR E .if0 .nilIface := .if0
      cases hrc : st.rc with
      | bar => trivial
      | no h1 h2 =>
        refine go_on st.tr st.sz (Mv.refl st.hr) hif st.ds st.rc (.refl _ _) (.one (st_norecover ho hw hb h1 hrun ?_)) (fun tm' st' => IH tm' ds H _ E w _ dv _ k hcf st')
        simp [tryRecover, Fr, h2]
      | ret h1 h2 hm =>
        refine go_on st.tr st.sz (Mv.refl st.hr) hif st.ds st.rc (.refl _ _) (.one (st_norecover ho hw hb h1 hrun ?_)) (fun tm' st' => IH tm' ds H _ E w _ dv _ k hcf st')
        simp [tryRecover, Fr, h2, hm]
      | used h1 h2 hm =>
        refine go_on st.tr st.sz (Mv.refl st.hr) hif st.ds st.rc (.refl _ _) (.one (st_norecover ho hw hb h1 hrun ?_)) (fun tm' st' => IH tm' ds H _ E w _ dv _ k hcf st')
        simp [tryRecover, Fr, h2, hm]
      | avail h1 h2 hm hv =>
        rename_i c cs0 v x
        refine go_on (cs' := { c with mode := .panicking [{ v := x, recovered := true }] } :: cs0) (rc' := .used) st.tr st.sz (Mv.refl st.hr) hv st.ds (.used h1 h2 rfl) (.inr ⟨h2, c, cs0, _, rfl, rfl⟩) (.one (st_recover ho hw hb h1 hrun ?_)) (fun tm' st' => IH tm' ds H _ E w _ dv _ k hcf st')
        simp [tryRecover, Fr, h2, hm]
    | pan v =>
      obtain ⟨x, hrun, hv⟩ := hop
      exact ⟨E, w, arr, dv, cs, ⟨Mv.refl st.hr, st, .refl _ _⟩, x, _, hv, .one (st_panic ho hw (hbar hq.symm (by simp) (by simp)) hrun)⟩
end Go.Ai

/- Code, frames, calls: sound, if regions of open order are. -/
namespace Go.Ai
open Go Go.RowKit
set_option linter.unusedVariables false
variable {G : Program} {W0 : World} {cf : Cf}
def DrawOk (G : Program) (W0 : World) (cf : Cf) (call : CallF) : Prop :=
  ∀ (n : Nat) (b : Frame) (id : Nat) (ops : Array Oper) (tm : PT AV) (ds : List AD) (H : Hp) (rc : RC) (E : Env) (w : World) (arr : Array Value) (dv : List Deferred) (cs : List Frame) (k : List Item),
    cf.ok E.σ → St G W0 n b tm ds H rc E w arr dv cs → regStatic ops.toList (ancs ops.toList []) = true →
    CodeOk G W0 n b H E w cs (lone (Fr b arr (.code (.region id ops true) :: k) dv) cs w) k (drawK G cf call n ops.toList (ancs ops.toList []) tm ds H rc)
theorem CodeOk.steps {n : Nat} {b : Frame} {H : Hp} {E : Env} {w : World} {cs : List Frame} {m m' : Machine} {k : List Item} {r : CR} (h : Steps G m m') (h' : CodeOk G W0 n b H E w cs m' k r) : CodeOk G W0 n b H E w cs m k r := by
  cases r with
  | err => trivial
  | ok ex tm'' ds'' H'' rc'' =>
    obtain ⟨E2, w2, a2, d2, c2, o2, e2⟩ := h'
    exact ⟨E2, w2, a2, d2, c2, o2, e2.of_steps h⟩
theorem Ends.pass {E : Env} {b : Frame} {x : Item} {k : List Item} {arr : Array Value} {ds : List Deferred} {cs : List Frame} {w : World} {m : Machine} {ex : Ex} (hn : ex ≠ .normal) (he : ∀ id, ex = .exit id → exitTo id (x :: k) = exitTo id k)
    (h : Ends G E b (x :: k) arr ds cs w m ex) : Ends G E b k arr ds cs w m ex := by
  cases ex with
  | normal => exact absurd rfl hn
  | exit id =>
    obtain ⟨j, e, s⟩ := h
    refine ⟨j ++ [x], ?_, ?_⟩
    · rw [List.append_assoc]; exact e.trans (he id rfl)
    · rw [List.append_assoc]; exact s
  | ret => exact h
  | pan v => exact h
/-- what comes behind a piece of code -/
theorem CodeOk.seq {n : Nat} {b : Frame} {H : Hp} {E : Env} {w : World} {cs : List Frame} {m : Machine} {x : Item} {k : List Item} {r : CR} {F : PT AV → List AD → Hp → RC → CR} (hx : ∀ id, exitTo id (x :: k) = exitTo id k)
    (hcf : cf.ok E.σ) (h : CodeOk G W0 n b H E w cs m (x :: k) r)
    (next : ∀ tm ds H' rc E' w' arr dv cs', cf.ok E'.σ → St G W0 n b tm ds H' rc E' w' arr dv cs' → CodeOk G W0 n b H' E' w' cs' (lone (Fr b arr (x :: k) dv) cs' w') k (F tm ds H' rc)) :
    CodeOk G W0 n b H E w cs m k (match r with | .ok .normal tm ds H rc => F tm ds H rc | r => r) := by
  cases r with
  | err => trivial
  | ok ex tm' ds' H' rc' =>
    obtain ⟨E', w', arr', dv', cs', o, e⟩ := h
    cases ex with
    | normal => exact CodeOk.then o e (next _ _ _ _ _ _ _ _ _ (by rw [o.mv.le.1]; exact hcf) o.st)
    | exit id => exact ⟨E', w', arr', dv', cs', o, e.pass (by simp) (fun _ _ => hx _)⟩
    | ret => exact ⟨E', w', arr', dv', cs', o, e.pass (by simp) (fun _ _ => hx _)⟩
    | pan v => exact ⟨E', w', arr', dv', cs', o, e.pass (by simp) (fun _ _ => hx _)⟩
/-- a loop over a function -/
theorem rangeB_ok {call : CallF} (hcall : CallOk G W0 cf call) {n fid : Nat} {b : Frame} (hfid : b.fn = fid) {f : Operand} {ps : Array Tmp} {assign body : Code} {tm : PT AV} {ds : List AD} {H : Hp} {rc : RC} {E : Env} {w : World} {arr : Array Value} {dv : List Deferred} {cs : List Frame} {k : List Item}
    (hcf : cf.ok E.σ) (st : St G W0 n b tm ds H rc E w arr dv cs) (hb : b.roundOf = none) :
    CodeOk G W0 n b H E w cs (lone (Fr b arr (.code (.rangeFunc f ps assign body) :: k) dv) cs w) k (rangeB G call n fid f ps assign body tm ds H rc) := by
  subst hfid
  unfold rangeB
  split
  · rename_i g first cap hf
    split
    · rename_i hbd
      rw [P.nextK_eq, P.nextK_eq, PT.putK_eq, PT.putK_eq]
      generalize hp1 : P.next H.nx = p1
      have hn1 : p1.toNat = H.nx.toNat + 1 := by rw [← hp1, P.toNat_next]
      have hn2 : (P.next p1).toNat = H.nx.toNat + 2 := by rw [P.toNat_next, hn1]
      have hne : p1 ≠ H.nx := fun e => by rw [e] at hn1; omega
      have free : ∀ {l : P}, H.nx.toNat ≤ l.toNat → E.ρ l = none := by
        intro l hl
        cases hρ : E.ρ l with
        | none => rfl
        | some y => exact absurd (st.hr.dom _ _ hρ) (by omega)
      have h0 := free (Nat.le_refl _)
      have mv1 := Mv.new (o := .defd) (ob := .deferred (some [])) st.hr h0 (nx' := p1.toNat) (by omega) (by omega) 0 .defd (Nat.le_refl _)
      have h1 : (E.add H.nx (w.heap.size, 0)).ρ p1 = none := by rw [Env.add_other _ _ hne]; exact free (by omega)
      have hE12 : (E.add H.nx (w.heap.size, 0)).le ((E.add H.nx (w.heap.size, 0)).add p1 (w.heap.size + 1, 0)) := Env.le_add h1
      have hor : OR G ((E.add H.nx (w.heap.size, 0)).add p1 (w.heap.size + 1, 0)) 0 (.loop .ready none b.fn n tm ps.toList assign body H.nx) (.loop { state := .ready, pending := none, fn := b.fn, tmps := arr, params := ps, assign, body, defers := w.heap.size }) := by
        have := OR.loop (G := G) (c := 0) (st := .ready) (pend := none) (fn := b.fn) (params := ps.toList) (assign := assign) (body := body) (st.tr.mono (mv1.le.trans hE12)) st.sz (dl := H.nx) (b := w.heap.size) (c' := 0) (by rw [Env.add_other _ _ (fun e => hne e.symm)]; exact Env.add_same _ _ _)
        simpa using this
      have mv2 := Mv.new (nx' := (P.next p1).toNat) (c := 0) (o := .loop .ready none b.fn n tm ps.toList assign body H.nx) (ob := .loop { state := .ready, pending := none, fn := b.fn, tmps := arr, params := ps, assign, body, defers := w.heap.size }) mv1.hr h1 (by omega) (by omega)
        (by simpa using hor) (Nat.le_refl _)
      have mv := mv1.trans mv2
      simp only [Array.size_push] at mv
      generalize hE2 : (E.add H.nx (w.heap.size, 0)).add p1 (w.heap.size + 1, 0) = E2 at *
      have hl0 : E2.ρ H.nx = some (w.heap.size, 0) := by rw [← hE2, Env.add_other _ _ (fun e => hne e.symm)]; exact Env.add_same _ _ _
      have hl1 : E2.ρ p1 = some (w.heap.size + 1, 0) := by rw [← hE2]; exact Env.add_same _ _ _
      generalize hob : Obj.loop { state := .ready, pending := none, fn := b.fn, tmps := arr, params := ps, assign, body, defers := w.heap.size } = lob at *
      have hw2 := enterLoop_run (P := G) (w := w) b.fn arr ps assign body
      rw [hob] at hw2
      generalize hw2e : ({ w with heap := (w.heap.push (.deferred (some []))).push lob } : World) = w2 at *
      have hHf : (fun q => PT.get q (PT.put p1 (PT.put H.nx H.tab (some .defd)) (some (.loop .ready none b.fn n tm ps.toList assign body H.nx)))) = upd (upd H.f H.nx (some .defd)) p1 (some (.loop .ready none b.fn n tm ps.toList assign body H.nx)) := by
        rw [put_upd, put_upd]; rfl
      generalize ht2 : PT.put p1 (PT.put H.nx H.tab (some .defd)) (some (.loop .ready none b.fn n tm ps.toList assign body H.nx)) = t2 at *
      rw [← hHf] at mv
      have mvA : Mv G W0 E H.f H.nx.toNat w E2 (Hp.f ⟨P.next p1, t2⟩) (P.next p1).toNat w2 := mv
      have hev := evO_ok (a := ⟨arr, { target := .collected w.heap.size, args := #[] } :: dv⟩) st.tr f _ hf
      generalize hfv : Act.eval ⟨arr, { target := .collected w.heap.size, args := #[] } :: dv⟩ f = fv at hev
      cases hev with
      | fn hfn hv1 hv2 =>
      cases hfn with
      | func =>
      rename_i first' cap'
      have hxs : VRs E2 ((first ++ [.fn (.yield p1) [] []]) ++ cap) ((first' ++ [Value.func (.yield (w.heap.size + 1)) #[] #[]]) ++ cap') :=
        ((hv1.mono mvA.le).append (.cons (.fn (.yield hl1) .nil .nil) .nil)).append (hv2.mono mvA.le)
      have hc : (do let d ← resolve (Act.eval ⟨arr, [{ target := .collected w.heap.size, args := #[] }] ++ dv⟩) { callee := .value f, args := #[.const (.func (.yield (w.heap.size + 1)) #[] #[])], argTypes := #[] } 0; invoke d.target d.args : Sem Next).run G w2 = .ok (.enter g ((first' ++ [Value.func (.yield (w.heap.size + 1)) #[] #[]]) ++ cap').toArray) w2 := by
        simp only [resolve, List.cons_append, List.nil_append, hfv, Deferred.ofValue, Sem.run_bind, Sem.run_pure, Result.andThen_ok, invoke]
        rw [hasBody_run hbd]
        congr 2
        apply Array.ext'
        simp [Act.eval]
      have hstep := st_range (P := G) (b := b) (arr := arr) (ds := dv) (k := k) (cs := cs) hb hw2 hc
      have hcr := hcall g _ ⟨P.next p1, t2⟩ E2 w2 _ (by rw [mvA.le.1]; exact hcf) mvA.hr hxs
      have hds2 : ∀ {E3 : Env}, E2.le E3 → DsR E3 (.mark H.nx :: ds) ([{ target := .collected w.heap.size, args := #[] }] ++ dv) := fun h => .mark (h.2 _ _ hl0) (st.ds.mono (mvA.le.trans h))
      generalize call g ((first ++ [.fn (.yield p1) [] []]) ++ cap) ⟨P.next p1, t2⟩ = r at hcr
      cases r with
      | err e => trivial
      | pan v H' =>
        obtain ⟨e, w3, fr, ⟨E3, x, rfl, mv3, hv⟩, hsteps, _, hleave⟩ := hcr (Fr b arr (.inRangeFunc (w.heap.size + 1) :: k) ([{ target := .collected w.heap.size, args := #[] }] ++ dv) :: cs)
        have mvT := mvA.trans mv3
        exact ⟨E3, w3, arr, _, cs, ⟨mvT, ⟨mvT.hr, st.sz, st.tr.mono mvT.le, hds2 mv3.le, st.rc.mono mvT.le⟩, .refl _ _⟩, x, .inRangeFunc (w.heap.size + 1) :: k, hv, .head hstep (hsteps.trans (.one (step_leave_panicked hleave)))⟩
      | ret v H' =>
        obtain ⟨e, w3, fr, ⟨E3, x, rfl, mv3, hv⟩, hsteps, _, hleave⟩ := hcr (Fr b arr (.inRangeFunc (w.heap.size + 1) :: k) ([{ target := .collected w.heap.size, args := #[] }] ++ dv) :: cs)
        have hback := step_leave_returned (c := Fr b arr (.inRangeFunc (w.heap.size + 1) :: k) ([{ target := .collected w.heap.size, args := #[] }] ++ dv)) (cs := cs) hleave
        have hfin : (Fr b arr (.inRangeFunc (w.heap.size + 1) :: k) ([{ target := .collected w.heap.size, args := #[] }] ++ dv)).finish x = Fr b arr (.endRangeFunc (w.heap.size + 1) :: k) ([{ target := .collected w.heap.size, args := #[] }] ++ dv) := rfl
        rw [hfin] at hback
        unfold loopEnd
        simp only
        split
        · rename_i stt pend fn' n' tm' ps' a' b' d' hg
          obtain ⟨bb, cc, ob, hρ, _, hob3, hor3⟩ := mv3.hr.obj _ _ hg
          have hρ' := mv3.le.2 _ _ hl1
          rw [hρ] at hρ'
          cases hρ'
          cases hor3 with
          | loop ha1 ha2 ha3 =>
          rename_i tmps3 b3 c3
          have nb : stt ≠ .busy → ∀ {jump : List Item}, (pend.map Item.code).toList = jump → ∃ w4, Mv G W0 E H.f H.nx.toNat w E3 (Hp.f ⟨H'.nx, PT.put p1 H'.tab (some (.loop .exhausted pend fn' n' tm' ps' a' b' d'))⟩) H'.nx.toNat w4 ∧
              Steps G (lone (Fr b arr (.code (.rangeFunc f ps assign body) :: k) dv) cs w) (lone (Fr b arr (jump ++ k) ([{ target := .collected w.heap.size, args := #[] }] ++ dv)) cs w4) := by
            intro hs jump hj
            have he := endLoop_run (P := G) hob3 hs
            have hm := setObj_mv mv3.hr hg hρ hob3 (.loop (st := .exhausted) (pend := pend) (fn := fn') (params := ps') (assign := a') (body := b') ha1 ha2 ha3)
            refine ⟨_, mvA.trans (mv3.trans hm), .head hstep (hsteps.trans (.head hback (.one ?_)))⟩
            rw [← hj]
            exact st_endRange he
          split
          · trivial
          · rename_i hs
            rw [PT.putK_eq]
            split
            · obtain ⟨w4, m4, s4⟩ := nb hs rfl
              exact ⟨E3, w4, arr, _, cs, ⟨m4, ⟨m4.hr, st.sz, st.tr.mono m4.le, hds2 mv3.le, st.rc.mono m4.le⟩, .refl _ _⟩, s4⟩
            · obtain ⟨w4, m4, s4⟩ := nb hs rfl
              exact ⟨E3, w4, arr, _, cs, ⟨m4, ⟨m4.hr, st.sz, st.tr.mono m4.le, hds2 mv3.le, st.rc.mono m4.le⟩, .refl _ _⟩, k, s4⟩
            · obtain ⟨w4, m4, s4⟩ := nb hs rfl
              exact ⟨E3, w4, arr, _, cs, ⟨m4, ⟨m4.hr, st.sz, st.tr.mono m4.le, hds2 mv3.le, st.rc.mono m4.le⟩, .refl _ _⟩, [], rfl, s4⟩
            · trivial
        · trivial
    · trivial
  · trivial
theorem codeK_succ (call : CallF) (rnd : RndF) (n fid fuel : Nat) (c : Code) (tm : PT AV) (ds : List AD) (H : Hp) (rc : RC) : codeK G cf call rnd n fid (fuel + 1) c tm ds H rc = match c with
    | .skip => .ok .normal tm ds H rc
    | .region _ ops draw => regionK G cf call rnd n ops.toList draw tm ds H rc
    | .seq a b => match codeK G cf call rnd n fid fuel a tm ds H rc with
      | .ok .normal tm ds H rc => codeK G cf call rnd n fid fuel b tm ds H rc
      | r => r
    | .cond c a b => match evO tm c with
      | some (.bool true) => codeK G cf call rnd n fid fuel a tm ds H rc
      | some (.bool false) => codeK G cf call rnd n fid fuel b tm ds H rc
      | _ => .err 81
    | .block id c => match codeK G cf call rnd n fid fuel c tm ds H rc with
      | .ok (.exit j) tm ds H rc => match Nat.beq j id with
        | true => .ok .normal tm ds H rc
        | false => .ok (.exit j) tm ds H rc
      | r => r
    | .loop c => match codeK G cf call rnd n fid fuel c tm ds H rc with
      | .ok .normal tm ds H rc => codeK G cf call rnd n fid fuel (.loop c) tm ds H rc
      | r => r
    | .exit id => .ok (.exit id) tm ds H rc
    | .ret => .ok .ret tm ds H rc
    | .rangeFunc f ps a b => rangeK G call n fid f ps a b tm ds H rc
    | _ => .err 82 := by cases c <;> rfl
theorem codeK_ok [GlOk cf.gl W0] {call : CallF} {rnd : RndF} (hcall : CallOk G W0 cf call) (hrnd : RndOk G W0 cf rnd) (hdraw : DrawOk G W0 cf call) {n fid : Nat} {b : Frame} (hfid : b.fn = fid) : ∀ (fuel : Nat) (c : Code) (tm : PT AV) (ds : List AD) (H : Hp) (rc : RC) (E : Env) (w : World) (arr : Array Value) (dv : List Deferred) (cs : List Frame) (k : List Item),
    cf.ok E.σ → St G W0 n b tm ds H rc E w arr dv cs →
    CodeOk G W0 n b H E w cs (lone (Fr b arr (.code c :: k) dv) cs w) k (codeK G cf call rnd n fid fuel c tm ds H rc) ∧
    CodeOk G W0 n b H E w cs (lone (Fr b arr (.code c :: .inLoop c :: k) dv) cs w) k (codeK G cf call rnd n fid fuel (.loop c) tm ds H rc) := by
  intro fuel
  induction fuel with
  | zero => intros; exact ⟨trivial, trivial⟩
  | succ fuel ih =>
    have loop : ∀ (c : Code) (tm : PT AV) (ds : List AD) (H : Hp) (rc : RC) (E : Env) (w : World) (arr : Array Value) (dv : List Deferred) (cs : List Frame) (k : List Item),
        cf.ok E.σ → St G W0 n b tm ds H rc E w arr dv cs →
        CodeOk G W0 n b H E w cs (lone (Fr b arr (.code c :: .inLoop c :: k) dv) cs w) k (codeK G cf call rnd n fid (fuel + 1) (.loop c) tm ds H rc) := by
      intro c tm ds H rc E w arr dv cs k hcf st
      rw [codeK_succ]
      exact CodeOk.seq (cf := cf) (fun _ => rfl) hcf ((ih c tm ds H rc E w arr dv cs (.inLoop c :: k) hcf st).1)
        (fun tm ds H' rc E' w' arr dv cs' hcf' st' => CodeOk.steps (.one st_inLoop) (ih c tm ds H' rc E' w' arr dv cs' k hcf' st').2)
    intro c tm ds H rc E w arr dv cs k hcf st
    refine ⟨?_, loop c tm ds H rc E w arr dv cs k hcf st⟩
    cases c with
    | skip => rw [codeK_succ]; exact ⟨E, w, arr, dv, cs, ⟨Mv.refl st.hr, st, .refl _ _⟩, .one st_skip⟩
    | region id ops draw =>
      rw [codeK_succ]
      cases draw with
      | false =>
        have := regK_ok hcall hrnd (ops := ops) ops.toList 0 (by simp) tm ds H rc E w arr dv cs k hcf st
        refine CodeOk.steps (.one ?_) this
        have hs := st_region (P := G) (b := b) (arr := arr) (ds := dv) (k := k) (cs := cs) (w := w) (ops := ops) (id := id)
        rw [List.range_eq_range'] at hs
        simpa using hs
      | true =>
        simp only [regionK]
        split
        · rename_i hs
          exact hdraw n b id ops tm ds H rc E w arr dv cs k hcf st hs
        · trivial
    | seq x y =>
      rw [codeK_succ]
      exact CodeOk.steps (.one st_seq) (CodeOk.seq (cf := cf) (fun _ => rfl) hcf ((ih x tm ds H rc E w arr dv cs (.code y :: k) hcf st).1)
        (fun tm ds H' rc E' w' arr dv cs' hcf' st' => (ih y tm ds H' rc E' w' arr dv cs' k hcf' st').1))
    | cond c x y =>
      rw [codeK_succ]
      have hev := evO_ok (a := ⟨arr, dv⟩) st.tr
      simp only
      split
      · rename_i hc
        have hb := hev c _ hc
        have hb' : Act.eval ⟨arr, dv⟩ c = .bool true := by cases hb' : Act.eval ⟨arr, dv⟩ c <;> rw [hb'] at hb <;> cases hb <;> rfl
        exact CodeOk.steps (.one (st_cond (t := true) hb')) (ih x tm ds H rc E w arr dv cs k hcf st).1
      · rename_i hc
        have hb := hev c _ hc
        have hb' : Act.eval ⟨arr, dv⟩ c = .bool false := by cases hb' : Act.eval ⟨arr, dv⟩ c <;> rw [hb'] at hb <;> cases hb <;> rfl
        exact CodeOk.steps (.one (st_cond (t := false) hb')) (ih y tm ds H rc E w arr dv cs k hcf st).1
      · trivial
    | block id c =>
      rw [codeK_succ]
      refine CodeOk.steps (.one st_block) ?_
      have h := (ih c tm ds H rc E w arr dv cs (.inBlock id :: k) hcf st).1
      simp only
      generalize codeK G cf call rnd n fid fuel c tm ds H rc = r at h
      cases r with
      | err => trivial
      | ok ex tm' ds' H' rc' =>
        obtain ⟨E', w', arr', dv', cs', o, e⟩ := h
        cases ex with
        | normal => exact ⟨E', w', arr', dv', cs', o, Steps.trans e (.one st_inBlock)⟩
        | ret => exact ⟨E', w', arr', dv', cs', o, e.pass (by simp) (fun _ h => by cases h)⟩
        | pan v => exact ⟨E', w', arr', dv', cs', o, e.pass (by simp) (fun _ h => by cases h)⟩
        | exit j =>
          simp only
          cases hj : Nat.beq j id with
          | true =>
            have hj := Nat.eq_of_beq_eq_true hj
            subst hj
            obtain ⟨l, e1, s⟩ := e
            refine ⟨E', w', arr', dv', cs', o, Steps.trans s (.one (st_exit ?_))⟩
            rw [e1]; simp [exitTo]
          | false =>
            have hj := Nat.ne_of_beq_eq_false hj
            refine ⟨E', w', arr', dv', cs', o, e.pass (by simp) (fun i hi => ?_)⟩
            cases hi
            have : (id == j) = false := by simp; exact fun h => hj h.symm
            simp [exitTo, this]
    | loop c =>
      exact CodeOk.steps (.one st_loop) (loop c tm ds H rc E w arr dv cs k hcf st)
    | exit id => rw [codeK_succ]; exact ⟨E, w, arr, dv, cs, ⟨Mv.refl st.hr, st, .refl _ _⟩, [], rfl, .refl _ _⟩
    | ret => rw [codeK_succ]; exact ⟨E, w, arr, dv, cs, ⟨Mv.refl st.hr, st, .refl _ _⟩, k, .refl _ _⟩
    | scope c => trivial
    | goto l => trivial
    | label l => trivial
    | rangeFunc f ps a c =>
      rw [codeK_succ]
      have main : rc ≠ .bar → CodeOk G W0 n b H E w cs (lone (Fr b arr (.code (.rangeFunc f ps a c) :: k) dv) cs w) k (rangeB G call n fid f ps a c tm ds H rc) :=
        fun hne => rangeB_ok hcall hfid hcf st (st.rc.round hne)
      cases rc with
      | bar => trivial
      | no => exact main (by simp)
      | avail v => exact main (by simp)
      | used => exact main (by simp)
    | refuse s => trivial
/-! ### frames -/
theorem argsT_ok {E : Env} : ∀ (args : List AV) (xs : List Value) (i : Nat) (t : PT AV) (arr : Array Value), VRs E args xs → TR E t arr → (∀ j, j < xs.length → arr[i + j]? = xs[j]?) → TR E (argsT args i t) arr := by
  intro args
  induction args with
  | nil => intro xs i t arr _ ht _; exact ht
  | cons a args ih =>
    intro xs i t arr h ht hx
    cases h with
    | cons hv hs =>
      rename_i v vs
      refine ih vs (i + 1) _ arr hs ?_ (fun j hj => ?_)
      · intro q u e
        by_cases hq : i = q
        · subst hq
          rw [PT.get_put_same] at e
          cases e
          have := hx 0 (by simp)
          exact ⟨v, by simpa using this, hv⟩
        · rw [PT.get_put_other (fun e => hq (P.of_inj e))] at e
          exact ht q u e
      · have := hx (j + 1) (by simp; exact hj)
        rw [show i + 1 + j = i + (j + 1) by omega]
        simpa using this
theorem mapM_run {α β : Type} {f : α → Sem β} {g : α → Option AV} {h : β → Value} {E : Env} {w : World} (hf : ∀ a v, g a = some v → ∃ x, (f a).run G w = .ok x w ∧ VR E v (h x)) : ∀ (l : List α) {vs : List AV}, mapO g l = some vs → ∃ xs, (l.mapM f).run G w = .ok xs w ∧ VRs E vs (xs.map h)
  | [], vs, e => by cases e; exact ⟨[], rfl, .nil⟩
  | a :: l, vs, e => by
    obtain ⟨v, vs', h1, h2, rfl⟩ := mapO_cons _ _ _ e
    obtain ⟨x, hx, hv⟩ := hf a v h1
    obtain ⟨xs, hxs, hvs⟩ := mapM_run hf l h2
    exact ⟨x :: xs, by simp [List.mapM_cons, hx, hxs], .cons hv hvs⟩
theorem resultsO_ok {E : Env} {H : Hp} {w : World} (hr : HR G W0 E H.f H.nx.toNat w) {fn : Func} {tm : PT AV} {arr : Array Value} (ht : TR E tm arr) {v : AV} (h : resultsO G fn tm H = some v) : ∃ x, (results fn arr).run G w = .ok x w ∧ VR E v x := by
  have key : ∀ (a : ResultVar) (u : AV), resO G tm H a = some u → ∃ x, (match a with | .tmp t => pure (arr.getD t undef) | .cell a t => do loadVar t (← asAddr (arr.getD a undef)) : Sem Value).run G w = .ok x w ∧ VR E u x := by
    intro a u e
    cases a with
    | tmp t =>
      obtain ⟨x, hx, hv⟩ := ht t u e
      have : arr.getD t undef = x := by simp [Array.getD_eq_getD_getElem?, hx]
      exact ⟨x, by simp [this], hv⟩
    | cell a t =>
      simp only [resO] at e
      split at e
      · rename_i p hp
        obtain ⟨y, hy, hv⟩ := ht a p hp
        have hg : arr.getD a undef = y := by simp [Array.getD_eq_getD_getElem?, hy]
        obtain ⟨x, hx, hxv⟩ := loadO_ok (tab := H.tab) hr hv e
        refine ⟨x, ?_, hxv⟩
        simp only [hg]
        unfold loadO at e
        split at e
        · cases hv with
          | ptr hρ =>
            rw [← hx]
            simp [Instr.loadAt, Instr.sureAddr, asAddr]
        · cases e
      · cases e
  unfold resultsO at h
  have run : ∀ vs, mapO (resO G tm H) fn.results.toList = some vs → ∃ xs : List Value, (results fn arr).run G w = .ok (if h : xs.length = 1 then xs[0] else .tuple xs.toArray) w ∧ VRs E vs xs := by
    intro vs e
    obtain ⟨xs, hxs, hv⟩ := mapM_run (h := id) key _ e
    rw [List.map_id] at hv
    refine ⟨xs, ?_, hv⟩
    unfold results
    rw [Array.mapM_eq_mapM_toList]
    simp only [Sem.run_bind, Sem.run_map]
    erw [hxs]
    simp
  split at h
  · rename_i u hu
    cases h
    obtain ⟨xs, hxs, hv⟩ := run _ hu
    cases hv with
    | cons hv hn =>
      cases hn
      exact ⟨_, hxs, by simpa using hv⟩
  · rename_i vs hne hu
    cases h
    obtain ⟨xs, hxs, hv⟩ := run _ hu
    refine ⟨_, hxs, ?_⟩
    have hl := hv.length
    have : ¬ xs.length = 1 := by
      intro h1
      rw [h1] at hl
      match vs, hl with
      | [u], _ => exact hne u rfl
    rw [dif_neg this]
    exact .tup hv
  · cases h
/-! ### leaving a frame -/
inductive MdR (E : Env) : Md → FrameMode → Prop
  | ret : MdR E .ret .returning
  | pan {v : AV} {x : Value} (h : VR E v x) : MdR E (.pan v) (.panicking [{ v := x, recovered := false }])
def LeaveRes (G : Program) (W0 : World) (E : Env) (H : Hp) (w : World) (f : FuncId) (m : Machine) (cs : List Frame) : KR → Prop
  | .ret v H' => ∃ E' x fr w', Mv G W0 E H.f H.nx.toNat w E' H'.f H'.nx.toNat w' ∧ VR E' v x ∧ Steps G m (lone fr cs w') ∧ fr.fn = f ∧ fr.leaving G w' (.returned x)
  | .pan v H' => ∃ E' x fr w', Mv G W0 E H.f H.nx.toNat w E' H'.f H'.nx.toNat w' ∧ VR E' v x ∧ Steps G m (lone fr cs w') ∧ fr.fn = f ∧ fr.leaving G w' (.panicked [{ v := x, recovered := false }])
  | .err _ => True
theorem LeaveRes.then {E E' : Env} {H H' : Hp} {w w' : World} {f : FuncId} {m m' : Machine} {cs : List Frame} {r : KR} (mv : Mv G W0 E H.f H.nx.toNat w E' H'.f H'.nx.toNat w') (h : Steps G m m') (k : LeaveRes G W0 E' H' w' f m' cs r) : LeaveRes G W0 E H w f m cs r := by
  cases r with
  | err => trivial
  | ret v H2 => obtain ⟨E2, x, fr, w2, a, b, c, d⟩ := k; exact ⟨E2, x, fr, w2, mv.trans a, b, h.trans c, d⟩
  | pan v H2 => obtain ⟨E2, x, fr, w2, a, b, c, d⟩ := k; exact ⟨E2, x, fr, w2, mv.trans a, b, h.trans c, d⟩
theorem enter_eq {f : FuncId} {fn : Func} {c : Code} {xs : List Value} {kd : CallKind} (hf : G.funcs[f]? = some fn) (hb : fn.body = some c) :
    Frame.enter G f xs.toArray kd = Fr { (default : Frame) with fn := f, kind := kd } (xs.toArray ++ Array.replicate (fn.ntmps - xs.length) undef) [.code c] [] := by
  simp [Frame.enter, Fr, hf, hb]
  rfl
theorem st_args {E : Env} {H : Hp} {w : World} {n : Nat} {args : List AV} {xs : List Value} (hr : HR G W0 E H.f H.nx.toNat w) (hx : VRs E args xs) (hl : lenL args ≤ n) {b : Frame} {rc : RC} {cs : List Frame} (hrc : RcR E b rc cs) :
    St G W0 n b (argsT args 0 .e) [] H rc E w (xs.toArray ++ Array.replicate (n - xs.length) undef) [] cs := by
  rw [lenL_eq, hx.length] at hl
  refine ⟨hr, by simp; omega, argsT_ok args xs 0 .e _ hx (fun i v e => by rw [PT.get_e] at e; cases e) (fun j hj => ?_), .nil, hrc⟩
  simp [Array.getElem?_append, hj]
def rcOf : Md → RC
  | .ret => .no
  | .pan v => .avail v
theorem leaveK_cons (call : CallF) (rnd : RndF) (fuel : Nat) (fn : Func) (tm : PT AV) (f : FuncId) (args cap : List AV) (ds : List AD) (md : Md) (H : Hp) : leaveK G cf call rnd fuel fn tm (.call f args cap :: ds) md H = match hasBody G f with
      | true => match dcallK G cf call rnd fuel f (args ++ cap) H (rcOf md) with
        | .ok H .used => leaveK G cf call rnd fuel fn tm ds .ret H
        | .ok H .no => leaveK G cf call rnd fuel fn tm ds .ret H
        | .ok H (.avail v) => leaveK G cf call rnd fuel fn tm ds (.pan v) H
        | .err k => .err k
        | _ => .err 91
      | false => .err 92 := by cases md <;> rfl
theorem dcallK_ok [GlOk cf.gl W0] {call : CallF} {rnd : RndF} (hcall : CallOk G W0 cf call) (hrnd : RndOk G W0 cf rnd) (hdraw : DrawOk G W0 cf call) {fuel : Nat} {f : FuncId} {args : List AV} {H H' : Hp} {rc rc' : RC} (h : dcallK G cf call rnd fuel f args H rc = .ok H' rc') {E : Env} {w : World} {xs : List Value} {c : Frame} {cs : List Frame}
    (hcf : cf.ok E.σ) (hr : HR G W0 E H.f H.nx.toNat w) (hx : VRs E args xs) (hrc : RcR E { (default : Frame) with fn := f, kind := .deferred } rc (c :: cs)) (hbar : rc' ≠ .bar) :
    ∃ E' w' fr' m', Mv G W0 E H.f H.nx.toNat w E' H'.f H'.nx.toNat w' ∧ RcR E' { (default : Frame) with fn := f, kind := .deferred } rc' ({ c with mode := m' } :: cs) ∧
      Steps G (lone (Frame.enter G f xs.toArray .deferred) (c :: cs) w) (lone fr' ({ c with mode := m' } :: cs) w') ∧ fr'.kind = .deferred ∧ ∃ v, fr'.going G w' (.returned v) := by
  unfold dcallK at h
  split at h
  · rename_i fn hf
    split at h
    · rename_i body hb
      split at h
      · rename_i hl
        have hl := Nat.le_of_ble_eq_true hl
        have st := st_args (n := fn.ntmps) (b := { (default : Frame) with fn := f, kind := .deferred }) hr hx hl hrc
        have hk := (codeK_ok hcall hrnd hdraw (fid := f) rfl fuel body _ [] H rc E w _ [] (c :: cs) [] hcf st).1
        rw [← enter_eq hf hb] at hk
        have modes : ∀ {cs'}, Mod { (default : Frame) with fn := f, kind := .deferred } (c :: cs) cs' → ∃ m', cs' = { c with mode := m' } :: cs := by
          intro cs' hm
          rcases hm with rfl | ⟨_, c0, r, m, e, rfl⟩
          · exact ⟨c.mode, rfl⟩
          · cases e; exact ⟨m, rfl⟩
        split at h
        · rename_i tm H2 rc2 hcode
          split at h
          · rename_i v hv
            cases h
            rw [hcode] at hk
            obtain ⟨E', w', arr', dv', cs', o, e⟩ := hk
            obtain ⟨m', rfl⟩ := modes o.md
            obtain ⟨x, hx, _⟩ := resultsO_ok o.st.hr o.st.tr hv
            cases o.st.ds
            exact ⟨E', w', _, m', o.mv, o.st.rc, Steps.trans e (.one (st_end rfl)), rfl, x, rfl, rfl, fn, hf, hx⟩
          · cases h
        · rename_i tm H2 rc2 hcode
          split at h
          · rename_i v hv
            cases h
            rw [hcode] at hk
            obtain ⟨E', w', arr', dv', cs', o, j, e⟩ := hk
            obtain ⟨m', rfl⟩ := modes o.md
            obtain ⟨x, hx, _⟩ := resultsO_ok o.st.hr o.st.tr hv
            cases o.st.ds
            exact ⟨E', w', _, m', o.mv, o.st.rc, Steps.trans e (.one (st_ret rfl)), rfl, x, rfl, rfl, fn, hf, hx⟩
          · cases h
        · cases h
        · cases h
      · cases h
    · cases h
  · cases h
theorem leaveK_ok [GlOk cf.gl W0] {call : CallF} {rnd : RndF} (hcall : CallOk G W0 cf call) (hrnd : RndOk G W0 cf rnd) (hdraw : DrawOk G W0 cf call) {fuel : Nat} {fn : Func} : ∀ (ds : List AD) (md : Md) (tm : PT AV) (H : Hp) (E : Env) (w : World) (fr : Frame) (dv : List Deferred) (cs : List Frame),
    cf.ok E.σ → HR G W0 E H.f H.nx.toNat w → TR E tm fr.tmps → DsR E ds dv → MdR E md fr.mode → fr.defers = dv → G.funcs[fr.fn]? = some fn → fr.kind = .normal →
    LeaveRes G W0 E H w fr.fn (lone fr cs w) cs (leaveK G cf call rnd fuel fn tm ds md H) := by
  intro ds
  induction ds with
  | nil =>
    intro md tm H E w fr dv cs hcf hr ht hds hm hd hf hk
    cases hds
    cases md with
    | ret =>
      show LeaveRes G W0 E H w fr.fn (lone fr cs w) cs (match resultsO G fn tm H with | some v => .ret v H | none => .err 90)
      split
      · rename_i v hv
        obtain ⟨x, hx, hvx⟩ := resultsO_ok hr ht hv
        refine ⟨E, x, fr, w, Mv.refl hr, hvx, .refl _ _, rfl, ?_, hd, hk, fn, hf, hx⟩
        generalize fr.mode = m at hm
        cases hm; rfl
      · trivial
    | pan v =>
      generalize hmm : fr.mode = m at hm
      cases hm with
      | pan hv => exact ⟨E, _, fr, w, Mv.refl hr, hv, .refl _ _, rfl, hmm, hd, fn, hf⟩
  | cons d ds ih =>
    intro md tm H E w fr dv cs hcf hr ht hds hm hd hf hk
    cases d with
    | mark l =>
      cases hds with
      | mark h1 hds =>
      rename_i b c dv
      show LeaveRes G W0 E H w fr.fn (lone fr cs w) cs (match PT.get l H.tab with
        | some .defd => PT.putK l H.tab (some .gone) (fun t => leaveK G cf call rnd fuel fn tm ds md ⟨H.nx, t⟩)
        | _ => .err 93)
      split
      · rename_i hg
        rw [PT.putK_eq]
        obtain ⟨b', c', ob, hρ, _, hob, hor⟩ := hr.obj _ _ hg
        rw [h1] at hρ
        cases hρ
        cases hor
        have hmv := setObj_mv hr hg h1 hob (.gone)
        have hrun : fr.mode ≠ .run := by generalize fr.mode = m at hm; cases hm <;> simp
        exact LeaveRes.then hmv (.one (st_take hrun hd (take_run hob))) (ih md tm ⟨H.nx, PT.put l H.tab (some .gone)⟩ E _ { fr with defers := dv } dv cs hcf hmv.hr ht hds hm rfl hf hk)
      · trivial
    | call f args cap =>
    cases hds with
    | call h1 h2 hds =>
    rename_i xs ys dv
    rw [leaveK_cons]
    cases hbd : hasBody G f with
    | false => trivial
    | true =>
    simp only
    have hrun : fr.mode ≠ .run := by generalize fr.mode = m at hm; cases hm <;> simp
    have hinv : (invoke (.fn (.func f) ys.toArray) xs.toArray).run G w = .ok (.enter f (xs ++ ys).toArray) w := by
      simp only [invoke]
      rw [hasBody_run hbd]
      congr 2
      simp
    have h1' := step_defer (P := G) (cs := cs) hrun hd rfl hinv
    have hrc : RcR E { (default : Frame) with fn := f, kind := .deferred } (rcOf md) ({ fr with defers := dv } :: cs) := by
      generalize hmm : fr.mode = m at hm
      cases hm with
      | ret => exact .ret rfl rfl rfl
      | pan hv => exact .avail rfl rfl rfl hv
    have next : ∀ {H' rc'}, dcallK G cf call rnd fuel f (args ++ cap) H (rcOf md) = .ok H' rc' → rc' ≠ .bar → ∃ E' w' m', Mv G W0 E H.f H.nx.toNat w E' H'.f H'.nx.toNat w' ∧ RcR E' { (default : Frame) with fn := f, kind := .deferred } rc' ({ fr with defers := dv, mode := m' } :: cs) ∧
        Steps G (lone fr cs w) (lone { fr with defers := dv, mode := settle m' } cs w') := by
      intro H' rc' e hne
      obtain ⟨E', w', fr', m', mv, hrc', hs, hk', v, hg⟩ := dcallK_ok hcall hrnd hdraw e hcf hr (h1.append h2) hrc hne
      exact ⟨E', w', m', mv, hrc', .head h1' (hs.trans (.one (step_going_returned (c := { fr with defers := dv, mode := m' }) hk' hg)))⟩
    split
    · rename_i r H' hr'
      obtain ⟨E', w', m', mv, hrc', hs⟩ := next hr' (by simp)
      refine LeaveRes.then mv hs (ih .ret tm H' E' w' { fr with defers := dv, mode := settle m' } dv cs (by rw [mv.le.1]; exact hcf) mv.hr (ht.mono mv.le) (hds.mono mv.le) ?_ rfl hf hk)
      cases hrc' with
      | used _ _ hm => 
        have hm : m' = _ := hm
        subst hm; exact .ret
    · rename_i r H' hr'
      obtain ⟨E', w', m', mv, hrc', hs⟩ := next hr' (by simp)
      refine LeaveRes.then mv hs (ih .ret tm H' E' w' { fr with defers := dv, mode := settle m' } dv cs (by rw [mv.le.1]; exact hcf) mv.hr (ht.mono mv.le) (hds.mono mv.le) ?_ rfl hf hk)
      cases hrc' with
      | no _ hk => cases hk
      | ret _ _ hm => 
        have hm : m' = _ := hm
        subst hm; exact .ret
    · rename_i r H' v hr'
      obtain ⟨E', w', m', mv, hrc', hs⟩ := next hr' (by simp)
      refine LeaveRes.then mv hs (ih (.pan v) tm H' E' w' { fr with defers := dv, mode := settle m' } dv cs (by rw [mv.le.1]; exact hcf) mv.hr (ht.mono mv.le) (hds.mono mv.le) ?_ rfl hf hk)
      cases hrc' with
      | avail _ _ hm hv => 
        have hm : m' = _ := hm
        subst hm; exact .pan hv
    · trivial
    · trivial
theorem LeaveRes.calls {E : Env} {H : Hp} {w : World} {f : FuncId} {xs : List Value} {r : KR} (h : ∀ cs, LeaveRes G W0 E H w f (lone (Frame.enter G f xs.toArray .normal) cs w) cs r) : CallRes G W0 E H w f xs r := by
  cases r with
  | err => trivial
  | ret v H' =>
    intro cs
    obtain ⟨E', x, fr, w', mv, hv, hs, hf, hl⟩ := h cs
    exact ⟨.returned x, w', fr, ⟨E', x, rfl, mv, hv⟩, hs, hf, hl⟩
  | pan v H' =>
    intro cs
    obtain ⟨E', x, fr, w', mv, hv, hs, hf, hl⟩ := h cs
    exact ⟨.panicked _, w', fr, ⟨E', x, rfl, mv, hv⟩, hs, hf, hl⟩
theorem frameK_ok [GlOk cf.gl W0] {call : CallF} {rnd : RndF} (hcall : CallOk G W0 cf call) (hrnd : RndOk G W0 cf rnd) (hdraw : DrawOk G W0 cf call) (fuel : Nat) : CallOk G W0 cf (frameK G cf call rnd fuel) := by
  intro f args H E w xs hcf hr hx
  refine LeaveRes.calls fun cs => ?_
  unfold frameK
  split
  · rename_i fn hf
    split
    · rename_i body hb
      split
      · rename_i hl
        have hl := Nat.le_of_ble_eq_true hl
        have st := st_args (n := fn.ntmps) (b := { (default : Frame) with fn := f, kind := .normal }) (rc := .no) (cs := cs) hr hx hl (.no rfl rfl cs)
        have hk := (codeK_ok hcall hrnd hdraw (fid := f) rfl fuel body _ [] H .no E w _ [] cs [] hcf st).1
        rw [← enter_eq hf hb] at hk
        have same : ∀ {cs'}, Mod { (default : Frame) with fn := f, kind := .normal } cs cs' → cs' = cs := by
          intro cs' hm
          rcases hm with rfl | ⟨e, _⟩
          · rfl
          · cases e
        split
        · rename_i tm ds H2 rc2 hcode
          rw [hcode] at hk
          obtain ⟨E', w', arr', dv', cs', o, e⟩ := hk
          have := same o.md
          subst this
          exact LeaveRes.then o.mv (Steps.trans e (.one (st_end rfl))) (leaveK_ok hcall hrnd hdraw ds .ret tm H2 E' w' _ dv' cs' (by rw [o.mv.le.1]; exact hcf) o.st.hr o.st.tr o.st.ds .ret rfl hf rfl)
        · rename_i tm ds H2 rc2 hcode
          rw [hcode] at hk
          obtain ⟨E', w', arr', dv', cs', o, j, e⟩ := hk
          have := same o.md
          subst this
          exact LeaveRes.then o.mv (Steps.trans e (.one (st_ret rfl))) (leaveK_ok hcall hrnd hdraw ds .ret tm H2 E' w' _ dv' cs' (by rw [o.mv.le.1]; exact hcf) o.st.hr o.st.tr o.st.ds .ret rfl hf rfl)
        · rename_i v tm ds H2 rc2 hcode
          rw [hcode] at hk
          obtain ⟨E', w', arr', dv', cs', o, x, j, hv, e⟩ := hk
          have := same o.md
          subst this
          exact LeaveRes.then o.mv e (leaveK_ok hcall hrnd hdraw ds (.pan v) tm H2 E' w' _ dv' cs' (by rw [o.mv.le.1]; exact hcf) o.st.hr o.st.tr o.st.ds (.pan hv) rfl hf rfl)
        · trivial
        · trivial
      · trivial
    · trivial
  · trivial
/-! ### rounds -/
theorem allL_mem' {α : Type} {f : α → Bool} : ∀ {l : List α}, allL f l = true → ∀ a ∈ l, f a = true
  | [], _, a, h => by simp at h
  | b :: l, h, a, ha => by
    obtain ⟨h1, h2⟩ := allL_cons h
    rcases List.mem_cons.1 ha with rfl | ha
    · exact h1
    · exact allL_mem' h2 a ha
theorem setArgs_ok {E : Env} : ∀ (ps : List Nat) (args : List AV) (xs : List Value) (t : PT AV) (arr : Array Value), VRs E args xs → args.length = ps.length → (∀ p ∈ ps, p < arr.size) → TR E t arr →
    TR E (setArgs ps args t) ((ps.zip xs).foldl (fun a p => a.setIfInBounds p.1 p.2) arr)
  | [], _, _, t, arr, _, _, _, ht => by simpa [setArgs] using ht
  | p :: ps, [], _, t, arr, _, hl, _, ht => by simp at hl
  | p :: ps, a :: args, _, t, arr, h, hl, hp, ht => by
    cases h with
    | cons hv hs =>
      rename_i v vs
      exact setArgs_ok ps args vs _ _ hs (by simpa using hl) (fun q hq => by simp; exact hp q (List.mem_cons_of_mem _ hq)) (ht.set (hp p List.mem_cons_self) hv)
theorem fold_size : ∀ (l : List (Nat × Value)) (arr : Array Value), (l.foldl (fun a p => a.setIfInBounds p.1 p.2) arr).size = arr.size
  | [], arr => rfl
  | p :: l, arr => by simp [fold_size l]
theorem roundEnd_ok {E : Env} {H : Hp} {w : World} {l : P} {b c : Nat} (hr : HR G W0 E H.f H.nx.toNat w) (hρ : E.ρ l = some (b, c)) (jump : Option Code) : (∃ e, roundEnd l jump H = .err e) ∨
    ∃ H' w', roundEnd l jump H = .ret (.bool jump.isNone) H' ∧ (Instr.endRound b jump).run G w = .ok (.bool jump.isNone) w' ∧ Mv G W0 E H.f H.nx.toNat w E H'.f H'.nx.toNat w' := by
  unfold roundEnd
  split
  · rename_i st pend fn n tm ps a bo d hg
    obtain ⟨b', c', ob, hρ', _, hob, hor⟩ := hr.obj _ _ hg
    rw [hρ] at hρ'
    cases hρ'
    cases hor with
    | loop h1 h2 h3 =>
    rw [PT.putK_eq]
    refine .inr ⟨⟨H.nx, PT.put l H.tab (some (.loop (match jump with | none => .ready | some _ => .done) jump fn n tm ps a bo d))⟩, _, ?_, endRound_run hob jump, setObj_mv hr hg hρ hob ?_⟩
    · cases jump <;> rfl
    · have := OR.loop (G := G) (c := c) (st := if jump.isNone then .ready else .done) (pend := jump) (fn := fn) (params := ps) (assign := a) (body := bo) h1 h2 h3
      cases jump <;> exact this
  · exact .inl ⟨_, rfl⟩
theorem roundK_ok [GlOk cf.gl W0] {call : CallF} {rnd : RndF} (hcall : CallOk G W0 cf call) (hrnd : RndOk G W0 cf rnd) (hdraw : DrawOk G W0 cf call) (fuel : Nat) : RndOk G W0 cf (roundK G cf call rnd fuel) := by
  intro l args H E w xs b c hcf hr hρ hxs
  unfold roundK
  split
  · rename_i st pend fn n tm ps assign body dl hg
    obtain ⟨b', c', ob, hρ', _, hob, hor⟩ := hr.obj _ _ hg
    rw [hρ] at hρ'
    cases hρ'
    cases hor with
    | loop h1 h2 h3 =>
    rename_i tmps bd cd
    split
    · rename_i fnn hfn hlen hall
      have hlen := Nat.eq_of_beq_eq_true hlen
      rw [lenL_eq, lenL_eq] at hlen
      have hps : ∀ p ∈ ps, p < tmps.size := by
        intro p hp
        have := allL_mem' hall p hp
        rw [h2]
        exact Nat.le_of_ble_eq_true this
      have hy := yield_run (P := G) hob (args := xs.toArray) (by simp [← hxs.length, hlen])
      have hfold : (ps.toArray.zip xs.toArray).foldl (fun tmps x => match x with | (t, a) => tmps.setIfInBounds t a) tmps = (ps.zip xs).foldl (fun a p => a.setIfInBounds p.1 p.2) tmps := by
        rw [← Array.foldl_toList, Array.toList_zip]
      simp only at hy
      rw [hfold] at hy
      generalize htt : (ps.zip xs).foldl (fun a p => a.setIfInBounds p.1 p.2) tmps = tmps' at hy
      have htr : TR E (setArgs ps args tm) tmps' := by rw [← htt]; exact setArgs_ok ps args xs tm tmps hxs hlen hps h1
      have hsz : tmps'.size = n := by rw [← htt, fold_size]; exact h2
      let bf : Frame := { (default : Frame) with fn := fn, kind := .normal, roundOf := some b }
      have same : ∀ {cs cs'}, Mod bf cs cs' → cs' = cs := by
        intro cs cs' hm
        rcases hm with rfl | ⟨e, _⟩
        · rfl
        · cases e
      have hst : ∀ cs, St G W0 n bf (setArgs ps args tm) [] H .bar E w tmps' [] cs := fun cs => ⟨hr, hsz, htr, .nil, .bar cs⟩
      have k1 := fun cs => (codeK_ok hcall hrnd hdraw (b := bf) (fid := fn) rfl fuel assign (setArgs ps args tm) [] H .bar E w tmps' [] cs [.beginRound, .code body] hcf (hst cs)).1
      have hround : ∀ cs, lone (Frame.round b fn tmps' assign body .normal) cs w = lone (Fr bf tmps' (.code assign :: [.beginRound, .code body]) []) cs w := fun cs => rfl
      split
      · rename_i tm1 H1 rc1 hc1
        split
        · rename_i pend' fn' n' tm' ps' a' b2 d' hg1
          rw [PT.putK_eq]
          -- behind the assignment
          have k2 : ∀ cs, ∃ E1 w1 arr1, Mv G W0 E H.f H.nx.toNat w E1 (Hp.f ⟨H1.nx, PT.put l H1.tab (some (.loop .busy pend' fn' n' tm' ps' a' b2 d'))⟩) H1.nx.toNat w1 ∧ TR E1 tm1 arr1 ∧ arr1.size = n ∧ E1.ρ l = some (b, c) ∧
              Steps G (lone (Frame.round b fn tmps' assign body .normal) cs w) (lone (Fr bf arr1 [.code body] []) cs w1) := by
            intro cs
            have h := k1 cs
            rw [hc1] at h
            obtain ⟨E1, w1, arr1, dv1, cs1, o, e⟩ := h
            have := same o.md
            subst this
            cases o.st.ds
            have hρ1 := o.mv.le.2 _ _ hρ
            obtain ⟨b3, c3, ob1, hρ3, _, hob1, hor1⟩ := o.mv.hr.obj _ _ hg1
            rw [hρ1] at hρ3
            cases hρ3
            cases hor1 with
            | loop g1 g2 g3 =>
            have hm := setObj_mv o.mv.hr hg1 hρ1 hob1 (.loop (st := .busy) (pend := pend') (fn := fn') (params := ps') (assign := a') (body := b2) g1 g2 g3)
            exact ⟨E1, _, arr1, o.mv.trans hm, o.st.tr, o.st.sz, hρ1, by rw [hround]; exact Steps.trans e (.one (st_begin (l := b) rfl (begin_run hob1 rfl)))⟩
          generalize hH2 : (⟨H1.nx, PT.put l H1.tab (some (.loop .busy pend' fn' n' tm' ps' a' b2 d'))⟩ : Hp) = H2 at k2
          have hnx2 : H2.nx = H1.nx := by rw [← hH2]
          rw [← hnx2] at k2
          have k3 : ∀ cs, ∃ E1 w1, Mv G W0 E H.f H.nx.toNat w E1 H2.f H2.nx.toNat w1 ∧ E1.ρ l = some (b, c) ∧ ∃ m, Steps G (lone (Frame.round b fn tmps' assign body .normal) cs w) m ∧ CodeOk G W0 n bf H2 E1 w1 cs m [] (codeK G cf call rnd n fn fuel body tm1 [] H2 .bar) := by
            intro cs
            obtain ⟨E1, w1, arr1, m1, t1, s1, p1, st1⟩ := k2 cs
            exact ⟨E1, w1, m1, p1, _, st1, (codeK_ok hcall hrnd hdraw (b := bf) (fid := fn) rfl fuel body tm1 [] H2 .bar E1 w1 arr1 [] cs [] (by rw [m1.le.1]; exact hcf) ⟨m1.hr, s1, t1, .nil, .bar cs⟩).1⟩
          -- how the round ends
          have fin : ∀ (jump : Option Code) {tm2 : PT AV} {H3 : Hp} {rc3 : RC} {ex : Ex}, codeK G cf call rnd n fn fuel body tm1 [] H2 .bar = .ok ex tm2 [] H3 rc3 →
              (∀ (E3 : Env) (w3 w4 : World) (arr3 : Array Value) (c0 : Frame) (cs : List Frame) (m : Machine), Ends G E3 bf [] arr3 [] (c0 :: cs) w3 m ex → (Instr.endRound b jump).run G w3 = .ok (.bool jump.isNone) w4 → Steps G m (lone (c0.finish (.bool jump.isNone)) cs w4)) →
              RndRes G W0 E H w b xs (roundEnd l jump H3) := by
            intro jump tm2 H3 rc3 ex hbody hend
            have k4 : ∀ (c0 : Frame) (cs : List Frame), (∃ e, roundEnd l jump H3 = .err e) ∨ ∃ H' E3 w4, roundEnd l jump H3 = .ret (.bool jump.isNone) H' ∧ Mv G W0 E H.f H.nx.toNat w E3 H'.f H'.nx.toNat w4 ∧ Steps G (lone (Frame.round b fn tmps' assign body .normal) (c0 :: cs) w) (lone (c0.finish (.bool jump.isNone)) cs w4) := by
              intro c0 cs
              obtain ⟨E1, w1, m1, p1, m, sm, hk⟩ := k3 (c0 :: cs)
              rw [hbody] at hk
              obtain ⟨E3, w3, arr3, dv3, cs3, o, e⟩ := hk
              have := same o.md
              subst this
              cases o.st.ds
              rcases roundEnd_ok o.mv.hr (o.mv.le.2 _ _ p1) jump with ⟨e', h⟩ | ⟨H', w4, h, hrun, mv⟩
              · exact .inl ⟨e', h⟩
              · exact .inr ⟨H', E3, w4, h, m1.trans (o.mv.trans mv), sm.trans (hend E3 w3 w4 arr3 c0 cs m e hrun)⟩
            cases hre : roundEnd l jump H3 with
            | err e => trivial
            | pan v H' =>
              rcases k4 default [] with ⟨e, h⟩ | ⟨H'', E3, w4, h, _⟩
              · rw [h] at hre; cases hre
              · rw [h] at hre; cases hre
            | ret v H' =>
              refine ⟨_, _, _, _, hy, fun c0 cs => ?_⟩
              rcases k4 c0 cs with ⟨e, h⟩ | ⟨H'', E3, w4, h, mv, st⟩
              · rw [h] at hre; cases hre
              · rw [h] at hre; cases hre
                exact ⟨E3, w4, _, mv, .bool _, st⟩
          split
          · rename_i hbody
            exact fin none hbody (fun E3 w3 w4 arr3 c0 cs m e hrun => Steps.trans e (.one (st_leave_end (l := b) rfl rfl hrun)))
          · rename_i hbody
            exact fin (some .ret) hbody (fun E3 w3 w4 arr3 c0 cs m e hrun => by obtain ⟨j, e⟩ := e; exact Steps.trans e (.one (st_leave_ret (l := b) rfl rfl hrun)))
          · rename_i id _ _ _ hbody
            exact fin (some (.exit id)) hbody (fun E3 w3 w4 arr3 c0 cs m e hrun => by obtain ⟨j, e1, e⟩ := e; exact Steps.trans e (.one (st_leave_exit (l := b) rfl rfl (by rw [e1]; rfl) hrun)))
          · rename_i v tm2 H3 rc3 hbody
            refine ⟨_, _, _, _, hy, fun c0 cs => ?_⟩
            obtain ⟨E1, w1, m1, p1, m, sm, hk⟩ := k3 (c0 :: cs)
            rw [hbody] at hk
            obtain ⟨E3, w3, arr3, dv3, cs3, o, x, j, hv, e⟩ := hk
            have := same o.md
            subst this
            cases o.st.ds
            refine ⟨E3, w3, x, m1.trans o.mv, hv, sm.trans (Steps.trans e (.one ?_))⟩
            exact step_lone_go (by simp [stepG, unwind, Frame.catches, Fr, bf, hfn])
          · trivial
          · trivial
        · trivial
      · trivial
      · trivial
    · trivial
  · trivial
theorem bothN_ok [GlOk cf.gl W0] (hdraw : ∀ call, CallOk G W0 cf call → DrawOk G W0 cf call) (fuel : Nat) : ∀ d, CallOk G W0 cf (bothN G cf fuel d).1 ∧ RndOk G W0 cf (bothN G cf fuel d).2
  | 0 => ⟨fun _ _ _ _ _ _ _ _ _ => trivial, fun _ _ _ _ _ _ _ _ _ _ _ _ => trivial⟩
  | d + 1 => let h := bothN_ok hdraw fuel d; ⟨frameK_ok h.1 h.2 (hdraw _ h.1) fuel, roundK_ok h.1 h.2 (hdraw _ h.1) fuel⟩
theorem callN_ok [GlOk cf.gl W0] (hdraw : ∀ call, CallOk G W0 cf call → DrawOk G W0 cf call) (fuel d : Nat) : CallOk G W0 cf (callN G cf fuel d) := (bothN_ok hdraw fuel d).1
end Go.Ai

/- Regions of open order: what is computed there, as plain facts. -/
namespace Go.Ai
open Go Go.RowKit
set_option linter.unusedVariables false
/-! ### equality of values -/
theorem listBeq_eq {α : Type} {f : α → α → Bool} (hf : ∀ x y, f x y = true → x = y) : ∀ {a b : List α}, listBeq f a b = true → a = b
  | [], [], _ => rfl
  | [], _ :: _, h => by cases h
  | _ :: _, [], h => by cases h
  | x :: a, y :: b, h => by
    have h' : (Bool.rec false (listBeq f a b) (f x y) : Bool) = true := h
    cases hxy : f x y with
    | false => rw [hxy] at h'; cases h'
    | true => rw [hxy] at h'; rw [hf _ _ hxy, listBeq_eq hf h']
theorem capBeq_eq {a b : Cap} (h : capBeq a b = true) : a = b := by
  cases a <;> cases b <;> simp [capBeq] at h <;> rw [h]
theorem pbeq_eq {p q : P} (h : P.beq p q = true) : p = q := (P.beq_iff p q).1 h
theorem obeqP_eq {p q : Option P} (h : obeqP p q = true) : p = q := by
  cases p <;> cases q <;> simp only [obeqP] at h
  · rfl
  · cases h
  · cases h
  · rw [pbeq_eq h]
theorem afnBeq_eq {a b : AFn} (h : AFn.beq a b = true) : a = b := by
  cases a <;> cases b <;> simp [AFn.beq] at h
  · rw [h]
  · rw [pbeq_eq h]
theorem beqN_succ (n : Nat) (x y : AV) : AV.beqN (n + 1) x y = (match x, y with
    | .bool a, .bool b => Bool.rec (Bool.rec true false b) b a
    | .int k a, .int k' b => kbeq k k' && SI.beq a b
    | .str a, .str b => listBeq SI.beq a b
    | .ptr0, .ptr0 => true
    | .ptr l o, .ptr l' o' => P.beq l l' && Nat.beq o o'
    | .glob g o, .glob g' o' => Nat.beq g g' && Nat.beq o o'
    | .sl0, .sl0 => true
    | .sl l o n c, .sl l' o' n' c' => P.beq l l' && Nat.beq o o' && Nat.beq n n' && capBeq c c'
    | .map0, .map0 => true
    | .map l, .map l' => P.beq l l'
    | .fn f a b, .fn f' a' b' => AFn.beq f f' && listBeq (AV.beqN n) a a' && listBeq (AV.beqN n) b b'
    | .fn0, .fn0 => true
    | .if0, .if0 => true
    | .iface t v, .iface t' v' => Nat.beq t t' && AV.beqN n v v'
    | .agg a, .agg b => listBeq (AV.beqN n) a b
    | .tup a, .tup b => listBeq (AV.beqN n) a b
    | .iter l, .iter l' => P.beq l l'
    | .chan0, .chan0 => true
    | .chan l, .chan l' => P.beq l l'
    | .xsl m, .xsl m' => Nat.beq m m'
    | .xptr i, .xptr i' => Nat.beq i i'
    | .gsl l a x y, .gsl l' a' x' y' => obeqP l l' && Nat.beq a a' && SI.beq x x' && SI.beq y y'
    | .gptr l a x, .gptr l' a' x' => obeqP l l' && Nat.beq a a' && SI.beq x x'
    | _, _ => false) := rfl
theorem beqN_eq : ∀ (n : Nat) {x y : AV}, AV.beqN n x y = true → x = y := by
  intro n
  induction n with
  | zero => intro x y h; cases h
  | succ n ih =>
    have ihl := fun {a b : List AV} => listBeq_eq (a := a) (b := b) (f := AV.beqN n) (fun x y h => ih h)
    intro x y h
    rw [beqN_succ] at h
    split at h
    · rename_i a b; cases a <;> cases b <;> first | rfl | cases h
    · simp only [Bool.and_eq_true] at h; rw [(kbeq_iff _ _).1 h.1, SI.beq_eq h.2]
    · rw [listBeq_eq (fun _ _ h => SI.beq_eq h) h]
    · rfl
    · simp only [Bool.and_eq_true] at h; rw [pbeq_eq h.1, Nat.eq_of_beq_eq_true h.2]
    · simp only [Bool.and_eq_true] at h; rw [Nat.eq_of_beq_eq_true h.1, Nat.eq_of_beq_eq_true h.2]
    · rfl
    · simp only [Bool.and_eq_true] at h; obtain ⟨⟨⟨h1, h2⟩, h3⟩, h4⟩ := h; rw [pbeq_eq h1, Nat.eq_of_beq_eq_true h2, Nat.eq_of_beq_eq_true h3, capBeq_eq h4]
    · rfl
    · rw [pbeq_eq h]
    · simp only [Bool.and_eq_true] at h; obtain ⟨⟨h1, h2⟩, h3⟩ := h; rw [afnBeq_eq h1, ihl h2, ihl h3]
    · rfl
    · rfl
    · simp only [Bool.and_eq_true] at h; rw [Nat.eq_of_beq_eq_true h.1, ih h.2]
    · rw [ihl h]
    · rw [ihl h]
    · rw [pbeq_eq h]
    · rfl
    · rw [pbeq_eq h]
    · rw [Nat.eq_of_beq_eq_true h]
    · rw [Nat.eq_of_beq_eq_true h]
    · simp only [Bool.and_eq_true] at h; obtain ⟨⟨⟨h1, h2⟩, h3⟩, h4⟩ := h; rw [obeqP_eq h1, Nat.eq_of_beq_eq_true h2, SI.beq_eq h3, SI.beq_eq h4]
    · simp only [Bool.and_eq_true] at h; obtain ⟨⟨h1, h2⟩, h3⟩ := h; rw [obeqP_eq h1, Nat.eq_of_beq_eq_true h2, SI.beq_eq h3]
    · cases h
theorem same_eq {x y : AV} (h : AV.same x y = true) : x = y := beqN_eq 8 h
/-! ### who must come ahead -/
theorem edgesM_bit {acc : List Nat} : ∀ {es : List Edge} {x : Nat}, Nat.testBit (edgesM acc es) x = true → ∃ e ∈ es, Region.binds .any e = true ∧ (x = e.on ∨ bit (gD acc e.on) x = true)
  | [], x, h => by simp [edgesM] at h
  | e :: es, x, h => by
    have h' : Nat.testBit (match e.ground with
      | .textOnly _ => edgesM acc es
      | .gcOnly _ => edgesM acc es
      | _ => Nat.lor (Nat.lor (Nat.pow 2 e.on) (match nthL acc e.on with | some m => m | none => 0)) (edgesM acc es)) x = true := h
    have tail : Nat.testBit (edgesM acc es) x = true → ∃ e' ∈ e :: es, Region.binds .any e' = true ∧ (x = e'.on ∨ bit (gD acc e'.on) x = true) := fun ht =>
      let ⟨e', h1, h2⟩ := edgesM_bit ht; ⟨e', List.mem_cons_of_mem _ h1, h2⟩
    have hb : (∃ d, e.ground = .textOnly d) ∨ (∃ d, e.ground = .gcOnly d) ∨ Region.binds .any e = true := by
      unfold Region.binds
      cases e.ground <;> first | exact .inl ⟨_, rfl⟩ | exact .inr (.inl ⟨_, rfl⟩) | exact .inr (.inr rfl)
    rcases hb with ⟨d, hg⟩ | ⟨d, hg⟩ | hb
    · rw [hg] at h'; exact tail h'
    · rw [hg] at h'; exact tail h'
    · have h2 : Nat.testBit (((2 ^ e.on) ||| (match nthL acc e.on with | some m => m | none => 0)) ||| (edgesM acc es)) x = true := by
        unfold Region.binds at hb
        cases hg : e.ground <;> rw [hg] at hb h' <;> first | exact h' | cases hb
      rw [Nat.testBit_or, Nat.testBit_or, Nat.testBit_two_pow] at h2
      simp only [Bool.or_eq_true, decide_eq_true_eq] at h2
      rcases h2 with (h2 | h2) | h2
      · exact ⟨e, List.mem_cons_self, hb, .inl h2.symm⟩
      · refine ⟨e, List.mem_cons_self, hb, .inr ?_⟩
        rw [nthL_eq] at h2
        cases hg : acc[e.on]? with
        | none => rw [hg] at h2; simp at h2
        | some m => rw [hg] at h2; simpa [bit_def, gD_eq, List.getD_eq_getElem?_getD, hg] using h2
      · exact tail h2
theorem ancs_spec : ∀ (ops : List Oper) (acc : List Nat), (ancs ops acc).take acc.length = acc ∧ (ancs ops acc).length = acc.length + ops.length ∧
    ∀ i o, ops[i]? = some o → (ancs ops acc)[acc.length + i]? = some (edgesM ((ancs ops acc).take (acc.length + i)) o.after.toList)
  | [], acc => ⟨by simp [ancs], by simp [ancs], fun i o h => by simp at h⟩
  | o :: ops, acc => by
    have hrec : ancs (o :: ops) acc = ancs ops (acc ++ [edgesM acc o.after.toList]) := rfl
    obtain ⟨h1, h2, h3⟩ := ancs_spec ops (acc ++ [edgesM acc o.after.toList])
    rw [← hrec] at h1 h2 h3
    simp only [List.length_append, List.length_cons, List.length_nil] at h1 h2 h3
    have t1 : (ancs (o :: ops) acc).take acc.length = acc := by
      have := congrArg (List.take acc.length) h1
      rw [List.take_take] at this
      simpa using this
    refine ⟨t1, by simp; omega, fun i o' h => ?_⟩
    cases i with
    | zero =>
      simp at h
      subst h
      rw [Nat.add_zero, t1]
      have := congrArg (fun l => l[acc.length]?) h1
      simp only [List.getElem?_take] at this
      simpa using this
    | succ i =>
      have := h3 i o' (by simpa using h)
      rw [show acc.length + (i + 1) = acc.length + (0 + 1) + i by omega]
      exact this
/-- who must come ahead: those at the edges that bind, and those ahead of them -/
theorem anc_bit {ops : List Oper} {i x : Nat} {o : Oper} (ho : ops[i]? = some o) (h : bit (gD (ancs ops []) i) x = true) : ∃ e ∈ o.after.toList, Region.binds .any e = true ∧ (x = e.on ∨ bit (gD (ancs ops []) e.on) x = true) := by
  obtain ⟨_, _, h3⟩ := ancs_spec ops []
  have := h3 i o ho
  simp only [List.length_nil, Nat.zero_add] at this
  rw [gD_eq, List.getD_eq_getElem?_getD, this, bit_def] at h
  obtain ⟨e, h1, h2, h4⟩ := edgesM_bit h
  refine ⟨e, h1, h2, h4.imp id (fun h => ?_)⟩
  rw [gD_eq, List.getD_eq_getElem?_getD, List.getElem?_take] at h
  split at h
  · rw [gD_eq, List.getD_eq_getElem?_getD]; exact h
  · simp [bit_def] at h
theorem static_edge {ops : List Oper} {as : List Nat} (h : regStatic ops as = true) {i : Nat} {o : Oper} (ho : ops[i]? = some o) : ∀ e ∈ o.after.toList, Region.binds .any e = true → e.on < i := by
  intro e he hb
  unfold regStatic at h
  have := List.all_eq_true.1 h (o, i) (List.mem_zipIdx_iff_getElem?.2 ho)
  simp only [Bool.and_eq_true] at this
  have := List.all_eq_true.1 this.1 e he
  unfold Region.binds at hb
  cases hg : e.ground <;> simp only [hg] at this hb <;> first | exact Nat.le_of_ble_eq_true this | cases hb
theorem static_pair {ops : List Oper} {as : List Nat} (h : regStatic ops as = true) {i j : Nat} {oi oj : Oper} (hi : ops[i]? = some oi) (hj : ops[j]? = some oj) (hne : i ≠ j) {t : Nat} (ht : oi.dst = some t) :
    oj.dst ≠ some t ∧ (t ∈ looks ops oj → bit (gD as (max i j)) (min i j) = true) := by
  unfold regStatic at h
  have := List.all_eq_true.1 h (oi, i) (List.mem_zipIdx_iff_getElem?.2 hi)
  simp only [Bool.and_eq_true] at this
  have := List.all_eq_true.1 this.2 (oj, j) (List.mem_zipIdx_iff_getElem?.2 hj)
  simp only [Bool.or_eq_true] at this
  rcases this with h | h
  · exact absurd (Nat.eq_of_beq_eq_true h) hne
  · unfold pairOk at h
    rw [ht] at h
    simp only [Bool.and_eq_true, Bool.or_eq_true, Bool.not_eq_true'] at h
    refine ⟨fun e => ?_, fun hm => ?_⟩
    · have := h.1
      rw [e] at this
      simp at this
    · rcases h.2 with h2 | h2
      · have := List.any_eq_false.1 h2 t hm
        simp at this
      · exact h2
/-! ### names laid by -/
noncomputable def namesF : List Oper → P → List P
  | [], _ => []
  | _ :: ops, p => p :: namesF ops (P.next p)
noncomputable def nxF : List Oper → P → P
  | [], p => p
  | _ :: ops, p => nxF ops (P.next p)
theorem resvK_eq {R : Type} : ∀ (ops : List Oper) (p : P) (k : List P → P → R), resvK ops p k = k (namesF ops p) (nxF ops p)
  | [], p, k => rfl
  | o :: ops, p, k => by
    have : resvK (o :: ops) p k = P.nextK p (fun q => resvK ops q (fun l r => k (p :: l) r)) := rfl
    rw [this, P.nextK_eq, resvK_eq]; rfl
theorem nxF_nat : ∀ (ops : List Oper) (p : P), (nxF ops p).toNat = p.toNat + ops.length
  | [], p => rfl
  | o :: ops, p => by simp only [nxF, nxF_nat ops, P.toNat_next, List.length_cons]; omega
theorem names_nat : ∀ (ops : List Oper) (p : P) (i : Nat) {l : P}, (namesF ops p)[i]? = some l → l.toNat = p.toNat + i ∧ i < ops.length
  | [], p, i, l, h => by simp [namesF] at h
  | o :: ops, p, 0, l, h => by simp [namesF] at h; subst h; simp
  | o :: ops, p, i + 1, l, h => by
    simp only [namesF, List.getElem?_cons_succ] at h
    have := names_nat ops _ i h
    rw [P.toNat_next] at this
    simp only [List.length_cons]; omega
/-! ### laying in -/
noncomputable def layF (as : List Nat) (m : Nat) (done : List Nat) : List (Nat × P × AObj) → PT AObj → PT AObj
  | [], t => t
  | x :: xs, t => match bit m x.1, anyBit as x.1 done with
    | true, false => layF as m done xs (PT.put x.2.1 t (some x.2.2))
    | _, _ => layF as m done xs t
theorem layT_eq {R : Type} (as : List Nat) (m : Nat) (done : List Nat) : ∀ (xs : List (Nat × P × AObj)) (t : PT AObj) (k : PT AObj → R), layT as m done xs t k = k (layF as m done xs t)
  | [], t, k => rfl
  | x :: xs, t, k => by
    have : layT as m done (x :: xs) t k = match bit m x.1, anyBit as x.1 done with
      | true, false => PT.putK x.2.1 t (some x.2.2) (fun t => layT as m done xs t k)
      | _, _ => layT as m done xs t k := rfl
    rw [this]
    unfold layF
    split
    · rw [PT.putK_eq, layT_eq]
    · rw [layT_eq]
theorem layF_get {as : List Nat} {m : Nat} {done : List Nat} : ∀ {xs : List (Nat × P × AObj)} {t : PT AObj} {l : P} {o : AObj}, PT.get l (layF as m done xs t) = some o →
    (∃ x ∈ xs, bit m x.1 = true ∧ anyBit as x.1 done = false ∧ x.2.1 = l ∧ x.2.2 = o) ∨ PT.get l t = some o
  | [], t, l, o, h => .inr h
  | x :: xs, t, l, o, h => by
    unfold layF at h
    split at h
    · rename_i h1 h2
      rcases layF_get h with ⟨y, hy, h3⟩ | h3
      · exact .inl ⟨y, List.mem_cons_of_mem _ hy, h3⟩
      · by_cases hl : x.2.1 = l
        · subst hl
          rw [PT.get_put_same] at h3
          cases h3
          exact .inl ⟨x, List.mem_cons_self, h1, h2, rfl, rfl⟩
        · rw [PT.get_put_other hl] at h3
          exact .inr h3
    · rcases layF_get h with ⟨y, hy, h3⟩ | h3
      · exact .inl ⟨y, List.mem_cons_of_mem _ hy, h3⟩
      · exact .inr h3
noncomputable def layAF (as : List Nat) (done : List Nat) : List (Nat × P × AObj) → PT AObj → PT AObj
  | [], t => t
  | x :: xs, t => match anyBit as x.1 done with
    | false => layAF as done xs (PT.put x.2.1 t (some x.2.2))
    | _ => layAF as done xs t
theorem layAll_eq {R : Type} (as : List Nat) (done : List Nat) : ∀ (xs : List (Nat × P × AObj)) (t : PT AObj) (k : PT AObj → R), layAll as done xs t k = k (layAF as done xs t)
  | [], t, k => rfl
  | x :: xs, t, k => by
    have : layAll as done (x :: xs) t k = match anyBit as x.1 done with
      | false => PT.putK x.2.1 t (some x.2.2) (fun t => layAll as done xs t k)
      | _ => layAll as done xs t k := rfl
    rw [this]
    unfold layAF
    split
    · rw [PT.putK_eq, layAll_eq]
    · rw [layAll_eq]
theorem layAF_get {as : List Nat} {done : List Nat} : ∀ {xs : List (Nat × P × AObj)} {t : PT AObj} {l : P} {o : AObj}, PT.get l (layAF as done xs t) = some o →
    (∃ x ∈ xs, anyBit as x.1 done = false ∧ x.2.1 = l ∧ x.2.2 = o) ∨ PT.get l t = some o
  | [], t, l, o, h => .inr h
  | x :: xs, t, l, o, h => by
    unfold layAF at h
    split at h
    · rename_i h2
      rcases layAF_get h with ⟨y, hy, h3⟩ | h3
      · exact .inl ⟨y, List.mem_cons_of_mem _ hy, h3⟩
      · by_cases hl : x.2.1 = l
        · subst hl
          rw [PT.get_put_same] at h3
          cases h3
          exact .inl ⟨x, List.mem_cons_self, h2, rfl, rfl⟩
        · rw [PT.get_put_other hl] at h3
          exact .inr h3
    · rcases layAF_get h with ⟨y, hy, h3⟩ | h3
      · exact .inl ⟨y, List.mem_cons_of_mem _ hy, h3⟩
      · exact .inr h3
theorem anyBit_iff {as : List Nat} {i : Nat} : ∀ {done : List Nat}, anyBit as i done = true ↔ ∃ w ∈ done, bit (gD as w) i = true
  | [] => by simp [anyBit]
  | w :: done => by
    have : anyBit as i (w :: done) = match bit (gD as w) i with | true => true | false => anyBit as i done := rfl
    rw [this]
    cases h : bit (gD as w) i with
    | true => exact ⟨fun _ => ⟨w, List.mem_cons_self, h⟩, fun _ => rfl⟩
    | false => simp only [anyBit_iff, List.mem_cons]; constructor
               · rintro ⟨w', h1, h2⟩; exact ⟨w', .inr h1, h2⟩
               · rintro ⟨w', rfl | h1, h2⟩
                 · rw [h] at h2; cases h2
                 · exact ⟨w', h1, h2⟩
noncomputable def eraF : List Oper → PT AV → PT AV
  | [], t => t
  | o :: ops, t => match o.dst with
    | some d => eraF ops (PT.put (P.of d) t none)
    | none => eraF ops t
theorem eraseD_eq {R : Type} : ∀ (ops : List Oper) (t : PT AV) (k : PT AV → R), eraseD ops t k = k (eraF ops t)
  | [], t, k => rfl
  | o :: ops, t, k => by
    have : eraseD (o :: ops) t k = match o.dst with | some d => PT.putK (P.of d) t none (fun t => eraseD ops t k) | none => eraseD ops t k := rfl
    rw [this]
    unfold eraF
    cases o.dst with
    | none => simp only; rw [eraseD_eq]
    | some d => simp only; rw [PT.putK_eq, eraseD_eq]
theorem eraF_get : ∀ {ops : List Oper} {t : PT AV} {q : Nat} {v : AV}, PT.get (P.of q) (eraF ops t) = some v → (∀ o ∈ ops, o.dst ≠ some q) ∧ PT.get (P.of q) t = some v
  | [], t, q, v, h => ⟨fun o ho => by simp at ho, h⟩
  | o :: ops, t, q, v, h => by
    unfold eraF at h
    cases hd : o.dst with
    | none =>
      rw [hd] at h
      obtain ⟨h1, h2⟩ := eraF_get h
      exact ⟨fun o' ho' => by rcases List.mem_cons.1 ho' with rfl | ho'; rw [hd]; simp; exact h1 o' ho', h2⟩
    | some d =>
      rw [hd] at h
      obtain ⟨h1, h2⟩ := eraF_get h
      by_cases hdq : d = q
      · subst hdq; rw [PT.get_put_same] at h2; cases h2
      · rw [PT.get_put_other (fun e => hdq (P.of_inj e))] at h2
        exact ⟨fun o' ho' => by rcases List.mem_cons.1 ho' with rfl | ho'; rw [hd]; simpa using hdq; exact h1 o' ho', h2⟩
end Go.Ai

/- Where an order is open: operations by what they do to memory; those that stand in an order. -/
namespace Go.Ai
open Go Go.RowKit
set_option linter.unusedVariables false
/-! ### operations that are handed on: whatever comes behind -/
theorem singK_nat {R : Type} (cf : Cf) (e : SI) (K : SI → R) : singK cf e K = K (singK cf e id) := by
  unfold singK
  split
  · split
    · rw [forceI_eq, forceI_eq]; rfl
    · rfl
  · rfl
theorem binK_nat {R : Type} (cf : Cf) (op : BinOp) (k : IntKind) (a b : SI) (K : SI → R) : binK cf op k a b K = K (binK cf op k a b id) := by
  unfold binK
  split
  · rw [forceI_eq, forceI_eq]; rfl
  · exact singK_nat _ _ _
theorem convK_nat {R : Type} (cf : Cf) (k : IntKind) (a : SI) (K : SI → R) : convK cf k a K = K (convK cf k a id) := by
  unfold convK
  split
  · rw [forceI_eq, forceI_eq]; rfl
  · split <;> exact singK_nat _ _ _
theorem unK_nat {R : Type} (cf : Cf) (op : UnOp) (x : AV) (K : Option AV → R) : unK cf op x K = K (unK cf op x id) := by
  unfold unK
  split
  · rfl
  · rw [binK_nat, binK_nat (K := fun r => id (some (AV.int _ r)))]; rfl
  · rw [binK_nat, binK_nat (K := fun r => id (some (AV.int _ r)))]; rfl
  · rfl
theorem convIK_nat {R : Type} (G : Program) (cf : Cf) (tab : PT AObj) (s d : TypeId) (x : AV) (K : Option AV → R) : convIK G cf tab s d x K = K (convIK G cf tab s d x id) := by
  unfold convIK
  split
  · split
    · rw [convK_nat, convK_nat (K := fun r => id (some (AV.int _ r)))]; rfl
    · rfl
  · rfl
theorem binOpK_nat {R : Type} (cf : Cf) (G : Program) (op : BinOp) (t : TypeId) (x y : AV) (K : Option AV → R) : binOpK cf G op t x y K = K (binOpK cf G op t x y id) := by
  unfold binOpK
  repeat' split
  all_goals first
    | rfl
    | (rw [binK_nat, binK_nat (K := fun r => id (some (AV.int _ r)))]; rfl)

theorem binOpN_nat {R : Type} (cf : Cf) (G : Program) (op : BinOp) (t : TypeId) (xo yo : Operand) (x y : AV) (K : Option AV → R) : binOpN cf G op t xo yo x y K = K (binOpN cf G op t xo yo x y id) := by
  unfold binOpN
  repeat' split
  all_goals first
    | rfl
    | exact binOpK_nat _ _ _ _ _ _ _
theorem okT_or {a b : Bool} (h : okT a b = true) : a = true ∨ b = true := by cases a <;> first | exact .inr h | exact .inl rfl
theorem okT_right (a : Bool) : okT a true = true := by cases a <;> rfl
theorem okT_left (b : Bool) : okT true b = true := rfl
section
variable {G : Program} {cf : Cf} {call : CallF}
theorem ordR_ok {as : List Nat} {i : Nat} {a : Oper} : ∀ {l : List Oper} {j : Nat}, ordR as i a l j = true → ∀ k b, l[k]? = some b → ordP as i (j + k) a b = true
  | [], j, _, k, b, h => by simp at h
  | c :: l, j, h, k, b, e => by
    simp only [ordR, Bool.and_eq_true] at h
    cases k with
    | zero => simp at e; subst e; exact h.1
    | succ k =>
      have := ordR_ok h.2 k b (by simpa using e)
      rw [show j + (k + 1) = Nat.succ j + k by omega]
      exact this
theorem ordB_ok {as : List Nat} : ∀ {l : List Oper} {i : Nat}, ordB as l i = true → (∀ (k : Nat) (a : Oper), l[k]? = some a → kindO a.op ≤ 2) ∧ ∀ (k m : Nat) (a b : Oper), k < m → l[k]? = some a → l[m]? = some b → ordP as (i + k) (i + m) a b = true
  | [], i, _ => ⟨fun k a h => by simp at h, fun k m a b _ h => by simp at h⟩
  | c :: l, i, h => by
    simp only [ordB, Bool.and_eq_true] at h
    obtain ⟨h1, h2⟩ := ordB_ok h.2
    refine ⟨fun k a e => ?_, fun k m a b hkm e e' => ?_⟩
    · cases k with
      | zero => simp at e; subst e; exact Nat.le_of_ble_eq_true h.1.1
      | succ k => exact h1 k a (by simpa using e)
    · cases m with
      | zero => omega
      | succ m =>
        cases k with
        | zero =>
          simp at e; subst e
          have := ordR_ok h.1.2 m b (by simpa using e')
          rw [show i + (m + 1) = Nat.succ i + m by omega]
          exact this
        | succ k =>
          have := h2 k m a b (by omega) (by simpa using e) (by simpa using e')
          rw [show i + (m + 1) = Nat.succ i + m by omega, show i + (k + 1) = Nat.succ i + k by omega]
          exact this
/-- those that stand in an order -/
theorem ord_bit {ops : List Oper} {as : List Nat} (h : ordB as ops 0 = true) {i j : Nat} {a b : Oper} (hij : i < j) (ha : ops[i]? = some a) (hb : ops[j]? = some b) (ka : kindO a.op ≠ 0) (kb : kindO b.op ≠ 0) (k : kindO a.op = 2 ∨ kindO b.op = 2) : bit (gD as j) i = true := by
  obtain ⟨h1, h2⟩ := ordB_ok h
  have := h2 i j a b hij ha hb
  rw [Nat.zero_add, Nat.zero_add] at this
  have hla := h1 i a ha
  have hlb := h1 j b hb
  have e1 : kindO a.op = 1 ∨ kindO a.op = 2 := by omega
  have e2 : kindO b.op = 1 ∨ kindO b.op = 2 := by omega
  unfold ordP at this
  rcases e1 with e1 | e1 <;> rcases e2 with e2 | e2 <;> rw [e1, e2] at this <;> first | exact this | omega
theorem kind_rd {o : Oper} {ev : Operand → Option AV} {H : Hp} (h : kindO o.op ≤ 1) : (∃ v, opK G cf o ev H = .rd v) ∨ ∃ e, opK G cf o ev H = .err e := by
  have ofR : ∀ (n : Nat) (r : Option AV), (∃ v, K3.ofR n r = .rd v) ∨ ∃ e, K3.ofR n r = .err e := fun n r => by
    cases r with
    | none => exact .inr ⟨n, rfl⟩
    | some v => exact .inl ⟨v, rfl⟩
  unfold opK
  unfold kindO at h
  cases ho : o.op <;> rw [ho] at h <;> first | (simp [hfree] at h; done) | skip
  case move x => exact ofR _ _
  case assign x => exact ofR _ _
  case pick c a b =>
    simp only
    split
    · exact ofR _ _
    · exact .inr ⟨_, rfl⟩
  case build t ps =>
    simp only
    split
    · exact ofR _ _
    · exact .inr ⟨_, rfl⟩
  case load t x =>
    simp only
    split
    · exact ofR _ _
    · exact .inr ⟨_, rfl⟩
  case nilCheck x =>
    simp only
    split
    · exact ofR _ _
    · exact .inr ⟨_, rfl⟩
  case binOp op t x y u =>
    simp only
    split
    · rw [binOpN_nat]; exact ofR _ _
    · exact .inr ⟨_, rfl⟩
  case unOp op t x =>
    simp only
    split
    · rw [unK_nat]; exact ofR _ _
    · exact .inr ⟨_, rfl⟩
  case makeInterface t x =>
    simp only
    split
    · exact ofR _ _
    · exact .inr ⟨_, rfl⟩
  case makeFunc f a b =>
    cases f <;> simp only
    case func g =>
      split
      · exact .inl ⟨_, rfl⟩
      · exact .inr ⟨_, rfl⟩
    all_goals exact .inr ⟨_, rfl⟩
  case slice t x lo hi mx =>
    cases mx <;> simp only <;> split
    · exact ofR _ _
    · exact .inr ⟨_, rfl⟩
    · exact ofR _ _
    · exact .inr ⟨_, rfl⟩
  case fieldAddr s x f =>
    simp only
    split
    · exact ofR _ _
    · exact .inr ⟨_, rfl⟩
  case field s x f =>
    simp only
    split
    · exact ofR _ _
    · exact .inr ⟨_, rfl⟩
  case indexAddr t x i =>
    simp only
    split
    · exact ofR _ _
    · exact .inr ⟨_, rfl⟩
  case index t x i =>
    simp only
    split
    · exact ofR _ _
    · exact .inr ⟨_, rfl⟩
  case lookup t x k ok =>
    simp only
    split
    · exact ofR _ _
    · exact .inr ⟨_, rfl⟩
  case typeAssert x a b ok =>
    simp only
    split
    · exact ofR _ _
    · exact .inr ⟨_, rfl⟩
  case extract t i =>
    simp only
    split
    · exact ofR _ _
    · exact .inr ⟨_, rfl⟩
  case call c =>
    simp only at h ⊢
    unfold callK
    split
    · exact .inr ⟨_, rfl⟩
    · split at h
      · omega
      · omega
      · omega
      · omega
      · rename_i hc
        rw [hc]
        simp only
        split
        · exact ofR _ _
        · exact .inr ⟨_, rfl⟩
      · rename_i hc
        rw [hc]
        exact ofR _ _
      · omega
theorem al_kind {o : Oper} (h : isAl o.op = true) : kindO o.op = 3 := by
  unfold kindO
  cases ho : o.op <;> rw [ho] at h <;> first | (simp [isAl] at h; done) | rfl
end
end Go.Ai

/- The row of the text, as facts. -/
namespace Go.Ai
open Go Go.RowKit
set_option linter.unusedVariables false
section
variable (G : Program) (cf : Cf) (call : CallF) (n : Nat) (ops : List Oper) (as : List Nat) (names : List P) (tm0 : PT AV) (H00 : Hp)
structure Tq where
  s : TrS
  tm : PT AV
  H : Hp
inductive WrS (o : Oper) (ev : Operand → Option AV) (T : Hp) : AV → Hp → Prop
  | wv {v : AV} {H' : Hp} (h : opK G cf o ev T = .wv v H') : WrS o ev T v H'
  | wu {H' : Hp} (h : opK G cf o ev T = .wu H') : WrS o ev T (.tup []) H'
  | call {f : FuncId} {args : List AV} {v : AV} {H' : Hp} (h : opK G cf o ev T = .call f args) (hc : call f args T = .ret v H') : WrS o ev T v H'
/-- what one operation came to -/
inductive Ts (q : Tq) (o : Oper) : TE → Tq → Prop
  | skip (hw : wantO ops o q.tm = some false) {tm' : PT AV} (hp : putF n o.dst q.tm (.tup []) = some tm') : Ts q o .skip ⟨{ q.s with rl := .skip :: q.s.rl }, tm', q.H⟩
  | rd (hw : wantO ops o q.tm = some true) {v : AV} (hop : opK G cf o (evR q.tm o) ⟨q.H.nx, layF as (gD as q.s.rl.length) q.s.wl q.s.xs q.H.tab⟩ = .rd v) {tm' : PT AV} (hp : putF n o.dst q.tm v = some tm') :
      Ts q o (.rd q.tm v) ⟨{ q.s with rl := .rd q.tm v :: q.s.rl }, tm', q.H⟩
  | al (hw : wantO ops o q.tm = some true) {ob : AObj} {mk : P → AV} {l : P} (hop : opK G cf o (evR q.tm o) ⟨q.H.nx, layF as (gD as q.s.rl.length) q.s.wl q.s.xs q.H.tab⟩ = .al ob mk) (hal : isAl o.op = true) (hl : names[q.s.rl.length]? = some l)
      {tm' : PT AV} (hp : putF n o.dst q.tm (mk l) = some tm') : Ts q o (.al l ob (mk l)) ⟨{ q.s with rl := .al l ob (mk l) :: q.s.rl, xs := (q.s.rl.length, l, ob) :: q.s.xs }, tm', q.H⟩
  | wr (hw : wantO ops o q.tm = some true) (hc : chained (gD as q.s.rl.length) q.s.wl = true) {v : AV} {H' : Hp} (hs : WrS G cf call o (evR q.tm o) ⟨q.H.nx, layF as (gD as q.s.rl.length) q.s.wl q.s.xs q.H.tab⟩ v H')
      {tm' : PT AV} (hp : putF n o.dst q.tm v = some tm') : Ts q o (.wr v) ⟨{ q.s with rl := .wr v :: q.s.rl, hs := H' :: q.s.hs, wl := q.s.rl.length :: q.s.wl }, tm', H'⟩
inductive Tr : Tq → Prop
  | nil : Tr ⟨⟨[], [H00], [], []⟩, tm0, H00⟩
  | cons {q q' : Tq} {o : Oper} {te : TE} (h : Tr q) (ho : ops[q.s.rl.length]? = some o) (hs : Ts G cf call n ops as names q o te q') : Tr q'
inductive TrE : TrS → PT AV → Hp → Option AV → Prop
  | none {q : Tq} (h : Tr G cf call n ops as names tm0 H00 q) (hl : q.s.rl.length = ops.length) : TrE q.s q.tm q.H none
  | some {q : Tq} (h : Tr G cf call n ops as names tm0 H00 q) {o : Oper} (ho : ops[q.s.rl.length]? = some o) (hw : wantO ops o q.tm = some true) (hc : chained (gD as q.s.rl.length) q.s.wl = true) {f : FuncId} {args : List AV} {v : AV} {H' : Hp}
      (hop : opK G cf o (evR q.tm o) ⟨q.H.nx, layF as (gD as q.s.rl.length) q.s.wl q.s.xs q.H.tab⟩ = .call f args) (hcl : call f args ⟨q.H.nx, layF as (gD as q.s.rl.length) q.s.wl q.s.xs q.H.tab⟩ = .pan v H')
      (hb : ∀ j, q.s.rl.length < j → j < ops.length → bit (gD as j) q.s.rl.length = true) : TrE q.s q.tm H' (some v)
end
variable {G : Program} {cf : Cf} {call : CallF} {n : Nat} {ops : List Oper} {as : List Nat} {names : List P} {tm0 : PT AV} {H00 : Hp}
theorem behind_ok (as : List Nat) (i : Nat) : ∀ (rest : List Oper) (j : Nat), allBehind as i rest j = true → ∀ k, j ≤ k → k < j + rest.length → bit (gD as k) i = true
  | [], j, _, k, h1, h2 => by simp at h2; omega
  | o :: rest, j, h, k, h1, h2 => by
    have h' : (match bit (gD as j) i with | true => allBehind as i rest (Nat.succ j) | false => false) = true := h
    cases hb : bit (gD as j) i with
    | false => rw [hb] at h'; cases h'
    | true =>
      rw [hb] at h'
      by_cases hk : k = j
      · subst hk; exact hb
      · exact behind_ok as i rest (j + 1) h' k (by omega) (by simp only [List.length_cons] at h2; omega)
theorem traceK_ok {Φ : CR → Prop} {K : TrS → PT AV → Hp → Option AV → CR} (bad : ∀ k, Φ (.err k)) (done : ∀ s tm H p, TrE G cf call n ops as names tm0 H00 s tm H p → Φ (K s tm H p)) :
    ∀ (rest : List Oper) (q : Tq), Tr G cf call n ops as names tm0 H00 q → ops.drop q.s.rl.length = rest →
      Φ (traceK G cf call n ops as K (fun k => .err k) rest q.s.rl.length (names.drop q.s.rl.length) q.tm q.H q.s) := by
  intro rest
  induction rest with
  | nil =>
    intro q h hd
    have hle : ops.length ≤ q.s.rl.length := List.drop_eq_nil_iff.1 hd
    have hge : q.s.rl.length ≤ ops.length := by
      cases h with
      | nil => simp
      | cons h ho hs =>
        rename_i q0 o te
        have := (List.getElem?_eq_some_iff.1 ho).1
        cases hs <;> simp <;> omega
    exact done _ _ _ _ (.none h (Nat.le_antisymm hge hle))
  | cons o rest ih =>
    intro q h hd
    have ho : ops[q.s.rl.length]? = some o := by
      have := List.getElem?_drop (xs := ops) (i := q.s.rl.length) (j := 0)
      rw [hd] at this
      simpa using this.symm
    have hlt : q.s.rl.length < ops.length := (List.getElem?_eq_some_iff.1 ho).1
    have hd' : ops.drop (q.s.rl.length + 1) = rest := by rw [← List.drop_drop, hd]; rfl
    have hrest : rest.length + (q.s.rl.length + 1) = ops.length := by rw [← hd', List.length_drop]; omega
    have go : ∀ (v : AV) (H : Hp) (s : TrS), s.rl.length = q.s.rl.length + 1 → (∀ tm', putF n o.dst q.tm v = some tm' → ∃ te, Ts G cf call n ops as names q o te ⟨s, tm', H⟩) →
        Φ (putT n o.dst q.tm v (fun r => match r with | some tm => traceK G cf call n ops as K (fun k => .err k) rest (Nat.succ q.s.rl.length) (names.drop q.s.rl.length).tail tm H s | none => .err 61)) := by
      intro v H s hl hs
      rw [putT_eq]
      cases hp : putF n o.dst q.tm v with
      | none => exact bad _
      | some tm' =>
        obtain ⟨te, ht⟩ := hs tm' hp
        have := ih ⟨s, tm', H⟩ (.cons h ho ht) (by simp only; rw [hl]; exact hd')
        simp only [hl] at this
        simp only [List.tail_drop]
        exact this
    change Φ (match wantF ops o q.tm with
      | none => .err 60
      | some false => putT n o.dst q.tm (.tup []) (fun r => match r with | some tm => traceK G cf call n ops as K (fun k => .err k) rest (Nat.succ q.s.rl.length) (names.drop q.s.rl.length).tail tm q.H { q.s with rl := .skip :: q.s.rl } | none => .err 61)
      | some true => layT as (gD as q.s.rl.length) q.s.wl q.s.xs q.H.tab (fun t =>
        let wrote := fun (v : AV) (H' : Hp) => match chained (gD as q.s.rl.length) q.s.wl with
          | true => putT n o.dst q.tm v (fun r => match r with | some tm => traceK G cf call n ops as K (fun k => .err k) rest (Nat.succ q.s.rl.length) (names.drop q.s.rl.length).tail tm H' { q.s with rl := .wr v :: q.s.rl, hs := H' :: q.s.hs, wl := q.s.rl.length :: q.s.wl } | none => .err 61)
          | false => .err 70
        match opF G cf (evR q.tm o) ⟨q.H.nx, t⟩ o with
        | .rd v => putT n o.dst q.tm v (fun r => match r with | some tm => traceK G cf call n ops as K (fun k => .err k) rest (Nat.succ q.s.rl.length) (names.drop q.s.rl.length).tail tm q.H { q.s with rl := .rd q.tm v :: q.s.rl } | none => .err 61)
        | .al ob mk => match isAl o.op, names.drop q.s.rl.length with
          | true, l :: _ => putT n o.dst q.tm (mk l) (fun r => match r with | some tm => traceK G cf call n ops as K (fun k => .err k) rest (Nat.succ q.s.rl.length) (names.drop q.s.rl.length).tail tm q.H { q.s with rl := .al l ob (mk l) :: q.s.rl, xs := (q.s.rl.length, l, ob) :: q.s.xs } | none => .err 61)
          | _, _ => .err 71
        | .wv v H' => wrote v H'
        | .wu H' => wrote (.tup []) H'
        | .call f args => match call f args ⟨q.H.nx, t⟩ with
          | .ret v H' => wrote v H'
          | .pan v H' => match chained (gD as q.s.rl.length) q.s.wl, allBehind as q.s.rl.length rest (Nat.succ q.s.rl.length) with
            | true, true => K q.s q.tm H' (some v)
            | _, _ => .err 73
          | .err k => .err k
        | .err k => .err k
        | _ => .err 75))
    simp only [opF_eq, wantF_eq]
    cases hwant : wantO ops o q.tm with
    | none => exact bad _
    | some bl =>
    cases bl with
    | false => exact go _ _ _ (by simp) (fun tm' hp => ⟨_, .skip hwant hp⟩)
    | true =>
    simp only
    rw [layT_eq]
    have wr : ∀ v H', WrS G cf call o (evR q.tm o) ⟨q.H.nx, layF as (gD as q.s.rl.length) q.s.wl q.s.xs q.H.tab⟩ v H' →
        Φ (match chained (gD as q.s.rl.length) q.s.wl with
          | true => putT n o.dst q.tm v (fun r => match r with | some tm => traceK G cf call n ops as K (fun k => .err k) rest (Nat.succ q.s.rl.length) (names.drop q.s.rl.length).tail tm H' { q.s with rl := .wr v :: q.s.rl, hs := H' :: q.s.hs, wl := q.s.rl.length :: q.s.wl } | none => .err 61)
          | false => .err 70) := by
      intro v H' hs
      split
      · rename_i hc
        exact go _ _ _ (by simp) (fun tm' hp => ⟨_, .wr hwant hc hs hp⟩)
      · exact bad _
    split
    · rename_i v hop
      exact go _ _ _ (by simp) (fun tm' hp => ⟨_, .rd hwant hop hp⟩)
    · rename_i ob mk hop
      split
      · rename_i l ls hal hn
        refine go _ _ _ (by simp) (fun tm' hp => ⟨_, .al hwant hop hal ?_ hp⟩)
        have := List.getElem?_drop (xs := names) (i := q.s.rl.length) (j := 0)
        rw [hn] at this
        simpa using this.symm
      · exact bad _
    · rename_i v H' hop
      exact wr v H' (.wv hop)
    · rename_i H' hop
      exact wr _ H' (.wu hop)
    · rename_i f args hop
      split
      · rename_i v H' hc
        exact wr v H' (.call hop hc)
      · rename_i v H' hc
        split
        · rename_i h1 h2
          exact done _ _ _ _ (.some h ho hwant h1 hop hc (fun j hj1 hj2 => behind_ok as _ rest _ h2 j hj1 (by simp only [Nat.succ_eq_add_one]; omega)))
        · exact bad _
      · exact bad _
    · exact bad _
    · exact bad _
end Go.Ai

/- The row of the text: what follows of its records. -/
namespace Go.Ai
open Go Go.RowKit
set_option linter.unusedVariables false
variable {G : Program} {cf : Cf} {call : CallF} {n : Nat} {ops : List Oper} {as : List Nat} {names : List P} {tm0 : PT AV} {H00 : Hp}
def rec? (q : Tq) (i : Nat) : Option TE := q.s.rl.reverse[i]?
theorem Ts.rl {q q' : Tq} {o : Oper} {te : TE} (h : Ts G cf call n ops as names q o te q') : q'.s.rl = te :: q.s.rl := by cases h <;> rfl
theorem Ts.put {q q' : Tq} {o : Oper} {te : TE} (h : Ts G cf call n ops as names q o te q') : putF n o.dst q.tm te.val = some q'.tm := by cases h <;> assumption
theorem Ts.rec_old {q q' : Tq} {o : Oper} {te : TE} (h : Ts G cf call n ops as names q o te q') {j : Nat} (hj : j < q.s.rl.length) : rec? q' j = rec? q j := by
  unfold rec?; rw [h.rl, List.reverse_cons, List.getElem?_append_left (by simpa using hj)]
theorem Ts.rec_new {q q' : Tq} {o : Oper} {te : TE} (h : Ts G cf call n ops as names q o te q') : rec? q' q.s.rl.length = some te := by
  unfold rec?; rw [h.rl, List.reverse_cons]; simp
theorem rec_lt {q : Tq} {i : Nat} {te : TE} (h : rec? q i = some te) : i < q.s.rl.length := by
  have := (List.getElem?_eq_some_iff.1 h).1; simpa using this
def Chn (as : List Nat) : List Nat → Prop
  | [] => True
  | w :: l => chained (gD as w) l = true ∧ Chn as l
structure TrF (G : Program) (cf : Cf) (call : CallF) (n : Nat) (ops : List Oper) (as : List Nat) (names : List P) (tm0 : PT AV) (H00 : Hp) (q : Tq) : Prop where
  hd : ∃ l, q.s.hs = q.H :: l
  ln : q.s.hs.length = q.s.wl.length + 1
  ch : Chn as q.s.wl
  wlt : ∀ w ∈ q.s.wl, w < q.s.rl.length
  wrec : ∀ w ∈ q.s.wl, ∃ v, rec? q w = some (.wr v)
  xlt : ∀ x ∈ q.s.xs, x.1 < q.s.rl.length
  xrec : ∀ x ∈ q.s.xs, ∃ v, rec? q x.1 = some (.al x.2.1 x.2.2 v)
  xnm : ∀ x ∈ q.s.xs, names[x.1]? = some x.2.1
  src : ∀ t v, PT.get (P.of t) q.tm = some v → (∃ j o te, j < q.s.rl.length ∧ ops[j]? = some o ∧ o.dst = some t ∧ rec? q j = some te ∧ v = te.val) ∨ ((∀ j o, j < q.s.rl.length → ops[j]? = some o → o.dst ≠ some t) ∧ PT.get (P.of t) tm0 = some v)
theorem putF_get {n : Nat} {d : Option Nat} {tm tm' : PT AV} {v u : AV} {t : Nat} (h : putF n d tm v = some tm') (e : PT.get (P.of t) tm' = some u) : (d = some t ∧ u = v ∧ t < n) ∨ (d ≠ some t ∧ PT.get (P.of t) tm = some u) := by
  unfold putF at h
  cases d with
  | none => cases h; exact .inr ⟨by simp, e⟩
  | some k =>
    simp only at h
    split at h
    · rename_i hl
      have hl := Nat.le_of_ble_eq_true hl
      cases h
      by_cases hk : k = t
      · subst hk
        rw [PT.get_put_same] at e
        cases e
        exact .inl ⟨rfl, rfl, hl⟩
      · rw [PT.get_put_other (fun e => hk (P.of_inj e))] at e
        exact .inr ⟨by simpa using hk, e⟩
    · cases h
theorem Tr.facts {q : Tq} (h : Tr G cf call n ops as names tm0 H00 q) : TrF G cf call n ops as names tm0 H00 q := by
  induction h with
  | nil => exact ⟨⟨[], rfl⟩, rfl, trivial, by simp, by simp, by simp, by simp, by simp, fun t v e => .inr ⟨fun j o hj => by simp at hj, e⟩⟩
  | cons h ho hs ih =>
    rename_i q q' o te
    have hrl := hs.rl
    have hlen : q'.s.rl.length = q.s.rl.length + 1 := by rw [hrl]; rfl
    have src : ∀ t v, PT.get (P.of t) q'.tm = some v → (∃ j o te, j < q'.s.rl.length ∧ ops[j]? = some o ∧ o.dst = some t ∧ rec? q' j = some te ∧ v = te.val) ∨ ((∀ j o, j < q'.s.rl.length → ops[j]? = some o → o.dst ≠ some t) ∧ PT.get (P.of t) tm0 = some v) := by
      intro t v e
      rcases putF_get hs.put e with ⟨h1, h2, _⟩ | ⟨h1, h2⟩
      · exact .inl ⟨q.s.rl.length, o, te, by omega, ho, h1, hs.rec_new, h2⟩
      · rcases ih.src t v h2 with ⟨j, oj, tj, h3, h4, h5, h6, h7⟩ | ⟨h3, h4⟩
        · exact .inl ⟨j, oj, tj, by omega, h4, h5, by rw [hs.rec_old h3]; exact h6, h7⟩
        · refine .inr ⟨fun j oj hj hoj => ?_, h4⟩
          by_cases hjl : j < q.s.rl.length
          · exact h3 j oj hjl hoj
          · have : j = q.s.rl.length := by omega
            subst this
            rw [ho] at hoj; cases hoj; exact h1
    have wl0 : ∀ w ∈ q.s.wl, w < q'.s.rl.length ∧ ∃ v, rec? q' w = some (.wr v) := fun w hw =>
      ⟨by have := ih.wlt w hw; omega, let ⟨v, hv⟩ := ih.wrec w hw; ⟨v, by rw [hs.rec_old (ih.wlt w hw)]; exact hv⟩⟩
    have xs0 : ∀ x ∈ q.s.xs, x.1 < q'.s.rl.length ∧ (∃ v, rec? q' x.1 = some (.al x.2.1 x.2.2 v)) ∧ names[x.1]? = some x.2.1 := fun x hx =>
      ⟨by have := ih.xlt x hx; omega, (let ⟨v, hv⟩ := ih.xrec x hx; ⟨v, by rw [hs.rec_old (ih.xlt x hx)]; exact hv⟩), ih.xnm x hx⟩
    have hnew := hs.rec_new
    cases hs with
    | skip hw hp => exact ⟨ih.hd, ih.ln, ih.ch, fun w hw => (wl0 w hw).1, fun w hw => (wl0 w hw).2, fun x hx => (xs0 x hx).1, fun x hx => (xs0 x hx).2.1, fun x hx => (xs0 x hx).2.2, src⟩
    | rd hw hop hp => exact ⟨ih.hd, ih.ln, ih.ch, fun w hw => (wl0 w hw).1, fun w hw => (wl0 w hw).2, fun x hx => (xs0 x hx).1, fun x hx => (xs0 x hx).2.1, fun x hx => (xs0 x hx).2.2, src⟩
    | al hw hop hal hl hp =>
      refine ⟨ih.hd, ih.ln, ih.ch, fun w hw => (wl0 w hw).1, fun w hw => (wl0 w hw).2, fun x hx => ?_, fun x hx => ?_, fun x hx => ?_, src⟩
      · rcases List.mem_cons.1 hx with rfl | hx
        · simp
        · exact (xs0 x hx).1
      · rcases List.mem_cons.1 hx with rfl | hx
        · exact ⟨_, hnew⟩
        · exact (xs0 x hx).2.1
      · rcases List.mem_cons.1 hx with rfl | hx
        · exact hl
        · exact (xs0 x hx).2.2
    | wr hw hc hst hp =>
      refine ⟨⟨_, rfl⟩, by simp [ih.ln], ⟨hc, ih.ch⟩, fun w hw => ?_, fun w hw => ?_, fun x hx => (xs0 x hx).1, fun x hx => (xs0 x hx).2.1, fun x hx => (xs0 x hx).2.2, src⟩
      · rcases List.mem_cons.1 hw with rfl | hw
        · simp
        · exact (wl0 w hw).1
      · rcases List.mem_cons.1 hw with rfl | hw
        · exact ⟨_, hnew⟩
        · exact (wl0 w hw).2
/-- one row goes on from another -/
structure Ext (q q' : Tq) : Prop where
  rc : ∀ j, j < q.s.rl.length → rec? q' j = rec? q j
  ws : ∃ b c, b.length = c.length ∧ q'.s.hs = b ++ q.s.hs ∧ q'.s.wl = c ++ q.s.wl
  xs : ∀ x ∈ q.s.xs, x ∈ q'.s.xs
  le : q.s.rl.length ≤ q'.s.rl.length
  lt : ∀ c, q'.s.wl = c ++ q.s.wl → ∀ x ∈ c, q.s.rl.length ≤ x
theorem Ext.refl (q : Tq) : Ext q q := ⟨fun _ _ => rfl, ⟨[], [], rfl, rfl, rfl⟩, fun _ h => h, Nat.le_refl _, fun c hc x hx => by
  have : c = [] := by
    have := congrArg List.length hc
    simp at this
    exact this
  subst this; cases hx⟩
theorem Ext.trans {q q' q'' : Tq} (h : Ext q q') (k : Ext q' q'') : Ext q q'' := by
  obtain ⟨b, c, h1, h2, h3⟩ := h.ws
  obtain ⟨b', c', k1, k2, k3⟩ := k.ws
  exact ⟨fun j hj => (k.rc j (Nat.lt_of_lt_of_le hj h.le)).trans (h.rc j hj), ⟨b' ++ b, c' ++ c, by simp [h1, k1], by rw [k2, h2, List.append_assoc], by rw [k3, h3, List.append_assoc]⟩, fun x hx => k.xs x (h.xs x hx), Nat.le_trans h.le k.le, fun d hd x hx => by
    have hd' : c' ++ c = d := by
      rw [k3, h3, ← List.append_assoc] at hd
      exact List.append_cancel_right hd
    subst hd'
    rcases List.mem_append.1 hx with hx | hx
    · exact Nat.le_trans h.le (k.lt c' k3 x hx)
    · exact h.lt c h3 x hx⟩
theorem Ts.ext {q q' : Tq} {o : Oper} {te : TE} (h : Ts G cf call n ops as names q o te q') : Ext q q' := by
  refine ⟨fun j hj => h.rec_old hj, ?_, ?_, by rw [h.rl]; simp, ?_⟩
  · cases h with
    | wr => exact ⟨[_], [_], rfl, rfl, rfl⟩
    | _ => exact ⟨[], [], rfl, rfl, rfl⟩
  · cases h with
    | al => exact fun x hx => List.mem_cons_of_mem _ hx
    | _ => exact fun x hx => hx
  · intro d hd x hx
    cases h with
    | wr =>
      have : [q.s.rl.length] = d := List.append_cancel_right (show [q.s.rl.length] ++ q.s.wl = d ++ q.s.wl from hd)
      subst this
      rw [List.mem_singleton.1 hx]
      exact Nat.le_refl _
    | _ =>
      have : [] = d := List.append_cancel_right (show [] ++ q.s.wl = d ++ q.s.wl from hd)
      subst this
      cases hx
theorem Tr.at {q : Tq} (h : Tr G cf call n ops as names tm0 H00 q) : ∀ {i : Nat}, i < q.s.rl.length → ∃ q1 o te q2, Tr G cf call n ops as names tm0 H00 q1 ∧ q1.s.rl.length = i ∧ ops[i]? = some o ∧ Ts G cf call n ops as names q1 o te q2 ∧ Ext q2 q := by
  induction h with
  | nil => intro i hi; simp at hi
  | cons h ho hs ih =>
    rename_i q q' o te
    intro i hi
    rw [hs.rl] at hi
    by_cases hil : i < q.s.rl.length
    · obtain ⟨q1, o1, te1, q2, a, b, c, d, e⟩ := ih hil
      exact ⟨q1, o1, te1, q2, a, b, c, d, e.trans hs.ext⟩
    · have : i = q.s.rl.length := by simp only [List.length_cons] at hi; omega
      subst this
      exact ⟨q, o, te, q', h, rfl, ho, hs, .refl _⟩
theorem tes_at {xs : List (Nat × P × AObj)} {sn : List Sn} : ∀ {rl : List TE}, tesOk G cf ops as xs sn rl = true → ∀ i te, rl.reverse[i]? = some te → ∃ o, ops[i]? = some o ∧ teOk G cf as xs sn i o te = true
  | [], _, i, te, h => by simp at h
  | t :: rl, h, i, te, e => by
    have h' : (match nthL ops (lenL rl) with
      | some o => match teOk G cf as xs sn (lenL rl) o t with
        | true => tesOk G cf ops as xs sn rl
        | false => false
      | none => false) = true := h
    split at h'
    · rename_i o ho
      split at h'
      · rename_i ht
        rw [nthL_eq, lenL_eq] at ho
        rw [lenL_eq] at ht
        by_cases hi : i < rl.length
        · rw [List.reverse_cons, List.getElem?_append_left (by simpa using hi)] at e
          exact tes_at h' i te e
        · have hlt := (List.getElem?_eq_some_iff.1 e).1
          simp only [List.length_reverse, List.length_cons] at hlt
          have : i = rl.length := by omega
          subst this
          rw [List.reverse_cons] at e
          simp at e
          subst e
          exact ⟨o, ho, ht⟩
      · cases h'
    · cases h'
/-! ### which heap one meets -/
def Base (S : Nat → Prop) : List Nat → List Hp → Hp → Prop
  | [], H :: _, X => X = H
  | w :: wl, H :: hs, X => (S w ∧ X = H) ∨ (¬ S w ∧ Base S wl hs X)
  | _, [], _ => False
theorem Base.congr {S S' : Nat → Prop} : ∀ {wl : List Nat} {hs : List Hp} {X : Hp}, (∀ w ∈ wl, S w ↔ S' w) → Base S wl hs X → Base S' wl hs X
  | [], [], X, _, h => h
  | [], H :: _, X, _, h => h
  | w :: wl, [], X, _, h => h
  | w :: wl, H :: hs, X, hw, h => by
    have h1 := hw w List.mem_cons_self
    rcases h with ⟨a, b⟩ | ⟨a, b⟩
    · exact .inl ⟨h1.1 a, b⟩
    · exact .inr ⟨fun h => a (h1.2 h), b.congr (fun w' hw' => hw w' (List.mem_cons_of_mem _ hw'))⟩
theorem chn_closed {as : List Nat} {S : Nat → Prop} (clo : ∀ i, S i → ∀ x, bit (gD as i) x = true → S x) : ∀ {wl : List Nat} {w : Nat}, Chn as (w :: wl) → S w → ∀ w' ∈ wl, S w'
  | [], w, _, _, w', h => by simp at h
  | v :: wl, w, hc, hw, w', h => by
    have hv : S v := clo w hw v hc.1
    rcases List.mem_cons.1 h with rfl | h
    · exact hv
    · exact chn_closed clo hc.2 hv w' h
theorem chn_suffix {as : List Nat} : ∀ {c wl : List Nat}, Chn as (c ++ wl) → Chn as wl
  | [], _, h => h
  | _ :: c, wl, h => chn_suffix (c := c) h.2
theorem chn_mem {as : List Nat} {S : Nat → Prop} (clo : ∀ i, S i → ∀ x, bit (gD as i) x = true → S x) : ∀ {c wl : List Nat} {i : Nat}, Chn as (c ++ i :: wl) → ∀ w ∈ c, S w → S i
  | [], wl, i, _, w, h, _ => by simp at h
  | v :: c, wl, i, hc, w, h, hw => by
    rcases List.mem_cons.1 h with rfl | h
    · exact chn_closed clo hc hw i (by simp)
    · exact chn_mem clo hc.2 w h hw
/-- the heap that the next writer meets, and the one behind it -/
theorem base_next {as : List Nat} {S : Nat → Prop} (clo : ∀ i, S i → ∀ x, bit (gD as i) x = true → S x) {i : Nat} (hi : ¬ S i) {wl1 : List Nat} {H H' : Hp} {hs1 : List Hp} (hc0 : chained (gD as i) wl1 = true) (hcl : ∀ x, bit (gD as i) x = true → S x) :
    ∀ {c : List Nat} {b : List Hp} {X : Hp}, b.length = c.length → Chn as (c ++ i :: wl1) → (∀ w ∈ c, w ≠ i) → Base S (c ++ i :: wl1) (b ++ H' :: H :: hs1) X → X = H ∧ Base (fun j => S j ∨ j = i) (c ++ i :: wl1) (b ++ H' :: H :: hs1) H'
  | [], [], X, _, hc, _, h => by
    rcases h with ⟨a, _⟩ | ⟨_, h⟩
    · exact absurd a hi
    · refine ⟨?_, .inl ⟨.inr rfl, rfl⟩⟩
      cases wl1 with
      | nil => exact h
      | cons w wl1 =>
        rcases h with ⟨_, e⟩ | ⟨a, _⟩
        · exact e
        · exact absurd (hcl w hc0) a
  | v :: c, B :: b, X, hl, hc, hne, h => by
    have hv : ¬ S v := fun hv => hi (chn_mem clo hc v List.mem_cons_self hv)
    rcases h with ⟨a, _⟩ | ⟨_, h⟩
    · exact absurd a hv
    · obtain ⟨h1, h2⟩ := base_next clo hi hc0 hcl (by simpa using hl) hc.2 (fun w hw => hne w (List.mem_cons_of_mem _ hw)) h
      exact ⟨h1, .inr ⟨fun h => h.elim hv (hne v List.mem_cons_self), h2⟩⟩
  | [], _ :: _, X, hl, _, _, _ => by simp at hl
  | _ :: _, [], X, hl, _, _, _ => by simp at hl
theorem snaps_mem {as : List Nat} {S : Nat → Prop} (clo : ∀ i, S i → ∀ x, bit (gD as i) x = true → S x) : ∀ {wl : List Nat} {hs : List Hp} {X : Hp} {nxt : Option Nat}, Chn as wl → Base S wl hs X → (∀ w, nxt = some w → ¬ S w) →
    ∃ s ∈ snaps wl hs nxt, s.H = X ∧ (∀ w ∈ s.done, S w) ∧ (∀ w, s.next = some w → ¬ S w) ∧ ∀ w ∈ wl, S w → w ∈ s.done
  | [], [], X, nxt, _, h, _ => by cases h
  | [], H :: hs, X, nxt, _, h, hn => ⟨⟨H, [], nxt⟩, List.mem_singleton.2 rfl, h.symm, by simp, hn, by simp⟩
  | w :: wl, [], X, nxt, _, h, _ => by cases h
  | w :: wl, H :: hs, X, nxt, hc, h, hn => by
    have e : snaps (w :: wl) (H :: hs) nxt = ⟨H, w :: wl, nxt⟩ :: snaps wl hs (some w) := rfl
    rw [e]
    rcases h with ⟨a, rfl⟩ | ⟨a, h⟩
    · refine ⟨⟨X, w :: wl, nxt⟩, List.mem_cons_self, rfl, fun w' hw' => ?_, hn, fun w' hw' _ => hw'⟩
      rcases List.mem_cons.1 hw' with rfl | hw'
      · exact a
      · exact chn_closed clo hc a w' hw'
    · obtain ⟨s, h1, h2, h3, h4, h5⟩ := snaps_mem clo (nxt := some w) hc.2 h (fun w' e => by cases e; exact a)
      refine ⟨s, List.mem_cons_of_mem _ h1, h2, h3, h4, fun w' hw' hs' => ?_⟩
      rcases List.mem_cons.1 hw' with rfl | hw'
      · exact absurd hs' a
      · exact h5 w' hw' hs'
theorem base_none {q : Tq} (h : Tr G cf call n ops as names tm0 H00 q) : Base (fun _ => False) q.s.wl q.s.hs H00 := by
  induction h with
  | nil => rfl
  | cons h ho hs ih =>
    cases hs with
    | wr => exact .inr ⟨fun h => h, ih⟩
    | _ => exact ih
theorem allL_mem {α : Type} {f : α → Bool} : ∀ {l : List α}, allL f l = true → ∀ a ∈ l, f a = true
  | [], _, a, h => by simp at h
  | b :: l, h, a, ha => by
    obtain ⟨h1, h2⟩ := allL_cons h
    rcases List.mem_cons.1 ha with rfl | ha
    · exact h1
    · exact allL_mem h2 a ha
/-! ### those that stand in an order -/
theorem wrs_kind {o : Oper} {ev : Operand → Option AV} {T H' : Hp} {v : AV} (h : WrS G cf call o ev T v H') : ¬ kindO o.op ≤ 1 := by
  intro hk
  rcases kind_rd (G := G) (cf := cf) (ev := ev) (H := T) hk with ⟨u, e⟩ | ⟨u, e⟩
  · cases h with
    | wv h => rw [e] at h; cases h
    | wu h => rw [e] at h; cases h
    | call h => rw [e] at h; cases h
  · cases h with
    | wv h => rw [e] at h; cases h
    | wu h => rw [e] at h; cases h
    | call h => rw [e] at h; cases h
/-- a writer's operation writes -/
theorem wl_kind {q : Tq} (h : Tr G cf call n ops as names tm0 H00 q) (ho : ordB as ops 0 = true) : ∀ w ∈ q.s.wl, w < q.s.rl.length ∧ ∃ o, ops[w]? = some o ∧ kindO o.op = 2 := by
  induction h with
  | nil => intro w hw; cases hw
  | cons h hop hs ih =>
    rename_i q q' o te
    intro w hw
    have hle : q'.s.rl.length = q.s.rl.length + 1 := by rw [hs.rl]; rfl
    cases hs with
    | wr hw1 hc hs' hp =>
      rcases List.mem_cons.1 hw with rfl | hw
      · have := wrs_kind hs'
        have := (ordB_ok ho).1 _ _ hop
        exact ⟨by omega, o, hop, by omega⟩
      · obtain ⟨a, b⟩ := ih w hw; exact ⟨by omega, b⟩
    | skip => obtain ⟨a, b⟩ := ih w hw; exact ⟨by omega, b⟩
    | rd => obtain ⟨a, b⟩ := ih w hw; exact ⟨by omega, b⟩
    | al => obtain ⟨a, b⟩ := ih w hw; exact ⟨by omega, b⟩
theorem xs_al {q : Tq} (h : Tr G cf call n ops as names tm0 H00 q) : ∀ x ∈ q.s.xs, ∃ o, ops[x.1]? = some o ∧ isAl o.op = true := by
  induction h with
  | nil => intro x hx; cases hx
  | cons h hop hs ih =>
    intro x hx
    cases hs with
    | al hw hop' hal hl hp =>
      rcases List.mem_cons.1 hx with rfl | hx
      · exact ⟨_, hop, hal⟩
      · exact ih x hx
    | _ => exact ih x hx
theorem ord_xs {q : Tq} (h : Tr G cf call n ops as names tm0 H00 q) (ho : ordB as ops 0 = true) : q.s.xs = [] := by
  cases hx : q.s.xs with
  | nil => rfl
  | cons x xs =>
    obtain ⟨o, h1, h2⟩ := xs_al h x (by rw [hx]; exact List.mem_cons_self)
    have := (ordB_ok ho).1 _ _ h1
    have := al_kind h2
    omega
theorem base_skip {S : Nat → Prop} : ∀ {c : List Nat} {b : List Hp} {wl : List Nat} {hs : List Hp} {X : Hp}, b.length = c.length → (∀ w ∈ c, ¬ S w) → Base S (c ++ wl) (b ++ hs) X → Base S wl hs X
  | [], [], wl, hs, X, _, _, h => h
  | w :: c, H :: b, wl, hs, X, hl, hn, h => by
    rcases h with ⟨a, _⟩ | ⟨_, h⟩
    · exact absurd a (hn w List.mem_cons_self)
    · exact base_skip (by simpa using hl) (fun x hx => hn x (List.mem_cons_of_mem _ hx)) h
  | [], _ :: _, wl, hs, X, hl, _, _ => by simp at hl
  | _ :: _, [], wl, hs, X, hl, _, _ => by simp at hl
theorem free_indep {o : Oper} {ev : Operand → Option AV} {H H' : Hp} (h : hfree o.op = true) : opK G cf o ev H = opK G cf o ev H' := by
  unfold opK
  cases ho : o.op <;> rw [ho] at h <;> first | (cases h; done) | rfl | skip
  case makeFunc f a b => cases f <;> rfl
  case slice t x lo hi mx => cases mx <;> rfl
theorem al_indep {o : Oper} {ev : Operand → Option AV} {H H' : Hp} (h : isAl o.op = true) : opK G cf o ev H = opK G cf o ev H' := by
  obtain ⟨dst, op, type, pos, after, guard⟩ := o
  cases op <;> first | (simp [isAl] at h; done) | rfl | skip
  rename_i t r
  cases r with
  | none => rfl
  | some x => simp [isAl] at h
/-! ### moves -/
variable {W0 : World}
theorem Mv.newAt {E : Env} {H : P → Option AObj} {nx nx1 : Nat} {w : World} (h : HR G W0 E H nx w) {l : P} (hl : E.ρ l = none) (hnx : l.toNat < nx) (hle : nx1 ≤ nx) (c : Nat) {o : AObj} {ob : Obj}
    (ho : OR G (E.add l (w.heap.size, c)) c o ob) (hnw : nx1 ≤ l.toNat) : Mv G W0 E H nx1 w (E.add l (w.heap.size, c)) (upd H l (some o)) nx { w with heap := w.heap.push ob } := by
  have hE : E.le (E.add l (w.heap.size, c)) := Env.le_add hl
  have hold : ∀ b, b < w.heap.size → (w.heap.push ob)[b]? = w.heap[b]? := fun b hb => by rw [Array.getElem?_push, if_neg (by omega)]
  refine ⟨hE, ⟨?_, ?_, ?_, ?_⟩, hle, by simp, fun b hb _ => hold b hb, ?_, ?_⟩
  · exact h.below.trans ⟨rfl, rfl, rfl, by simp, fun k hk => hold k (Nat.lt_of_lt_of_le hk h.below.size)⟩
  · intro q x e
    by_cases hq : q = l
    · subst hq; exact hnx
    · rw [Env.add_other _ _ hq] at e; exact h.dom q x e
  · intro q o' e
    by_cases hq : q = l
    · subst hq
      rw [upd_same] at e; cases e
      exact ⟨_, _, ob, Env.add_same _ _ _, h.below.size, by simp, ho⟩
    · rw [upd_other _ _ hq] at e
      obtain ⟨b, c', ob', e1, e2, e3, e4⟩ := h.obj q o' e
      exact ⟨b, c', ob', by rw [Env.add_other _ _ hq]; exact e1, e2, by rw [hold b (h.lt e e1)]; exact e3, e4.mono hE⟩
  · intro q q' o1 o2 b c1 c2 e1 e2 e3 e4
    by_cases hq : q = l
    · by_cases hq' : q' = l
      · rw [hq, hq']
      · subst hq
        rw [Env.add_same] at e3; cases e3
        rw [upd_other _ _ hq'] at e2
        rw [Env.add_other _ _ hq'] at e4
        have := h.lt e2 e4; omega
    · by_cases hq' : q' = l
      · subst hq'
        rw [Env.add_same] at e4; cases e4
        rw [upd_other _ _ hq] at e1
        rw [Env.add_other _ _ hq] at e3
        have := h.lt e1 e3; omega
      · rw [upd_other _ _ hq] at e1
        rw [Env.add_other _ _ hq] at e3
        rw [upd_other _ _ hq'] at e2
        rw [Env.add_other _ _ hq'] at e4
        exact h.inj _ _ _ _ _ _ _ e1 e2 e3 e4
  · intro q o' b c' e1 e2
    by_cases hq : q = l
    · subst hq; rw [Env.add_same] at e2; cases e2; exact .inl (Nat.le_refl _)
    · rw [upd_other _ _ hq] at e1; rw [Env.add_other _ _ hq] at e2
      exact .inr ⟨q, o', c', e1, e2⟩
  · intro q x e
    by_cases hq : q = l
    · subst hq; exact .inr hnw
    · rw [Env.add_other _ _ hq] at e; exact .inl e
theorem Mv.trans' {E E' E'' : Env} {H H' H'' : P → Option AObj} {nx nx' nx1 nx'' : Nat} {w w' w'' : World} (h : Mv G W0 E H nx w E' H' nx' w') (k : Mv G W0 E' H' nx1 w' E'' H'' nx'' w'') (hle : nx ≤ nx1) : Mv G W0 E H nx w E'' H'' nx'' w'' := by
  refine ⟨h.le.trans k.le, k.hr, Nat.le_trans hle k.up, Nat.le_trans h.sz k.sz, ?_, ?_, ?_⟩
  · intro b hb hno
    rw [k.fr b (Nat.lt_of_lt_of_le hb h.sz), h.fr b hb hno]
    intro l o c ho e
    rcases h.own l o b c ho e with hge | ⟨l0, o0, c0, h0, e0⟩
    · omega
    · exact hno l0 o0 c0 h0 e0
  · intro l o b c ho e
    rcases k.own l o b c ho e with hge | ⟨l0, o0, c0, h0, e0⟩
    · exact .inl (Nat.le_trans h.sz hge)
    · exact h.own l0 o0 b c0 h0 e0
  · intro l x e
    rcases k.nw l x e with e' | hge
    · exact h.nw l x e'
    · exact .inr (Nat.le_trans hle hge)
/-- what a move leaves alone stays -/
theorem Mv.frame {E E' : Env} {U T H' : P → Option AObj} {nx nx' : Nat} {w w' : World} (hU : HR G W0 E U nx w) (hT : ∀ l o, T l = some o → U l = some o) (mv : Mv G W0 E T nx w E' H' nx' w') (X : P → Prop) [DecidablePred X] (hX : ∀ l, X l → T l = none) :
    Mv G W0 E U nx w E' (fun l => if X l then U l else H' l) nx' w' := by
  have own' : ∀ l o b c, H' l = some o → E'.ρ l = some (b, c) → w.heap.size ≤ b ∨ ∃ l0 o0 c0, T l0 = some o0 ∧ U l0 = some o0 ∧ E.ρ l0 = some (b, c0) := fun l o b c h1 h2 =>
    (mv.own l o b c h1 h2).imp id (fun ⟨l0, o0, c0, a, b⟩ => ⟨l0, o0, c0, a, hT _ _ a, b⟩)
  have oldρ : ∀ l o b c, U l = some o → E'.ρ l = some (b, c) → E.ρ l = some (b, c) := by
    intro l o b c h1 h2
    obtain ⟨b0, c0, ob, e1, _⟩ := hU.obj l o h1
    have := mv.le.2 _ _ e1
    rw [this] at h2; cases h2; exact e1
  refine ⟨mv.le, ⟨mv.hr.below, mv.hr.dom, ?_, ?_⟩, mv.up, mv.sz, ?_, ?_, mv.nw⟩
  · intro l o e
    by_cases hl : X l
    · rw [if_pos hl] at e
      obtain ⟨b, c, ob, e1, e2, e3, e4⟩ := hU.obj l o e
      refine ⟨b, c, ob, mv.le.2 _ _ e1, e2, ?_, e4.mono mv.le⟩
      rw [mv.fr b (hU.lt e e1)]
      · exact e3
      · intro l0 o0 c0 h0 e0
        have : l0 = l := hU.inj _ _ _ _ _ _ _ (hT _ _ h0) e e0 e1
        subst this
        rw [hX _ hl] at h0; cases h0
    · rw [if_neg hl] at e; exact mv.hr.obj l o e
  · intro l l' o o' b c c' e1 e2 e3 e4
    have mix : ∀ l l' o o' b c c', X l → ¬ X l' → U l = some o → H' l' = some o' → E'.ρ l = some (b, c) → E'.ρ l' = some (b, c') → False := by
      intro l l' o o' b c c' hl hl' e1 e2 e3 e4
      have e3' := oldρ _ _ _ _ e1 e3
      rcases own' l' o' b c' e2 e4 with hge | ⟨l0, o0, c0, h0, hu, e0⟩
      · have := hU.lt e1 e3'; omega
      · have : l0 = l := hU.inj _ _ _ _ _ _ _ hu e1 e0 e3'
        subst this
        rw [hX _ hl] at h0; cases h0
    by_cases hl : X l
    · by_cases hl' : X l'
      · rw [if_pos hl] at e1; rw [if_pos hl'] at e2
        exact hU.inj _ _ _ _ _ _ _ e1 e2 (oldρ _ _ _ _ e1 e3) (oldρ _ _ _ _ e2 e4)
      · rw [if_pos hl] at e1; rw [if_neg hl'] at e2
        exact (mix _ _ _ _ _ _ _ hl hl' e1 e2 e3 e4).elim
    · by_cases hl' : X l'
      · rw [if_neg hl] at e1; rw [if_pos hl'] at e2
        exact (mix _ _ _ _ _ _ _ hl' hl e2 e1 e4 e3).elim
      · rw [if_neg hl] at e1; rw [if_neg hl'] at e2
        exact mv.hr.inj _ _ _ _ _ _ _ e1 e2 e3 e4
  · intro b hb hno
    exact mv.fr b hb (fun l o c h e => hno l o c (hT _ _ h) e)
  · intro l o b c e1 e2
    by_cases hl : X l
    · rw [if_pos hl] at e1
      exact .inr ⟨l, o, c, e1, oldρ _ _ _ _ e1 e2⟩
    · rw [if_neg hl] at e1
      exact (own' l o b c e1 e2).imp id (fun ⟨l0, o0, c0, _, a, b⟩ => ⟨l0, o0, c0, a, b⟩)
end Go.Ai

/- Regions of open order: one operation in whatever order. -/
namespace Go.Ai
open Go Go.RowKit
set_option linter.unusedVariables false
variable {G : Program} {W0 : World} {cf : Cf} {call : CallF} {n : Nat} {opsA : Array Oper} {as : List Nat} {names : List P} {tm0 : PT AV} {H00 : Hp} {q : Tq}
/-- the temporaries, once the operations of S are done -/
def Cur (ops : List Oper) (q : Tq) (tm0 : PT AV) (S : Nat → Prop) (t : Nat) (v : AV) : Prop :=
  (∃ j o te, S j ∧ ops[j]? = some o ∧ o.dst = some t ∧ rec? q j = some te ∧ v = te.val) ∨ ((∀ j o, S j → ops[j]? = some o → o.dst ≠ some t) ∧ PT.get (P.of t) tm0 = some v)
def TmI (ops : List Oper) (q : Tq) (tm0 : PT AV) (n : Nat) (S : Nat → Prop) (E : Env) (arr : Array Value) : Prop :=
  arr.size = n ∧ ∀ t v, Cur ops q tm0 S t v → ∃ x, arr[t]? = some x ∧ VR E v x
structure HI (G : Program) (W0 : World) (as : List Nat) (q : Tq) (E0 : Env) (F0 : P → Option AObj) (nx0 nxr : Nat) (w0 : World) (S : Nat → Prop) (E : Env) (w : World) (X : Hp) (U : P → Option AObj) : Prop where
  mv : Mv G W0 E0 F0 nx0 w0 E U X.nx.toNat w
  base : Base S q.s.wl q.s.hs X
  nxr : nxr ≤ X.nx.toNat
  nm : ∀ x ∈ q.s.xs, ¬ S x.1 → E.ρ x.2.1 = none
  xs : ∀ x ∈ q.s.xs, S x.1 → (∀ w ∈ q.s.wl, S w → bit (gD as w) x.1 = false) → U x.2.1 = some x.2.2
  tab : ∀ l o, PT.get l X.tab = some o → U l = some o
def Sx (S : Nat → Prop) (i : Nat) : Nat → Prop := fun j => S j ∨ j = i
theorem lay_sub {E0 E : Env} {F0 U : P → Option AObj} {nx0 nxr : Nat} {w0 w : World} {S : Nat → Prop} {X : Hp} (hi : HI G W0 as q E0 F0 nx0 nxr w0 S E w X U) {m : Nat} (hm : ∀ x, bit m x = true → S x) {xs : List (Nat × P × AObj)} (hxs : ∀ x ∈ xs, x ∈ q.s.xs) {done : List Nat} (hd : ∀ w ∈ q.s.wl, S w → w ∈ done) :
    ∀ l o, PT.get l (layF as m done xs X.tab) = some o → U l = some o := by
  intro l o h
  rcases layF_get h with ⟨x, hx, h1, h2, rfl, rfl⟩ | h
  · refine hi.xs x (hxs x hx) (hm _ h1) (fun w hw hs => ?_)
    cases hb : bit (gD as w) x.1 with
    | false => rfl
    | true =>
      have := anyBit_iff.2 ⟨w, hd w hw hs, hb⟩
      rw [h2] at this; cases this
  · exact hi.tab l o h
theorem wanted_ok' {E : Env} {ops : Array Oper} {o : Oper} {tm : PT AV} {arr : Array Value} {r : Bool} (ht : ∀ t ∈ looks ops.toList o, ∀ v, PT.get (P.of t) tm = some v → ∃ x, arr[t]? = some x ∧ VR E v x) (h : wantO ops.toList o tm = some r) : Region.wanted o (yielded ops arr) = r := by
  unfold wantO at h
  unfold Region.wanted
  split at h
  · rename_i hg; cases h; rw [hg]
  · rename_i j want hg
    rw [hg]
    simp only
    split at h
    · rename_i oj hj
      rw [nthL_eq] at hj
      have hj' : ops[j]? = some oj := by simpa using hj
      split at h
      · rename_i t hdst
        have hlk : t ∈ looks ops.toList o := by
          simp [looks, hg, hj', hdst]
        split at h
        · rename_i bl hb
          cases h
          obtain ⟨x, hx, hv⟩ := ht t hlk _ hb
          cases hv
          have : yielded ops arr j = some bl := by simp [yielded, hj', hdst, hx]
          rw [this]
          cases bl <;> cases want <;> rfl
        · rename_i l hb
          cases h
          obtain ⟨x, hx, hv⟩ := ht t hlk _ hb
          cases hv
          have : yielded ops arr j = none := by simp [yielded, hj', hdst, hx]
          rw [this]; rfl
        · cases h
      · rename_i hdst
        cases h
        have : yielded ops arr j = none := by simp [yielded, hj', hdst]
        rw [this]; rfl
    · rename_i hj
      cases h
      rw [nthL_eq] at hj
      have hj' : ops[j]? = none := by simpa using hj
      have : yielded ops arr j = none := by simp [yielded, hj']
      rw [this]; rfl
theorem memN_mem {t : Nat} : ∀ {l : List Nat}, memN t l = true → t ∈ l
  | [], h => by cases h
  | a :: l, h => by
    have h' : (match Nat.beq a t with | true => true | false => memN t l) = true := h
    split at h'
    · rename_i e; rw [Nat.eq_of_beq_eq_true e]; exact List.mem_cons_self
    · exact List.mem_cons_of_mem _ (memN_mem h')
theorem evR_ok {E : Env} {ops : List Oper} {o : Oper} {tm : PT AV} {arr : Array Value} {dv : List Deferred} (ht : ∀ t ∈ looks ops o, ∀ v, PT.get (P.of t) tm = some v → ∃ x, arr[t]? = some x ∧ VR E v x) : EvR E (evR tm o) (Act.eval ⟨arr, dv⟩) := by
  have hnil : TR E .e arr := fun i v e => by rw [PT.get_e] at e; cases e
  intro x v e
  cases x with
  | tmp t =>
    have e' : (match memN t (opTmps o.op.operands.toList) with | true => PT.get (P.of t) tm | false => none) = some v := e
    split at e'
    · rename_i hm
      have : t ∈ looks ops o := List.mem_append_right _ (memN_mem hm)
      obtain ⟨y, hy, hv⟩ := ht t this v e'
      have : Act.eval ⟨arr, dv⟩ (.tmp t) = y := by simp [Act.eval, Array.getD_eq_getD_getElem?, hy]
      rw [this]; exact hv
    · cases e'
  | const c => exact evO_ok (a := ⟨arr, dv⟩) hnil (.const c) v e
  | global g => exact evO_ok (a := ⟨arr, dv⟩) hnil (.global g) v e
  | func f => exact evO_ok (a := ⟨arr, dv⟩) hnil (.func f) v e
section
/-- what an operation looks at stands where the row of the text has it -/
theorem looks_ok (hstat : regStatic opsA.toList as = true) {S : Nat → Prop} {E : Env} {arr : Array Value} (clo : ∀ i, S i → ∀ x, bit (gD as i) x = true → S x) (tmi : TmI opsA.toList q tm0 n S E arr) {q1 : Tq} (h1 : Tr G cf call n opsA.toList as names tm0 H00 q1) (hext : Ext q1 q) {o : Oper} (ho : opsA.toList[q1.s.rl.length]? = some o)
    (hi : ¬ S q1.s.rl.length) (hcl : ∀ x, bit (gD as q1.s.rl.length) x = true → S x) : ∀ t ∈ looks opsA.toList o, ∀ v, PT.get (P.of t) q1.tm = some v → ∃ x, arr[t]? = some x ∧ VR E v x := by
  intro t ht v e
  refine tmi.2 t v ?_
  rcases h1.facts.src t v e with ⟨j, oj, te, hj, hoj, hd, hr, hv⟩ | ⟨hno, hv⟩
  · have := (static_pair hstat hoj ho (by omega) hd).2 ht
    rw [Nat.max_eq_right (by omega), Nat.min_eq_left (by omega)] at this
    exact .inl ⟨j, oj, te, hcl j this, hoj, hd, by rw [hext.rc j hj]; exact hr, hv⟩
  · refine .inr ⟨fun j oj hS hoj hd => ?_, hv⟩
    by_cases hj : j < q1.s.rl.length
    · exact hno j oj hj hoj hd
    · by_cases hje : j = q1.s.rl.length
      · subst hje; exact hi hS
      · have := (static_pair hstat hoj ho (by omega) hd).2 ht
        rw [Nat.max_eq_left (by omega), Nat.min_eq_right (by omega)] at this
        exact hi (clo j hS _ this)
theorem tmi_put (hstat : regStatic opsA.toList as = true) {S : Nat → Prop} {E E' : Env} {arr : Array Value} (hE : E.le E') (tmi : TmI opsA.toList q tm0 n S E arr) {i : Nat} {o : Oper} (ho : opsA.toList[i]? = some o) (hi : ¬ S i) {te : TE} (hr : rec? q i = some te) {tm tm' : PT AV} (hp : putF n o.dst tm te.val = some tm') {x : Value} (hv : VR E' te.val x) :
    TmI opsA.toList q tm0 n (Sx S i) E' (putA arr o.dst x) := by
  refine ⟨by rw [putA_size]; exact tmi.1, fun t v hc => ?_⟩
  have other : o.dst ≠ some t → (putA arr o.dst x)[t]? = arr[t]? := by
    intro hne
    cases hd : o.dst with
    | none => rfl
    | some d => simp only [putA]; rw [Array.getElem?_setIfInBounds_ne (fun e => hne (by rw [hd, e]))]
  have here : o.dst = some t → (putA arr o.dst x)[t]? = some x := by
    intro hd
    have hb : t < n := by
      unfold putF at hp
      rw [hd] at hp
      simp only at hp
      split at hp
      · rename_i hl; exact Nat.le_of_ble_eq_true hl
      · cases hp
    rw [hd]; simp [putA, tmi.1, hb]
  have keep : ∀ v, Cur opsA.toList q tm0 S t v → o.dst ≠ some t → ∃ y, (putA arr o.dst x)[t]? = some y ∧ VR E' v y := by
    intro v hc hne
    obtain ⟨y, h1, h2⟩ := tmi.2 t v hc
    exact ⟨y, by rw [other hne]; exact h1, h2.mono hE⟩
  rcases hc with ⟨j, oj, tj, hS, hoj, hd, hrj, hvj⟩ | ⟨hno, hv0⟩
  · rcases hS with hS | rfl
    · exact keep v (.inl ⟨j, oj, tj, hS, hoj, hd, hrj, hvj⟩) ((static_pair hstat hoj ho (fun e => hi (e ▸ hS)) hd).1)
    · rw [ho] at hoj; cases hoj
      rw [hr] at hrj; cases hrj
      exact ⟨x, here hd, by rw [hvj]; exact hv⟩
  · exact keep v (.inr ⟨fun j oj hS hoj => hno j oj (.inl hS) hoj, hv0⟩) (hno i o (.inr rfl) ho)
end
theorem HI.skip {E0 E : Env} {F0 U : P → Option AObj} {nx0 nxr : Nat} {w0 w : World} {S : Nat → Prop} {X : Hp} (hi : HI G W0 as q E0 F0 nx0 nxr w0 S E w X U) {i : Nat} (hw : i ∉ q.s.wl) (hx : ∀ x ∈ q.s.xs, x.1 ≠ i) : HI G W0 as q E0 F0 nx0 nxr w0 (Sx S i) E w X U :=
  ⟨hi.mv, hi.base.congr (fun w hw' => ⟨.inl, fun h => h.elim id (fun e => absurd (e ▸ hw') hw)⟩), hi.nxr, fun x hx' hs => hi.nm x hx' (fun h => hs (.inl h)),
    fun x hx' hs hb => hi.xs x hx' (hs.elim id (fun e => absurd e (hx x hx'))) (fun w hw hs => hb w hw (.inl hs)), hi.tab⟩
end Go.Ai
