/- Iterators: ranges over maps and over strings, on abstract values. -/
import Derived.Test.YtfedjkcigdgcoaaGreatDoorAiL
namespace Go.Ai
open Go Go.RowKit
set_option linter.unusedVariables false
noncomputable def memS (b : Nat) (l : List Nat) : Bool := List.rec false (fun x _ ih => Bool.rec ih true (Nat.beq x b)) l
theorem memS_eq (b : Nat) (l : List Nat) : memS b l = l.contains b := by
  induction l with
  | nil => rfl
  | cons x l ih =>
    show (Bool.rec (memS b l) true (Nat.beq x b) : Bool) = _
    rw [beqN, List.contains_cons, ih]
    by_cases h : x = b
    · subst h; simp
    · have h' : (b == x) = false := by simp; exact fun e => h e.symm
      simp [h, h']
noncomputable def leftL (seen : List Nat) (es : List (AV × AV × Nat)) : List (AV × AV × Nat) := List.rec [] (fun x _ ih => Bool.rec (x :: ih) ih (memS x.2.2 seen)) es
noncomputable def allGe (last : Nat) (es : List (AV × AV × Nat)) : Bool := List.rec true (fun x _ ih => Bool.rec false ih (Nat.ble last x.2.2)) es
noncomputable def grd (seen : List Nat) (es : List (AV × AV × Nat)) (last : Nat) : Bool := match seen, es with
  | _ :: _, _ :: _ => allGe last es
  | _, _ => false
noncomputable def findB (b : Nat) (es : List (AV × AV × Nat)) : Option AV := List.rec none (fun x _ ih => Bool.rec ih (some (.tup [x.1, x.2.1])) (Nat.beq x.2.2 b)) es
noncomputable def lastN (l : List Nat) : Option Nat := List.rec (fun r => r) (fun x _ ih _ => ih (some x)) l none
section
variable {G : Program} {W0 : World} {E : Env} {nx : Nat} {w : World} {cf : Cf}
theorem MRs.left (seen : List Nat) : ∀ {es : List (AV × AV × Nat)} {fs : List MapEntry}, MRs E es fs → MRs E (leftL seen es) (fs.filter fun e => !seen.toArray.contains e.born)
  | _, _, .nil => .nil
  | _, _, .cons (k := k) (v := v) (b := b) (e := e) (es := es) (fs := fs) hk hv hb hs => by
    have ih := MRs.left seen hs
    show MRs E (Bool.rec ((k, v, b) :: leftL seen es) (leftL seen es) (memS b seen)) _
    rw [List.filter_cons, memS_eq, ← hb]
    cases h : seen.contains e.born with
    | true =>
      have h' : e.born ∈ seen := by simpa using h
      simp only [List.contains_toArray, h, Bool.not_true, Bool.false_eq_true, if_false] at ih ⊢
      exact ih
    | false =>
      simp only [List.contains_toArray, h, Bool.not_false, if_true] at ih ⊢
      exact MRs.cons hk hv rfl ih
theorem MRs.allGe (last : Nat) : ∀ {es : List (AV × AV × Nat)} {fs : List MapEntry}, MRs E es fs → fs.all (fun e => decide (e.born ≥ last)) = allGe last es
  | _, _, .nil => rfl
  | _, _, .cons (k := k) (v := v) (b := b) (e := e) (es := es) (fs := fs) hk hv hb hs => by
    have ih := MRs.allGe last hs
    show _ = (Bool.rec false (Go.Ai.allGe last es) (Nat.ble last b) : Bool)
    rw [List.all_cons, ih, bleN, hb]
    by_cases h : last ≤ b <;> simp [h]
theorem MRs.grd (seen : List Nat) (last : Nat) {es : List (AV × AV × Nat)} {fs : List MapEntry} (h : MRs E es fs) : (!seen.toArray.isEmpty && !fs.toArray.isEmpty && fs.toArray.all (fun e => decide (e.born ≥ last))) = grd seen es last := by
  unfold Go.Ai.grd
  cases seen with
  | nil => simp
  | cons s seen =>
    cases h with
    | nil => simp
    | cons hk hv hb hs =>
      have := (MRs.cons hk hv hb hs).allGe last
      simp only [List.all_toArray, List.isEmpty_toArray, List.isEmpty_cons, Bool.not_false, Bool.true_and]
      exact this
theorem MRs.find (stamp : Nat) : ∀ {es : List (AV × AV × Nat)} {fs : List MapEntry} {v : AV}, MRs E es fs → findB stamp es = some v → ∃ e, fs.find? (fun e => e.born == stamp) = some e ∧ VR E v (.tuple #[e.key, e.val])
  | _, _, v, .nil, h => by cases h
  | _, _, v, .cons (k := k) (v := v0) (b := b) (e := e) (es := es) (fs := fs) hk hv hb hs, h => by
    have h : (Bool.rec (findB stamp es) (some (.tup [k, v0])) (Nat.beq b stamp) : Option AV) = some v := h
    rw [beqN] at h
    by_cases hbs : b = stamp
    · subst hbs
      rw [decide_eq_true rfl] at h
      cases h
      exact ⟨e, by simp [hb], VR.tup (vs := [e.key, e.val]) (.cons hk (.cons hv .nil))⟩
    · rw [decide_eq_false hbs] at h
      obtain ⟨e', h1, h2⟩ := MRs.find stamp hs h
      refine ⟨e', ?_, h2⟩
      rw [List.find?_cons]
      have : (e.born == stamp) = false := by rw [hb]; simpa using hbs
      rw [this]; exact h1
theorem lastN_aux (l : List Nat) : ∀ r : Option Nat, (List.rec (motive := fun _ => Option Nat → Option Nat) (fun r => r) (fun x _ ih _ => ih (some x)) l : Option Nat → Option Nat) r = (match l.getLast? with | some x => some x | none => r) := by
  induction l with
  | nil => intro r; rfl
  | cons x l ih =>
    intro r
    show (List.rec (motive := fun _ => Option Nat → Option Nat) (fun r => r) (fun x _ ih _ => ih (some x)) l : Option Nat → Option Nat) (some x) = _
    rw [ih, List.getLast?_cons]
    cases h : l.getLast? <;> simp
theorem lastN_eq (l : List Nat) : lastN l = l.getLast? := by
  unfold lastN
  rw [lastN_aux]
  cases l.getLast? <;> rfl
noncomputable def rangeO (G : Program) (tab : PT AObj) (t : TypeId) (x : AV) : Option (AObj × (P → AV)) := match G.underlying t with
  | some .string => match x with
    | .str s => some (.strIter s 0, .iter)
    | _ => none
  | some (.map _ _) => match x with
    | .map0 => some (.mapIter none 0 [] 0, .iter)
    | .map m => match mapAt tab m with
      | some (_, c) => some (.mapIter (some m) c [] c, .iter)
      | none => none
    | _ => none
  | _ => none
theorem rangeO_ok {H : Hp} (hr : HR G W0 E H.f H.nx.toNat w) {t : TypeId} {x : AV} {x' : Value} {o : AObj} {mk : P → AV} (hx : VR E x x') (h : rangeO G H.tab t x = some (o, mk)) : AlR G E w o mk (Instr.range t x') := by
  unfold rangeO at h
  split at h
  · rename_i hu
    split at h
    · rename_i s
      cases h
      cases hx with
      | str hs => exact ⟨_, _, 0, 0, by simp [Instr.range, run_underlying hu], fun E' l hle he => ⟨.strIter (VR.mono hle (.str hs)), .iter he⟩⟩
    · cases h
  · rename_i kt et hu
    split at h
    · cases h
      cases hx with
      | map0 => exact ⟨.mapIter none 0 #[] 0, _, 0, 0, by simp [Instr.range, run_underlying hu], fun E' l hle he => ⟨.mapIter0 (seen := []), .iter he⟩⟩
    · rename_i m
      split at h
      · rename_i es c hm
        cases h
        have hg := mapAt_ok hm
        obtain ⟨b, c', arr, e, hb, hmr⟩ := hr.map (l := m) hg
        cases hx with
        | map e' =>
          rw [e] at e'; cases e'
          exact ⟨.mapIter (some b) c #[] c, _, 0, 0, by simp [Instr.range, run_underlying hu, run_getObj_map hb], fun E' l hle he => ⟨.mapIter (seen := []) (hle.2 _ _ e), .iter he⟩⟩
      · cases h
    · cases h
  · cases h
noncomputable def nextK {R : Type} (it : AV) (isStr : Bool) (H : Hp) (K : Option (AV × Hp) → R) : R := match it with
  | .iter l => match PT.get l H.tab with
    | some (.strIter s pos) => match isStr with
      | true => match nthL s pos with
        | some (.lit (.ofNat c)) => match Nat.ble c 127 with
          | true => forceN (Nat.succ pos) (fun p => PT.putK l H.tab (some (.strIter s p)) (fun t' => K (some (.tup [.bool true, .int .i64 (.lit (.ofNat pos)), .int .i32 (.lit (.ofNat c))], ⟨H.nx, t'⟩))))
          | false => K none
        | some _ => K none
        | none => K (some (.tup [.bool false], H))
      | false => K none
    | some (.mapIter none _ _ _) => match isStr with
      | true => K none
      | false => K (some (.tup [.bool false], H))
    | some (.mapIter (some m) since seen last) => match isStr with
      | true => K none
      | false => match mapAt H.tab m with
        | some (es, clock) => match grd seen es last with
          | true => K none
          | false => match leftL seen es with
            | [] => K (some (.tup [.bool false], H))
            | [(k, v, b)] => match Nat.ble (Nat.succ b) since with
              | true => PT.putK l H.tab (some (.mapIter (some m) since (seen ++ [b]) clock)) (fun t' => K (some (.tup [.bool true, k, v], ⟨H.nx, t'⟩)))
              | false => K none
            | _ => K none
        | none => K none
    | _ => K none
  | _ => K none
theorem run_getObj_it {r : Nat} {o : Obj} (h : w.heap[r]? = some o) (hc : ∀ c t f, o ≠ .cells c t f) : (getObj r).run G w = .ok o w := by
  simp only [getObj, Sem.run, h]
theorem decode_ascii {s : ByteArray} {pos c : Nat} (h : (s.get! pos).toNat = c) (hc : c ≤ 127) : Utf8.decode s pos = (c, 1) := by
  unfold Utf8.decode
  simp only [Nat.add_zero, h]
  rw [if_pos (by omega)]
theorem nextK_ok {R : Type} {H : Hp} (hr : HR G W0 E H.f H.nx.toNat w) {it : AV} {it' : Value} {isStr : Bool} (ty : TypeId) (hx : VR E it it') (K : Option (AV × Hp) → R) :
    ∃ r, nextK it isStr H K = K r ∧ AppR G W0 E H w r (Instr.next it' isStr ty) := by
  unfold nextK
  split
  · rename_i l
    cases hx with
    | iter e =>
    rename_i b c
    split
    · rename_i s pos hl
      split
      · obtain ⟨b', c', ob, e', _, hb, ho⟩ := hr.obj l _ hl
        rw [e] at e'; cases e'
        cases ho with
        | strIter hs =>
        rename_i bs
        have hs0 := hs
        cases hs with
        | str hs =>
        have hlen : bs.size = s.length := by
          have := congrArg List.length hs
          simpa using this
        have hget := run_getObj_it (G := G) hb (by simp)
        split
        · rename_i c0 hn
          rw [nthL_eq] at hn
          have hpos : pos < s.length := (List.getElem?_eq_some_iff.1 hn).1
          have hps : pos < bs.size := by omega
          split
          · rename_i hc
            have hc := Nat.le_of_ble_eq_true hc
            refine ⟨_, (forceN_eq _ _).trans (PT.putK_eq _ _ _ _), fun v H' ee => ?_⟩
            cases ee
            have hby : (bs.get! pos).toNat = c0 := by
              have h1 : (bs.data.toList.map (fun b => (b.toNat : Int)))[pos]? = some (c0 : Int) := by
                rw [hs, List.getElem?_map, hn]; rfl
              rw [List.getElem?_map, Array.getElem?_toList] at h1
              have h2 : bs.data[pos]? = some (bs.get! pos) := by
                have hlt : pos < bs.data.size := hps
                rw [Array.getElem?_eq_getElem hlt]
                congr 1
                show bs.data[pos] = bs.data[pos]!
                rw [getElem!_pos bs.data pos hlt]
              rw [h2] at h1
              simp only [Option.map_some, Option.some.injEq] at h1
              exact Int.ofNat.inj h1
            have hd := decode_ascii hby hc
            refine ⟨.tuple #[.bool true, goInt pos, .int .i32 c0], _, E, ?_, setObj_mv (ob := .stringIter bs (pos + 1)) hr hl e hb (.strIter hs0), VR.tup (vs := [.bool true, goInt pos, .int .i32 c0]) (.cons (.bool _) (.cons (.int .i64 (.lit (pos : Int))) (.cons (.int .i32 (.lit (c0 : Int))) .nil)))⟩
            simp only [Instr.next, Sem.run_bind, hget, Result.andThen_ok, if_pos hps, hd, setObj_run hb (by simp), Sem.run_pure]
          · exact ⟨none, rfl, .none⟩
        · exact ⟨none, rfl, .none⟩
        · rename_i hn
          rw [nthL_eq, List.getElem?_eq_none_iff] at hn
          refine ⟨_, rfl, fun v H' ee => ?_⟩
          cases ee
          refine ⟨.tuple #[.bool false], w, E, ?_, Mv.refl hr, VR.tup (vs := [.bool false]) (.cons (.bool _) .nil)⟩
          simp only [Instr.next, Sem.run_bind, hget, Result.andThen_ok, if_neg (show ¬ pos < bs.size by omega), Sem.run_pure]
      · exact ⟨none, rfl, .none⟩
    · rename_i hl
      split
      · exact ⟨none, rfl, .none⟩
      · obtain ⟨b', c', ob, e', _, hb, ho⟩ := hr.obj l _ hl
        rw [e] at e'; cases e'
        cases ho with
        | mapIter0 =>
        refine ⟨_, rfl, fun v H' ee => ?_⟩
        cases ee
        refine ⟨.tuple #[.bool false], w, E, ?_, Mv.refl hr, VR.tup (vs := [.bool false]) (.cons (.bool _) .nil)⟩
        simp only [Instr.next, Sem.run_bind, run_getObj_it (G := G) hb (by simp), Result.andThen_ok, Sem.run_pure]
    · rename_i m since seen last hl
      split
      · exact ⟨none, rfl, .none⟩
      · split
        · rename_i es clock hm
          have hg := mapAt_ok hm
          obtain ⟨b', c', ob, e', _, hb, ho⟩ := hr.obj l _ hl
          rw [e] at e'; cases e'
          cases ho with
          | mapIter hmm =>
          rename_i bm cm
          obtain ⟨bm', cm', arr, e2, hbm, hmr⟩ := hr.map (l := m) hg
          rw [hmm] at e2; cases e2
          obtain ⟨fs⟩ := arr
          have hmr : MRs E es fs := hmr
          have hgr := hmr.grd seen last
          have hlf := hmr.left seen
          split
          · exact ⟨none, rfl, .none⟩
          · rename_i hgf
            rw [hgf] at hgr
            have hgr : (!seen.toArray.isEmpty && !(Array.mk fs).isEmpty && (Array.mk fs).all (fun e => decide (e.born ≥ last))) = false := hgr
            have hfil : (Array.mk fs).filter (fun e => !seen.toArray.contains e.born) = ((fs.filter fun e => !seen.toArray.contains e.born)).toArray := by
              rw [show Array.mk fs = fs.toArray from rfl, List.filter_toArray]
            split
            · rename_i hle
              rw [hle] at hlf
              generalize hq : (fs.filter fun e => !seen.toArray.contains e.born) = q at hlf hfil
              cases hlf
              refine ⟨_, rfl, fun v H' ee => ?_⟩
              cases ee
              refine ⟨.tuple #[.bool false], w, E, ?_, Mv.refl hr, VR.tup (vs := [.bool false]) (.cons (.bool _) .nil)⟩
              simp only [Instr.next, Sem.run_bind, run_getObj_it (G := G) hb (by simp), run_getObj_map (G := G) hbm, Result.andThen_ok, hgr, hfil, Bool.false_eq_true, if_false]
              simp [choose, Sem.run, Question.forced]
            · rename_i k v b0 hle
              rw [hle] at hlf
              generalize hq : (fs.filter fun e => !seen.toArray.contains e.born) = q at hlf hfil
              cases hlf with
              | cons hk hv hbo hs =>
              cases hs
              rename_i en
              split
              · rename_i hlt
                have hlt := Nat.le_of_ble_eq_true hlt
                refine ⟨_, PT.putK_eq _ _ _ _, fun v' H' ee => ?_⟩
                cases ee
                have hor : OR G E c (.mapIter (some m) since (seen ++ [b0]) clock) (.mapIter (some bm) since (seen.toArray.push en.born) clock) := by
                  have : seen.toArray.push en.born = (seen ++ [b0]).toArray := by rw [hbo]; simp
                  rw [this]
                  exact .mapIter hmm
                refine ⟨.tuple #[.bool true, en.key, en.val], _, E, ?_, setObj_mv (ob := .mapIter (some bm) since (seen.toArray.push en.born) clock) hr hl e hb hor, VR.tup (vs := [.bool true, en.key, en.val]) (.cons (.bool _) (.cons hk (.cons hv .nil)))⟩
                have hold : en.born < since := by omega
                simp only [Instr.next, Sem.run_bind, run_getObj_it (G := G) hb (by simp), run_getObj_map (G := G) hbm, Result.andThen_ok, hgr, hfil, Bool.false_eq_true, if_false]
                have hnew : ¬ since ≤ en.born := by omega
                simp [choose, Sem.run, Question.forced, hold, hnew, setObj, hb]
              · exact ⟨none, rfl, .none⟩
            · exact ⟨none, rfl, .none⟩
        · exact ⟨none, rfl, .none⟩
    · exact ⟨none, rfl, .none⟩
  · exact ⟨none, rfl, .none⟩
noncomputable def entryO (tab : PT AObj) (it : AV) : Option AV := match it with
  | .iter l => match PT.get l tab with
    | some (.mapIter (some m) _ seen stepped) => match lastN seen, mapAt tab m with
      | some b, some (es, clock) => match Nat.beq clock stepped with
        | true => findB b es
        | false => none
      | _, _ => none
    | _ => none
  | _ => none
theorem entryO_ok {H : Hp} (hr : HR G W0 E H.f H.nx.toNat w) {it v : AV} {it' : Value} (hx : VR E it it') (h : entryO H.tab it = some v) : ∃ z, (Instr.entry it').run G w = .ok z w ∧ VR E v z := by
  unfold entryO at h
  split at h
  · rename_i l
    cases hx with
    | iter e =>
    split at h
    · rename_i m since seen stepped hl
      split at h
      · rename_i b0 es clock hla hm
        split at h
        · rename_i hcl
          have hcl := Nat.eq_of_beq_eq_true hcl
          subst hcl
          have hg := mapAt_ok hm
          obtain ⟨b', c', ob, e', _, hb, ho⟩ := hr.obj l _ hl
          rw [e] at e'; cases e'
          cases ho with
          | mapIter hmm =>
          rename_i bm cm
          obtain ⟨bm', cm', arr, e2, hbm, hmr⟩ := hr.map (l := m) hg
          rw [hmm] at e2; cases e2
          obtain ⟨en, hf, hv⟩ := hmr.find b0 h
          refine ⟨.tuple #[en.key, en.val], ?_, hv⟩
          rw [lastN_eq] at hla
          have hba : seen.toArray.back? = some b0 := by simpa using hla
          have hfa : arr.find? (fun e => e.born == b0) = some en := by rw [← Array.find?_toList]; exact hf
          simp only [Instr.entry, Sem.run_bind, run_getObj_it (G := G) hb (by simp), run_getObj_map (G := G) hbm, Result.andThen_ok, hba, hfa, bne_self_eq_false, Bool.false_eq_true, if_false, Sem.run_pure]
        · cases h
      · cases h
    · cases h
  · cases h
end
end Go.Ai
