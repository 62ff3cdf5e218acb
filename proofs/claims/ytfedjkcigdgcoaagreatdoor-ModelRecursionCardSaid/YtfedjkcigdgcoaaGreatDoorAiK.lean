/- What stores and appends come to, on abstract values. -/
import Derived.Test.YtfedjkcigdgcoaaGreatDoorAiJ
namespace Go.Ai
open Go Go.RowKit
set_option linter.unusedVariables false
structure Hp where
  nx : P
  tab : PT AObj
noncomputable def Hp.f (H : Hp) : P → Option AObj := fun l => PT.get l H.tab
theorem put_upd (l : P) (t : PT AObj) (o : Option AObj) : (fun q => PT.get q (PT.put l t o)) = upd (fun q => PT.get q t) l o := by
  funext q
  by_cases h : q = l
  · subst h; rw [PT.get_put_same, upd_same]
  · rw [PT.get_put_other (fun e => h e.symm), upd_other _ _ h]
section
variable {G : Program} {W0 : World} {E : Env} {nx : Nat} {w : World} {cf : Cf}
/-- an append that finds room -/
theorem app_room {t xt ty e : TypeId} {d : TypeDesc} {i : TypeInfo} (ht : G.underlying t = some (.slice e)) (hxt : G.underlying xt = some d) (hd : d = .string ∨ ∃ e', d = .slice e') (hi : G.info? e = some i) {a : Addr} {sLen sCap n : Nat} {x : Value} {news : List Value} {w' : World}
    (hl : (Builtin.lenOf x).run G w = .ok n w) (hf : (Builtin.firstCells i.size n x).run G w = .ok news.toArray w) (hroom : sLen + n ≤ sCap) (hst : (storeCells (a.add (sLen * i.size)) news).run G w = .ok () w') :
    (Builtin.append_ #[t, xt] ty #[.slice (some a) sLen sCap, x]).run G w = .ok (.slice (some a) (sLen + n) sCap) w' := by
  have hs : (sizeOf e).run G w = .ok i.size w := by simp [sizeOf, run_typeInfo hi]
  rcases hd with rfl | ⟨e', rfl⟩ <;> simp [Builtin.append_, run_underlying ht, run_underlying hxt, hs, hl, hroom, hf, hst]
theorem app_room0 {t xt ty e : TypeId} {d : TypeDesc} {i : TypeInfo} (ht : G.underlying t = some (.slice e)) (hxt : G.underlying xt = some d) (hd : d = .string ∨ ∃ e', d = .slice e') (hi : G.info? e = some i) {x : Value}
    (hl : (Builtin.lenOf x).run G w = .ok 0 w) (hf : (Builtin.firstCells i.size 0 x).run G w = .ok #[] w) :
    (Builtin.append_ #[t, xt] ty #[.slice none 0 0, x]).run G w = .ok (.slice none 0 0) w := by
  have hs : (sizeOf e).run G w = .ok i.size w := by simp [sizeOf, run_typeInfo hi]
  rcases hd with rfl | ⟨e', rfl⟩ <;> simp [Builtin.append_, run_underlying ht, run_underlying hxt, hs, hl, hf]
/-- an append that must make a new row -/
theorem app_grow {t xt ty e : TypeId} {d : TypeDesc} {i : TypeInfo} {z : Value} (ht : G.underlying t = some (.slice e)) (hxt : G.underlying xt = some d) (hd : d = .string ∨ ∃ e', d = .slice e') (hi : G.info? e = some i) (hz : i.zero = some z) {a : Option Addr} {sLen sCap n : Nat} {x : Value} {olds news : List Value}
    (hl : (Builtin.lenOf x).run G w = .ok n w) (hfo : (Builtin.firstCells i.size sLen (.slice a sLen sCap)).run G w.drew = .ok olds.toArray w.drew) (hf : (Builtin.firstCells i.size n x).run G w.drew = .ok news.toArray w.drew)
    (hg : sCap < sLen + n) (h63 : sLen + n ≤ 9223372036854775807) (hfit : Builtin.nextslicecap (sLen + n) sCap * i.bytes ≤ 281474976710656) :
    (Builtin.append_ #[t, xt] ty #[.slice a sLen sCap, x]).run G w = .ok (.slice (some ⟨w.heap.size, 0, none⟩) (sLen + n) (grownCap w (sLen + n) sCap e))
      (w.drew.alloc (.cells (olds.toArray ++ news.toArray ++ Builtin.zeroCells z.cells (grownCap w (sLen + n) sCap e - (sLen + n))) e)) := by
  have hs : ∀ w : World, (sizeOf e).run G w = .ok i.size w := fun w => by simp [sizeOf, run_typeInfo hi]
  have ht' : ∀ w : World, (typeInfo e).run G w = .ok i w := fun w => run_typeInfo hi
  have hzv : ∀ w : World, (zeroValue e).run G w = .ok z w := fun w => by simp [zeroValue, run_typeInfo hi, hz]
  have hn : ¬ (sLen + n ≤ sCap) := by omega
  have h63' : ¬ (9223372036854775807 < ((sLen : Int) + (n : Int))) := by omega
  have h48' : ¬ (281474976710656 < Builtin.nextslicecap (sLen + n) sCap * i.bytes) := by omega
  rcases hd with rfl | ⟨e', rfl⟩ <;> simp [Builtin.append_, run_underlying ht, run_underlying hxt, hs, ht', hzv, hl, hn, h63', h48', Question.forced, hfo, hf, newRow, grownCap] <;> (congr 2; apply Array.ext'; simp [List.append_assoc])
/-! what is appended, copied -/
noncomputable def mapL {α β : Type} (f : α → β) (l : List α) : List β := List.rec [] (fun a _ ih => f a :: ih) l
theorem mapL_eq {α β : Type} (f : α → β) (l : List α) : mapL f l = l.map f := by
  induction l with
  | nil => rfl
  | cons a l ih => exact congrArg (f a :: ·) ih
noncomputable def srcO (tab : PT AObj) (size : Nat) (x : AV) : Option (Nat × List AV) := match x with
  | .sl0 => some (0, [])
  | .sl l off len _ => match rowAt tab l with
    | some cs => match Nat.beq (lenL (takeL (Nat.mul len size) (dropL off cs))) (Nat.mul len size) with
      | true => some (len, takeL (Nat.mul len size) (dropL off cs))
      | false => none
    | none => none
  | .str l => match Nat.beq size 1 with
    | true => some (lenL l, mapL (fun e => .int .u8 e) l)
    | false => none
  | _ => none
theorem bytes_vrs : ∀ {l : List SI} {bs : List UInt8}, bs.map (fun b => (b.toNat : Int)) = l.map (SI.ev E.σ) → VRs E (l.map (fun e => .int .u8 e)) (bs.map fun b => Value.int .u8 b.toNat)
  | [], [], _ => .nil
  | [], _ :: _, h => by simp at h
  | _ :: _, [], h => by simp at h
  | e :: l, b :: bs, h => by
    simp only [List.map_cons, List.cons.injEq] at h
    refine .cons ?_ (bytes_vrs h.2)
    have := VR.int (E := E) .u8 e
    rw [← h.1] at this; exact this
theorem srcO_ok {tab : PT AObj} {nx : Nat} (hr : HR G W0 E (fun l => PT.get l tab) nx w) {size : Nat} {x : AV} {x' : Value} (hx : VR E x x') {n : Nat} {cs : List AV} (h : srcO tab size x = some (n, cs)) :
    ∃ vs, VRs E cs vs ∧ vs.length = n * size ∧ (Builtin.lenOf x').run G w = .ok n w ∧ ∀ w', w'.heap = w.heap → (Builtin.firstCells size n x').run G w' = .ok vs.toArray w' := by
  unfold srcO at h
  split at h
  · cases h
    cases hx with
    | sl0 => exact ⟨[], .nil, by simp, rfl, fun w' _ => rfl⟩
  · rename_i l off len cap
    split at h
    · rename_i row hrow
      split at h
      · rename_i hl
        cases h
        have hl := Nat.eq_of_beq_eq_true hl
        obtain ⟨ty, opn, hg⟩ := rowAt_ok hrow
        obtain ⟨b, c, arr, fz, pre, rest, e, _, hb, hv, ha, _⟩ := hr.row hg
        rw [takeL_eq, dropL_eq] at hl ⊢
        have hvs := (hv.drop off).take (n * size)
        rw [lenL_eq] at hl
        have hlen : ((pre.drop off).take (n * size)).length = n * size := by have := hvs.length; exact this.symm.trans hl
        cases hx with
        | sl e' haa hle hc =>
          rename_i a b' c' m
          rw [e] at e'; cases e'
          refine ⟨_, hvs, hlen, rfl, fun w' hw' => ?_⟩
          by_cases h0 : 0 < m
          · rw [haa h0]
            exact loadCells_run (by rw [hw']; exact hb) ha hlen
          · have : n = 0 := by omega
            subst this
            simp only [Builtin.firstCells, Nat.zero_mul]
            rw [loadCells_zero]; simp
      · cases h
    · cases h
  · rename_i l
    split at h
    · rename_i h1
      have h1 := Nat.eq_of_beq_eq_true h1
      subst h1
      cases h
      cases hx with
      | str hs =>
        rename_i s
        have hsz := str_size hs
        rw [lenL_eq, mapL_eq, ← hsz]
        refine ⟨_, bytes_vrs hs, by simp, rfl, fun w' _ => ?_⟩
        have e1 : (s.extract 0 s.size).data = s.data := by
          apply Array.ext'
          simp
        simp only [Builtin.firstCells, Sem.run_pure, e1]
        congr 1
        apply Array.ext'
        simp
    · cases h
  · cases h
noncomputable def strO (d : Option TypeDesc) : Bool := match d with | some .string => true | some (.slice _) => true | _ => false
theorem strO_ok {d : Option TypeDesc} (h : strO d = true) : ∃ d', d = some d' ∧ (d' = .string ∨ ∃ e', d' = .slice e') := by
  unfold strO at h
  split at h
  · exact ⟨_, rfl, .inl rfl⟩
  · exact ⟨_, rfl, .inr ⟨_, rfl⟩⟩
  · cases h
/-- a new row with room behind it that is not known -/
noncomputable def growK {R : Type} (el : TypeId) (need : Nat) (cs : List AV) (dead : Option P) (H : Hp) (K : Option (AV × Hp) → R) : R :=
  P.nextK H.nx (fun nx' => Option.casesOn dead
    (PT.putK H.nx H.tab (some (.cells cs el true)) (fun t => K (some (.sl H.nx 0 need (.op 0), ⟨nx', t⟩))))
    (fun l => PT.putK l H.tab none (fun t => PT.putK H.nx t (some (.cells cs el true)) (fun t => K (some (.sl H.nx 0 need (.op 0), ⟨nx', t⟩))))))
noncomputable def appendK {R : Type} (G : Program) (t xt : TypeId) (s x : AV) (H : Hp) (K : Option (AV × Hp) → R) : R :=
  match G.underlying t, strO (G.underlying xt) with
  | some (.slice el), true => match G.info? el, zeroO G el with
    | some i, some z => match srcO H.tab i.size x, cellsA z with
      | some (n, new), some zs => match allL scalarA new, Nat.beq (lenL zs) i.size, Nat.ble i.bytes 1048576, Nat.ble 1 i.size with
        | true, true, true, true => match s with
          | .sl0 => match Nat.beq n 0 with
            | true => K (some (.sl0, H))
            | false => match Nat.ble n 1048576 with
              | true => growK el n new none H K
              | false => K none
          | .sl l off len cap => forceN (Nat.add len n) (fun need => match PT.get l H.tab with
            | some (.cells cs ty opn) => match Nat.beq ty el, Nat.ble need 1048576 with
              | true, true => match cap with
                | .ex c => match Nat.ble need c with
                  | true => match Nat.ble (Nat.add off (Nat.mul need i.size)) (lenL cs) with
                    | true => spliceK (Nat.add off (Nat.mul len i.size)) new cs (fun cs' => PT.putK l H.tab (some (.cells cs' ty opn)) (fun t' => K (some (.sl l off need (.ex c), ⟨H.nx, t'⟩))))
                    | false => K none
                  | false => match Nat.beq (lenL (takeL (Nat.mul len i.size) (dropL off cs))) (Nat.mul len i.size) with
                    | true => growK el need (takeL (Nat.mul len i.size) (dropL off cs) ++ new) none H K
                    | false => K none
                | .op d => match opn, Nat.beq off (Nat.mul d i.size) with
                  | true, true => match Nat.ble (Nat.add off (Nat.mul need i.size)) (lenL cs) with
                    | true => spliceK (Nat.add off (Nat.mul len i.size)) new cs (fun cs' => PT.putK l H.tab (some (.cells cs' ty opn)) (fun t' => K (some (.sl l off need (.op d), ⟨H.nx, t'⟩))))
                    | false => match Nat.beq off 0, Nat.beq (lenL (takeL (Nat.mul len i.size) cs)) (Nat.mul len i.size) with
                      | true, true => growK el need (takeL (Nat.mul len i.size) cs ++ new) (some l) H K
                      | _, _ => K none
                  | _, _ => K none
              | _, _ => K none
            | _ => K none)
          | _ => K none
        | _, _, _, _ => K none
      | _, _ => K none
    | _, _ => K none
  | _, _ => K none
/-- a step that a handed-on reckoning makes -/
def AppR (G : Program) (W0 : World) (E : Env) (H : Hp) (w : World) (r : Option (AV × Hp)) (s : Sem Value) : Prop :=
  ∀ v H', r = some (v, H') → ∃ z w' E', s.run G w = .ok z w' ∧ Mv G W0 E H.f H.nx.toNat w E' H'.f H'.nx.toNat w' ∧ VR E' v z
theorem AppR.none {H : Hp} {s : Sem Value} : AppR G W0 E H w none s := fun v H' h => by cases h
theorem grown_mv {H : P → Option AObj} {nx : P} (hr : HR G W0 E H nx.toNat w) {el : TypeId} {i : TypeInfo} {z : Value} (hi : G.info? el = some i) (hzs : z.cells.size = i.size) {cs : List AV} {vs : List Value} (hv : VRs E cs vs) {need C : Nat} (hlen : vs.length = need * i.size) (hC : need ≤ C) :
    Mv G W0 E H nx.toNat w (E.add nx (w.heap.size, C)) (upd H nx (some (.cells cs el true))) nx.next.toNat (w.drew.alloc (.cells (vs.toArray ++ Builtin.zeroCells z.cells (C - need)) el)) := by
  have h0 := Mv.drew hr
  have hn : E.ρ nx = none := by
    cases hh : E.ρ nx with
    | none => rfl
    | some x => have := hr.dom nx x hh; omega
  refine h0.trans (Mv.new h0.hr (l := nx) hn (by rw [P.toNat_next]; omega) (by rw [P.toNat_next]; omega) C ?_ (Nat.le_refl _))
  have hle := Env.le_add (x := (w.heap.size, C)) hn
  have hco : G.cellsOf el = i.size := by simp [Program.cellsOf, hi]
  refine .cells (hv.mono hle) (rest := (Builtin.zeroCells z.cells (C - need)).toList) (by simp) (fun e => by cases e) (fun _ => ?_) (.inl rfl)
  rw [hco]
  simp only [Array.size_append, List.size_toArray, size_zeroCells, hzs, hlen, ← Nat.add_mul]
  congr 1; omega
theorem growK_none {R : Type} (el : TypeId) (need : Nat) (cs : List AV) (H : Hp) (K : Option (AV × Hp) → R) : growK el need cs none H K = K (some (.sl H.nx 0 need (.op 0), ⟨H.nx.next, PT.put H.nx H.tab (some (.cells cs el true))⟩)) := by
  unfold growK; rw [P.nextK_eq]; exact PT.putK_eq _ _ _ _
theorem growK_some {R : Type} (el : TypeId) (need : Nat) (cs : List AV) (l : P) (H : Hp) (K : Option (AV × Hp) → R) : growK el need cs (some l) H K = K (some (.sl H.nx 0 need (.op 0), ⟨H.nx.next, PT.put H.nx (PT.put l H.tab none) (some (.cells cs el true))⟩)) := by
  unfold growK; rw [P.nextK_eq]; exact (PT.putK_eq _ _ _ _).trans (PT.putK_eq _ _ _ _)
theorem cut_ge (need old : Nat) (e : TypeId) (n : Nat) : need ≤ (Question.appendCap need old e).cut n := Nat.le_add_right _ _
theorem fit_bytes {need old bytes : Nat} (h : old < need) (h1 : need ≤ 1048576) (h2 : bytes ≤ 1048576) : Builtin.nextslicecap need old * bytes ≤ 281474976710656 := by
  have := nextslicecap_le h
  have h3 : Builtin.nextslicecap need old * bytes ≤ 2097152 * 1048576 := Nat.mul_le_mul (by omega) h2
  omega
theorem olds_run {b off : Nat} {arr : Array Value} {ty : TypeId} {fz : Nat × Nat} {pre rest : List Value} {w' : World} (hw' : w'.heap = w.heap) (hb : w.heap[b]? = some (.cells arr ty fz)) (ha : arr.toList = pre ++ rest) {size len cap : Nat} {a : Addr} (haa : 0 < cap → a = ⟨b, off, none⟩) (hle : len ≤ cap) (hlen : ((pre.drop off).take (len * size)).length = len * size) :
    (Builtin.firstCells size len (.slice (some a) len cap)).run G w' = .ok ((pre.drop off).take (len * size)).toArray w' := by
  by_cases h0 : 0 < cap
  · rw [haa h0]; exact loadCells_run (by rw [hw']; exact hb) ha hlen
  · have : len = 0 := by omega
    subst this
    simp only [Builtin.firstCells, Nat.zero_mul]
    rw [loadCells_zero]; simp
theorem Mv.drop {H H' H'' : P → Option AObj} {nx nx' : Nat} {w' : World} {E' : Env} (h : Mv G W0 E H nx w E' H' nx' w') (hs : ∀ l o, H'' l = some o → H' l = some o) : Mv G W0 E H nx w E' H'' nx' w' :=
  ⟨h.le, h.hr.drop hs, h.up, h.sz, h.fr, fun l o b c e1 e2 => h.own l o b c (hs l o e1) e2, h.nw⟩
theorem appR_new {H : Hp} (hr : HR G W0 E H.f H.nx.toNat w) {el : TypeId} {i : TypeInfo} {z : Value} (hi : G.info? el = some i) (hzs : z.cells.size = i.size) {cs : List AV} {vs : List Value} (hv : VRs E cs vs) {need C : Nat} (hlen : vs.length = need * i.size) (hC : need ≤ C) {s : Sem Value}
    (hrun : s.run G w = .ok (.slice (some ⟨w.heap.size, 0, none⟩) need C) (w.drew.alloc (.cells (vs.toArray ++ Builtin.zeroCells z.cells (C - need)) el))) :
    AppR G W0 E H w (some (.sl H.nx 0 need (.op 0), ⟨H.nx.next, PT.put H.nx H.tab (some (.cells cs el true))⟩)) s := by
  intro v H' e
  cases e
  have hmv := grown_mv hr hi hzs hv hlen hC
  refine ⟨_, _, E.add H.nx (w.heap.size, C), hrun, ?_, .sl (Env.add_same _ _ _) (fun _ => rfl) hC rfl⟩
  have e3 : (Hp.mk H.nx.next (PT.put H.nx H.tab (some (.cells cs el true)))).f = upd H.f H.nx (some (.cells cs el true)) := put_upd _ _ _
  rw [e3]; exact hmv
theorem appR_newd {H : Hp} (hr : HR G W0 E H.f H.nx.toNat w) {el : TypeId} {i : TypeInfo} {z : Value} (hi : G.info? el = some i) (hzs : z.cells.size = i.size) {cs : List AV} {vs : List Value} (hv : VRs E cs vs) {need C : Nat} (hlen : vs.length = need * i.size) (hC : need ≤ C) {s : Sem Value} {l : P}
    (hrun : s.run G w = .ok (.slice (some ⟨w.heap.size, 0, none⟩) need C) (w.drew.alloc (.cells (vs.toArray ++ Builtin.zeroCells z.cells (C - need)) el))) :
    AppR G W0 E H w (some (.sl H.nx 0 need (.op 0), ⟨H.nx.next, PT.put H.nx (PT.put l H.tab none) (some (.cells cs el true))⟩)) s := by
  intro v H' e
  cases e
  have hmv := grown_mv hr hi hzs hv hlen hC
  refine ⟨_, _, E.add H.nx (w.heap.size, C), hrun, hmv.drop ?_, .sl (Env.add_same _ _ _) (fun _ => rfl) hC rfl⟩
  have e3 : (Hp.mk H.nx.next (PT.put H.nx (PT.put l H.tab none) (some (.cells cs el true)))).f = upd (upd H.f l none) H.nx (some (.cells cs el true)) := by
    show (fun q => PT.get q _) = _
    rw [put_upd, put_upd]; rfl
  rw [e3]
  intro q o hq
  by_cases h1 : q = H.nx
  · subst h1; rw [upd_same] at hq ⊢; exact hq
  · rw [upd_other _ _ h1] at hq ⊢
    by_cases h2 : q = l
    · subst h2; rw [upd_same] at hq; cases hq
    · rwa [upd_other _ _ h2] at hq
theorem HR.fresh {H : P → Option AObj} {nx : P} (hr : HR G W0 E H nx.toNat w) : E.ρ nx = none := by
  cases hh : E.ρ nx with
  | none => rfl
  | some x => have := hr.dom nx x hh; omega
theorem put_f (nx' l : P) (t : PT AObj) (o : Option AObj) : (Hp.mk nx' (PT.put l t o)).f = upd (fun q => PT.get q t) l o := put_upd _ _ _
theorem appendK_ok {R : Type} {H : Hp} (hr : HR G W0 E H.f H.nx.toNat w) {t xt : TypeId} {s x : AV} {s' x' : Value} (hs : VR E s s') (hx : VR E x x') (ty : TypeId) (K : Option (AV × Hp) → R) :
    ∃ r, appendK G t xt s x H K = K r ∧ AppR G W0 E H w r (Builtin.append_ #[t, xt] ty #[s', x']) := by
  unfold appendK
  split
  · rename_i el hu hst
    obtain ⟨d, hxt, hd⟩ := strO_ok hst
    split
    · rename_i i z hi hz
      split
      · rename_i n new zs hsrc hzs
        split
        · rename_i hall hlz hby hsz
          obtain ⟨vs, hvs, hvl, hlo, hfc⟩ := srcO_ok hr hx hsrc
          obtain ⟨z', _, hz2, i', hi', hiz⟩ := zeroO_ok (G := G) (w := w) hz E
          rw [hi] at hi'; cases hi'
          have hlz := Nat.eq_of_beq_eq_true hlz
          rw [lenL_eq] at hlz
          have hzsz : z'.cells.size = i.size := by have := (cellsA_ok hz2 hzs).1.length; simp at this; omega
          have hby := Nat.le_of_ble_eq_true hby
          have hsz := Nat.le_of_ble_eq_true hsz
          have hfc0 := hfc w rfl
          have hfc1 := hfc w.drew rfl
          have hone := ones hvs hall
          split
          · cases hs with
            | sl0 =>
              split
              · rename_i h0
                have h0 := Nat.eq_of_beq_eq_true h0
                subst h0
                refine ⟨_, rfl, fun v H' e => ?_⟩
                cases e
                have : vs = [] := List.eq_nil_of_length_eq_zero (by simpa using hvl)
                subst this
                exact ⟨_, w, E, app_room0 hu hxt hd hi hlo hfc0, Mv.refl hr, .sl0⟩
              · rename_i h0
                have h0 := Nat.ne_of_beq_eq_false h0
                split
                · rename_i hle
                  have hle := Nat.le_of_ble_eq_true hle
                  refine ⟨_, growK_none _ _ _ _ _, fun v H' e => ?_⟩
                  have hrun := app_grow (ty := ty) (olds := []) (news := vs) hu hxt hd hi hiz (a := none) (sLen := 0) (sCap := 0) hlo rfl hfc1 (by omega) (by omega) (fit_bytes (by omega) (by omega) hby)
                  simp only [Nat.zero_add, Array.empty_append] at hrun
                  exact appR_new hr hi hzsz hvs hvl (cut_ge n 0 el _) hrun v H' e
                · exact ⟨none, rfl, .none⟩
          · rename_i l off len cap
            rw [forceN_eq]
            split
            · rename_i cs ty' opn hl
              split
              · rename_i hty hneed
                have hty := Nat.eq_of_beq_eq_true hty
                subst hty
                have hneed : len + n ≤ 1048576 := Nat.le_of_ble_eq_true hneed
                obtain ⟨b, c, arr, fz, pre, rest, e, hge, hb, hv, ha, hop, hcc, hfz⟩ := hr.row hl
                have hll := hv.length
                have hmul : (len + n) * i.size = len * i.size + n * i.size := Nat.add_mul _ _ _
                cases hs with
                | sl e' haa hle hc =>
                  rename_i a b' c' m
                  rw [e] at e'; cases e'
                  -- in place, for sure
                  have place : ∀ (cap' : Cap), CapR cap' m c → len + n ≤ m → off + (len + n) * i.size ≤ cs.length → AppR G W0 E H w (some (.sl l off (len + n) cap', ⟨H.nx, PT.put l H.tab (some (.cells (cs.take (off + len * i.size) ++ new ++ cs.drop (off + len * i.size + new.length)) ty' opn))⟩)) (Builtin.append_ #[t, xt] ty #[.slice (some a) len m, x']) := by
                    intro cap' hcap hroom hfit v H' ee
                    cases ee
                    by_cases h0 : n = 0
                    · subst h0
                      have hvn : vs = [] := List.eq_nil_of_length_eq_zero (by simpa using hvl)
                      subst hvn
                      have hnn : new = [] := List.eq_nil_of_length_eq_zero (by simpa using hvs.length)
                      subst hnn
                      refine ⟨_, w, E, app_room hu hxt hd hi hlo hfc0 hroom (by rfl), ?_, .sl e haa (by omega) hcap⟩
                      rw [put_f]
                      have : (cs.take (off + len * i.size) ++ [] ++ cs.drop (off + len * i.size + ([] : List AV).length)) = cs := by simp
                      rw [this]
                      exact Mv.set hr hl e (.cells hv ha hop hcc hfz) rfl hb (fun _ _ => rfl) rfl rfl rfl
                    · have haa' := haa (by omega)
                      obtain ⟨w', arr', h1, h2, h3⟩ := storeCells_at (G := G) (w := w) (off := off + len * i.size) vs hb (by rw [hvl]; have h1 := congrArg List.length ha; simp at h1; omega) (fz_ok hfz) hone
                      refine ⟨_, w', E, app_room hu hxt hd hi hlo hfc0 hroom (by rw [haa', addr_add]; exact h1), ?_, .sl e haa (by omega) hcap⟩
                      rw [put_f]
                      exact wrote_mv hr hl e hb hv ha hop hcc hfz hvs (by omega) h2 h3
                  -- a new row, for sure
                  have fresh : ∀ r, (lenL (takeL (len * i.size) (dropL off cs)) = len * i.size) → m < len + n → r = some (AV.sl H.nx 0 (len + n) (.op 0), Hp.mk H.nx.next (PT.put H.nx H.tab (some (.cells (takeL (len * i.size) (dropL off cs) ++ new) ty' true)))) →
                      AppR G W0 E H w r (Builtin.append_ #[t, xt] ty #[.slice (some a) len m, x']) := by
                    intro r hll2 hg hre
                    subst hre
                    rw [takeL_eq, dropL_eq] at *
                    rw [lenL_eq] at hll2
                    have hov := (hv.drop off).take (len * i.size)
                    have hol : ((pre.drop off).take (len * i.size)).length = len * i.size := by have := hov.length; omega
                    have hrun := app_grow (ty := ty) (news := vs) hu hxt hd hi hiz (a := some a) (sLen := len) (sCap := m) hlo (olds_run (w' := w.drew) rfl hb ha haa hle hol) hfc1 hg (by omega) (fit_bytes hg (by omega) hby)
                    have e2 : ∀ (x y z : List Value), x.toArray ++ y.toArray ++ z.toArray = (x ++ y).toArray ++ z.toArray := fun x y z => by simp
                    refine appR_new (C := grownCap w (len + n) m ty') hr hi hzsz (hov.append hvs) (by rw [List.length_append, hol, hvl, Nat.add_mul]) (cut_ge _ _ _ _) ?_
                    rw [hrun]; congr 2; simp
                  split
                  · rename_i cc
                    have hc : m = cc := hc
                    subst hc
                    split
                    · rename_i hroom
                      have hroom : len + n ≤ m := Nat.le_of_ble_eq_true hroom
                      split
                      · rename_i hfit
                        have hfit : off + (len + n) * i.size ≤ lenL cs := Nat.le_of_ble_eq_true hfit
                        rw [lenL_eq] at hfit
                        have hb1 : off + len * i.size ≤ cs.length := by omega
                        exact ⟨_, (spliceK_eq (off + len * i.size) new cs _ hb1).trans (PT.putK_eq _ _ _ _), place (.ex m) rfl hroom hfit⟩
                      · exact ⟨none, rfl, .none⟩
                    · rename_i hroom
                      have hroom : ¬ (len + n ≤ m) := fun h => by
                        have h2 : Nat.ble (Nat.add len n) m = true := Nat.ble_eq_true_of_le h
                        rw [h2] at hroom; cases hroom
                      split
                      · rename_i hl2
                        have hl2 := Nat.eq_of_beq_eq_true hl2
                        rw [growK_none]
                        exact ⟨_, rfl, fresh _ hl2 (by omega) rfl⟩
                      · exact ⟨none, rfl, .none⟩
                  · rename_i dd
                    have hc : m + dd = c := hc
                    split
                    · rename_i hoff
                      have hoff : off = dd * i.size := Nat.eq_of_beq_eq_true hoff
                      have hco : G.cellsOf ty' = i.size := by simp [Program.cellsOf, hi]
                      have harr := hcc rfl
                      rw [hco] at harr
                      have hal : arr.size = pre.length + rest.length := by have := congrArg List.length ha; simpa using this
                      split
                      · rename_i hfit
                        have hfit : off + (len + n) * i.size ≤ lenL cs := Nat.le_of_ble_eq_true hfit
                        rw [lenL_eq] at hfit
                        have hb1 : off + len * i.size ≤ cs.length := by omega
                        have hroom : len + n ≤ m := by
                          have h1 : (dd + (len + n)) * i.size ≤ c * i.size := by rw [← harr, Nat.add_mul, ← hoff]; omega
                          have h2 := Nat.le_of_mul_le_mul_right h1 hsz
                          omega
                        exact ⟨_, (spliceK_eq (off + len * i.size) new cs _ hb1).trans (PT.putK_eq _ _ _ _), place (.op dd) hc hroom hfit⟩
                      · rename_i hfit
                        split
                        · rename_i h0 hl2
                          have h0 : off = 0 := Nat.eq_of_beq_eq_true h0
                          have hl2 := Nat.eq_of_beq_eq_true hl2
                          rw [growK_some]
                          refine ⟨_, rfl, ?_⟩
                          have hdd : dd = 0 := by
                            rcases Nat.eq_zero_or_pos dd with h | h
                            · exact h
                            · have := Nat.mul_le_mul h hsz; omega
                          subst h0 hdd
                          have hcm : m = c := by omega
                          subst hcm
                          have hov := hv.take (len * i.size)
                          rw [lenL_eq, takeL_eq] at hl2
                          have hl2 : (cs.take (len * i.size)).length = len * i.size := hl2
                          have hol : (pre.take (len * i.size)).length = len * i.size := by have := hov.length; omega
                          rw [takeL_eq]
                          by_cases hroom : len + n ≤ m
                          · -- it finds room behind what is known
                            have hnf : ¬ ((len + n) * i.size ≤ cs.length) := fun h => by
                              have : Nat.ble (Nat.add 0 (Nat.mul (len + n) i.size)) (lenL cs) = true := Nat.ble_eq_true_of_le (by show 0 + (len + n) * i.size ≤ lenL cs; rw [lenL_eq]; omega)
                              cases (hfit.symm.trans this)
                            have hn0 : 0 < n := by
                              rcases Nat.eq_zero_or_pos n with h | h
                              · subst h; simp at hnf hol; omega
                              · exact h
                            have haa' := haa (by omega)
                            have hcap : (len + n) * i.size ≤ arr.size := by rw [harr]; exact Nat.mul_le_mul_right _ hroom
                            obtain ⟨w', arr', h1, h2, h3⟩ := storeCells_at (G := G) (w := w) (off := 0 + len * i.size) vs hb (by rw [hvl]; omega) (fz_ok hfz) hone
                            intro v H' ee
                            cases ee
                            have hfresh := hr.fresh
                            have hle' := Env.le_add (x := (b, m)) hfresh
                            have hasz : arr'.size = arr.size := by
                              have h4 := congrArg List.length h3
                              simp at h4; omega
                            refine ⟨_, w', E.add H.nx (b, m), app_room hu hxt hd hi hlo hfc0 hroom (by rw [haa', addr_add]; exact h1), ?_, .sl (Env.add_same _ _ _) haa hroom rfl⟩
                            have e3 : ∀ X, (Hp.mk H.nx.next (PT.put H.nx (PT.put l H.tab none) X)).f = upd (upd H.f l none) H.nx X := fun X => by
                              show (fun q => PT.get q _) = _
                              rw [put_upd, put_upd]; rfl
                            rw [e3]
                            refine Mv.rename hr hl e hfresh (by rw [P.toNat_next]; omega) (by rw [P.toNat_next]; omega) (Nat.le_refl _) (ob := .cells arr' ty' fz) ?_ h2.size h2.at_ h2.other h2.os h2.tape h2.out
                            refine .cells ((hov.append hvs).mono hle') (rest := arr.toList.drop (0 + len * i.size + vs.length)) ?_ (fun h => by cases h) (fun _ => by rw [hasz, harr, hco]) (by rw [hasz]; exact hfz)
                            have hpl : len * i.size ≤ pre.length := by have := hol; rw [List.length_take] at this; omega
                            rw [h3, ha, List.take_append_of_le_length (by omega)]
                            simp
                          · have hrun := app_grow (ty := ty) (news := vs) hu hxt hd hi hiz (a := some a) (sLen := len) (sCap := m) hlo (olds_run (w' := w.drew) (off := 0) rfl hb ha haa hle (by simpa using hol)) hfc1 (by omega) (by omega) (fit_bytes (by omega) (by omega) hby)
                            refine appR_newd (C := grownCap w (len + n) m ty') hr hi hzsz (hov.append hvs) (by rw [List.length_append, hol, hvl, Nat.add_mul]) (cut_ge _ _ _ _) ?_
                            rw [hrun]; congr 2; simp
                        · exact ⟨none, rfl, .none⟩
                    · exact ⟨none, rfl, .none⟩
              · exact ⟨none, rfl, .none⟩
            · exact ⟨none, rfl, .none⟩
          · exact ⟨none, rfl, .none⟩
        · exact ⟨none, rfl, .none⟩
      · exact ⟨none, rfl, .none⟩
    · exact ⟨none, rfl, .none⟩
  · exact ⟨none, rfl, .none⟩
end
end Go.Ai
