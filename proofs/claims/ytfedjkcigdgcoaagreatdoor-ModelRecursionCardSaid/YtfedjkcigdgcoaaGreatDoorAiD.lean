/- What the operations that only read come to, on abstract values. -/
import Derived.Test.YtfedjkcigdgcoaaGreatDoorAiC
import Derived.Laws.Entries
namespace Go.Ai
open Go Go.RowKit
set_option linter.unusedVariables false

/-! ### operands -/
noncomputable def mapO {α β : Type} (f : α → Option β) (l : List α) : Option (List β) :=
  List.rec (some []) (fun a _ ih => Option.casesOn (f a) none (fun b => Option.casesOn ih none (fun bs => some (b :: bs)))) l
theorem mapO_cons {α β : Type} (f : α → Option β) (a : α) (l : List α) {r : List β} (h : mapO f (a :: l) = some r) : ∃ b bs, f a = some b ∧ mapO f l = some bs ∧ r = b :: bs := by
  have h' : (Option.casesOn (f a) none (fun b => Option.casesOn (mapO f l) none (fun bs => some (b :: bs))) : Option (List β)) = some r := h
  cases e : f a with
  | none => rw [e] at h'; cases h'
  | some b =>
    rw [e] at h'
    cases e2 : mapO f l with
    | none => rw [e2] at h'; cases h'
    | some bs => rw [e2] at h'; cases h'; exact ⟨b, bs, rfl, rfl, rfl⟩
def byteSI (b : UInt8) : SI := .lit b.toNat
def ofS : Value → Option AV
  | .bool b => some (.bool b)
  | .int k n => some (.int k (.lit n))
  | .string s => some (.str (s.data.toList.map byteSI))
  | .pointer none => some .ptr0
  | .slice none 0 0 => some .sl0
  | .map none => some .map0
  | .nilFunc => some .fn0
  | .nilIface => some .if0
  | .chan none => some .chan0
  | _ => none
noncomputable def ofV : Value → Option AV
  | .agg cs => (mapO ofS cs.toList).map .agg
  | .tuple cs => (mapO ofS cs.toList).map .tup
  | v => ofS v
theorem ofS_ok (E : Env) {v : Value} {a : AV} (h : ofS v = some a) : VR E a v := by
  cases v with
  | bool b => cases h; exact .bool b
  | int k n => cases h; exact .int k (.lit n)
  | string s => cases h; exact .str (by simp [byteSI, SI.ev])
  | pointer a => cases a with
    | none => cases h; exact .ptr0
    | some a => cases h
  | slice a n c =>
    cases a with
    | none =>
      cases n with
      | zero => cases c with
        | zero => cases h; exact .sl0
        | succ c => cases h
      | succ n => cases h
    | some a => cases h
  | map r => cases r with
    | none => cases h; exact .map0
    | some r => cases h
  | nilFunc => cases h; exact .fn0
  | nilIface => cases h; exact .if0
  | chan a => cases a with
    | none => cases h; exact .chan0
    | some a => cases h
  | _ => cases h
theorem mapO_ofS (E : Env) : ∀ (l : List Value) {r : List AV}, mapO ofS l = some r → VRs E r l
  | [], r, h => by cases h; exact .nil
  | v :: l, r, h => by
    obtain ⟨b, bs, h1, h2, rfl⟩ := mapO_cons _ _ _ h
    exact .cons (ofS_ok E h1) (mapO_ofS E l h2)
theorem ofV_ok (E : Env) {v : Value} {a : AV} (h : ofV v = some a) : VR E a v := by
  cases v with
  | agg cs =>
    cases e : mapO ofS cs.toList with
    | none => simp [ofV, e] at h
    | some r =>
      simp [ofV, e] at h; subst h
      have := VR.agg (mapO_ofS E _ e)
      simpa using this
  | tuple cs =>
    cases e : mapO ofS cs.toList with
    | none => simp [ofV, e] at h
    | some r =>
      simp [ofV, e] at h; subst h
      have := VR.tup (mapO_ofS E _ e)
      simpa using this
  | _ => exact ofS_ok E h
noncomputable def evO (tm : PT AV) : Operand → Option AV
  | .tmp t => PT.get (P.of t) tm
  | .const v => ofV v
  | .global g => some (.glob g 0)
  | .func f => some (.fn (.func f) [] [])
def EvR (E : Env) (ev : Operand → Option AV) (ρ : Operand → Value) : Prop := ∀ x v, ev x = some v → VR E v (ρ x)
theorem evO_ok {E : Env} {tm : PT AV} {a : Act} (h : TR E tm a.tmps) : EvR E (evO tm) a.eval := by
  intro x v e
  cases x with
  | tmp t =>
    obtain ⟨y, hy, hv⟩ := h t v e
    have : a.tmps.getD t undef = y := by simp [Array.getD_eq_getD_getElem?, hy]
    show VR E v (a.tmps.getD t undef)
    rw [this]; exact hv
  | const c => exact ofV_ok E e
  | global g => cases e; exact .glob g 0
  | func f => cases e; exact .fn (.func f) .nil .nil
theorem mapO_ev {E : Env} {ev : Operand → Option AV} {ρ : Operand → Value} (h : EvR E ev ρ) : ∀ (l : List Operand) {r : List AV}, mapO ev l = some r → VRs E r (l.map ρ)
  | [], r, e => by cases e; exact .nil
  | x :: l, r, e => by
    obtain ⟨b, bs, h1, h2, rfl⟩ := mapO_cons _ _ _ e
    exact .cons (h x b h1) (mapO_ev h l h2)

/-! ### the memory that is read -/
section
variable {G : Program} {W0 : World} {E : Env} {nx : Nat} {w : World}
theorem HR.row {H : P → Option AObj} (h : HR G W0 E H nx w) {l : P} {cs : List AV} {ty : TypeId} {opn : Bool} (hl : H l = some (.cells cs ty opn)) :
    ∃ b c arr fz pre rest, E.ρ l = some (b, c) ∧ W0.heap.size ≤ b ∧ w.heap[b]? = some (.cells arr ty fz) ∧ VRs E cs pre ∧ arr.toList = pre ++ rest ∧ (opn = false → rest = []) ∧ (opn = true → arr.size = c * G.cellsOf ty) ∧ Fz fz arr.size := by
  obtain ⟨b, c, ob, e, hge, hb, ho⟩ := h.obj _ _ hl
  cases ho with
  | cells h1 h2 h3 h4 h5 => exact ⟨b, c, _, _, _, _, e, hge, hb, h1, h2, h3, h4, h5⟩
theorem cell_of {b : Nat} {arr : Array Value} {ty : TypeId} {fz : Nat × Nat} {pre rest : List Value} (hb : w.heap[b]? = some (.cells arr ty fz)) (ha : arr.toList = pre ++ rest) {i : Nat} {v : Value} (hv : pre[i]? = some v) : w.cell? ⟨b, i, none⟩ = some v := by
  have hi : i < pre.length := (List.getElem?_eq_some_iff.1 hv).1
  have : arr[i]? = some v := by
    rw [← Array.getElem?_toList, ha, List.getElem?_append_left hi]; exact hv
  simp [World.cell?, hb, this]
theorem VRs.get' {E : Env} {as : List AV} {vs : List Value} (h : VRs E as vs) {i : Nat} {a : AV} (e : nthL as i = some a) : ∃ v, vs[i]? = some v ∧ VR E a v := h.get i (by rw [← nthL_eq]; exact e)
theorem run_underlying {t : TypeId} {d : TypeDesc} (h : G.underlying t = some d) : (underlying t).run G w = .ok d w := by simp [underlying, h]
theorem run_typeInfo {t : TypeId} {i : TypeInfo} (h : G.info? t = some i) : (typeInfo t).run G w = .ok i w := by simp [typeInfo, h]
noncomputable def szO (G : Program) (t : TypeId) : Option Nat := match G.info? t with | some i => some i.size | none => none
theorem run_sizeOf {t : TypeId} {n : Nat} (h : szO G t = some n) : (sizeOf t).run G w = .ok n w := by
  unfold szO at h
  split at h
  · rename_i i hi; cases h; simp [sizeOf, run_typeInfo hi]
  · cases h
theorem cellsOf_szO {t : TypeId} {n : Nat} (h : szO G t = some n) : G.cellsOf t = n := by
  unfold szO at h
  split at h
  · rename_i i hi; cases h; simp [Program.cellsOf, hi]
  · cases h
def aggD : TypeDesc → Bool
  | .struct _ => true
  | .array _ _ => true
  | _ => false
noncomputable def aggO (G : Program) (t : TypeId) : Option Bool := match G.underlying t with | some d => some (aggD d) | none => none
theorem run_isAgg {t : TypeId} {b : Bool} (h : aggO G t = some b) : (isAgg t).run G w = .ok b w := by
  unfold aggO at h
  split at h
  · rename_i d hd
    cases h
    simp only [isAgg, Sem.run_bind, run_underlying hd, Result.andThen_ok]
    cases d <;> rfl
  · cases h

/-! ### loads -/
noncomputable def ldA (G : Program) (t : TypeId) (cs : List AV) (off : Nat) : Option AV :=
  match aggO G t with
  | some true => match szO G t with
    | some n => match Nat.beq (lenL (takeL n (dropL off cs))) n with
      | true => some (.agg (takeL n (dropL off cs)))
      | false => none
    | none => none
  | some false => nthL cs off
  | none => none
noncomputable def rowAt (tab : PT AObj) (l : P) : Option (List AV) := match PT.get l tab with | some (.cells cs _ _) => some cs | _ => none
noncomputable def loadO (G : Program) (tab : PT AObj) (t : TypeId) (p : AV) : Option AV :=
  match p with
  | .ptr l off => match rowAt tab l with
    | some cs => ldA G t cs off
    | none => none
  | _ => none
theorem rowAt_ok {tab : PT AObj} {l : P} {cs : List AV} (h : rowAt tab l = some cs) : ∃ ty opn, PT.get l tab = some (.cells cs ty opn) := by
  unfold rowAt at h
  split at h
  · rename_i ty opn hg; cases h; exact ⟨_, _, hg⟩
  · cases h
theorem ldA_ok {t : TypeId} {cs : List AV} {off : Nat} {v : AV} {b : Nat} {arr : Array Value} {ty : TypeId} {fz : Nat × Nat} {pre rest : List Value} (hb : w.heap[b]? = some (.cells arr ty fz)) (ha : arr.toList = pre ++ rest) (hp : VRs E cs pre)
    (h : ldA G t cs off = some v) : ∃ x, (loadVar t ⟨b, off, none⟩).run G w = .ok x w ∧ VR E v x := by
  unfold ldA at h
  split at h
  · rename_i hag
    split at h
    · rename_i n hn
      split at h
      · rename_i hl
        cases h
        have hlen : ((pre.drop off).take n).length = n := by
          have h1 := ((hp.drop off).take n).length
          have h2 := Nat.eq_of_beq_eq_true hl
          rw [lenL_eq, takeL_eq, dropL_eq] at h2
          omega
        have hcells : (loadCells ⟨b, off, none⟩ n).run G w = .ok ((pre.drop off).take n).toArray w := by
          have := run_loadCells_list (P := G) (w := w) ⟨b, off, none⟩ ((pre.drop off).take n) (fun j v hj => by
            have hj' : pre[off + j]? = some v := by
              rw [List.getElem?_take] at hj
              split at hj
              · simpa using hj
              · cases hj
            have e : (⟨b, off, none⟩ : Addr).add j = ⟨b, off + j, none⟩ := by
              unfold Addr.add; split
              · simp_all
              · rfl
            rw [e]
            exact cell_of hb ha hj')
          rwa [hlen] at this
        refine ⟨_, ?_, .agg (by rw [takeL_eq, dropL_eq]; exact (hp.drop off).take n)⟩
        simp [loadVar, run_isAgg hag, run_sizeOf hn, hcells]
      · cases h
    · cases h
  · rename_i hag
    obtain ⟨x, hx, hv⟩ := hp.get' h
    exact ⟨x, by simp [loadVar, run_isAgg hag, cell_of hb ha hx], hv⟩
  · cases h
theorem loadO_ok {tab : PT AObj} (hr : HR G W0 E (fun l => PT.get l tab) nx w) {t : TypeId} {p v : AV} {y : Value} (hp : VR E p y) (h : loadO G tab t p = some v) : ∃ x, (Instr.loadAt t y).run G w = .ok x w ∧ VR E v x := by
  unfold loadO at h
  split at h
  · rename_i l off
    split at h
    · rename_i cs hcs
      obtain ⟨ty, opn, hg⟩ := rowAt_ok hcs
      obtain ⟨b, c, arr, fz, pre, rest, e, _, hb, hv, ha, _⟩ := hr.row hg
      cases hp with
      | ptr e' =>
        rw [e] at e'; cases e'
        obtain ⟨x, hx, hvx⟩ := ldA_ok (G := G) hb ha hv h
        exact ⟨x, by simp [Instr.loadAt, Instr.sureAddr, hx], hvx⟩
    · cases h
  · cases h
/-! package variables, whose contents are known -/
/-- what is said of package variables is so in the world in which the whole began -/
class GlOk (gl : Nat → Option (List AV)) (W0 : World) : Prop where
  at_ : ∀ g cs, gl g = some cs → ∃ arr ty fz, ∃ pre rest : List Value, W0.heap[g]? = some (.cells arr ty fz) ∧ arr.toList = pre ++ rest ∧ ∀ E : Env, VRs E cs pre
theorem GlOk.none {gl : Nat → Option (List AV)} {W0 : World} (h : ∀ g, gl g = none) : GlOk gl W0 := ⟨fun g cs e => by rw [h g] at e; cases e⟩
theorem GlOk.below {gl : Nat → Option (List AV)} {W0 w : World} (h : GlOk gl W0) (hb : Below W0.heap.size W0 w) : GlOk gl w := ⟨fun g cs e => by
  obtain ⟨arr, ty, fz, pre, rest, h1, h2⟩ := h.at_ g cs e
  exact ⟨arr, ty, fz, pre, rest, by rw [hb.block g (Array.getElem?_eq_some_iff.1 h1).1]; exact h1, h2⟩⟩
noncomputable def loadG (cf : Cf) (G : Program) (tab : PT AObj) (t : TypeId) (p : AV) : Option AV := match p with
  | .glob g off => match cf.gl g with
    | some cs => ldA G t cs off
    | none => none
  | p => loadO G tab t p
theorem loadG_ok {cf : Cf} [hg : GlOk cf.gl W0] {tab : PT AObj} (hr : HR G W0 E (fun l => PT.get l tab) nx w) {t : TypeId} {p v : AV} {y : Value} (hp : VR E p y) (h : loadG cf G tab t p = some v) : ∃ x, (Instr.loadAt t y).run G w = .ok x w ∧ VR E v x := by
  unfold loadG at h
  split at h
  · rename_i g off
    split at h
    · rename_i cs hcs
      obtain ⟨arr, ty, fz, pre, rest, h1, h2, h3⟩ := hg.at_ g cs hcs
      have hb : w.heap[g]? = some (.cells arr ty fz) := by rw [hr.below.block g (Array.getElem?_eq_some_iff.1 h1).1]; exact h1
      cases hp with
      | glob =>
        obtain ⟨x, hx, hvx⟩ := ldA_ok (G := G) hb h2 (h3 E) h
        exact ⟨x, by simp [Instr.loadAt, Instr.sureAddr, hx], hvx⟩
    · cases h
  · exact loadO_ok hr hp h
end
end Go.Ai
