/- What package strings' Builder asks for (pointers without a type, cap, unsafe.SliceData, unsafe.String), and entries without a body. -/
import Derived.Test.YtfedjkcigdgcoaaGreatDoorAiLi
import Derived.Lib.UnsafeStr
import Derived.Lib.Builder
import Derived.Lib.Bytealg
import Derived.Lib.MakeNoZero
import Derived.Laws.Externs
import Derived.ProofKit
namespace Go.Ai
open Go Go.RowKit
set_option linter.unusedVariables false
section
variable {G : Program} {W0 : World} {E : Env} {nx : Nat} {w : World} {cf : Cf}
/-! pointers without a type -/
noncomputable def unsO (G : Program) (tab : PT AObj) (src dst : TypeId) (x : AV) : Option AV := match x with
  | .ptr l off => match PT.get l tab with
    | some (.cells cs ty opn) => match Nat.ble (Nat.succ off) (lenL cs) with
      | true => match G.underlying src, G.underlying dst with
        | some (.pointer t), some .unsafePointer => match szO G t with
          | some n => match Nat.beq n 0 with
            | false => some (.ptr l off)
            | true => none
          | none => none
        | some .unsafePointer, some (.pointer u) => match opn with
          | false => match szO G u with
            | some _ => match liesAt G G.depth ty (Nat.div (lenL cs) (G.cellsOf ty)) off u 1 with
              | true => some (.ptr l off)
              | false => none
            | none => none
          | true => none
        | _, _ => none
      | false => none
    | _ => none
  | _ => none
theorem shape_of {b : Nat} {arr : Array Value} {ty : TypeId} {fz : Nat × Nat} (hb : w.heap[b]? = some (.cells arr ty fz)) : w.shape? b = some (ty, arr.size) := by simp [World.shape?, hb]
theorem szO_info {t : TypeId} {n : Nat} (h : szO G t = some n) : ∃ j, G.info? t = some j ∧ j.size = n := by
  unfold szO at h
  split at h
  · rename_i i hi; cases h; exact ⟨i, hi, rfl⟩
  · cases h
theorem unsO_ok {H : Hp} (hr : HR G W0 E H.f nx w) {src dst : TypeId} {x v : AV} {x' : Value} (hx : VR E x x') (h : unsO G H.tab src dst x = some v) : ∃ z, (convert src dst x').run G w = .ok z w ∧ VR E v z := by
  unfold unsO at h
  split at h
  · rename_i l off
    split at h
    · rename_i cs ty opn hg
      obtain ⟨b, c, arr, fz, pre, rest, e, hge, hb, hv, ha, hop, _⟩ := hr.row (l := l) hg
      cases hx with
      | ptr e' =>
        rw [e] at e'; cases e'
        split at h
        · rename_i hoff
          have hoff := Nat.le_of_ble_eq_true hoff
          rw [lenL_eq, hv.length] at hoff
          have hsz : arr.size = pre.length + rest.length := by rw [← Array.length_toList, ha, List.length_append]
          split at h
          · rename_i t h1 h2
            split at h
            · rename_i n hn
              split at h
              · rename_i h0
                cases h
                obtain ⟨j, hj, hjs⟩ := szO_info hn
                refine ⟨_, Lib.run_to_unsafe w ⟨b, off, none⟩ h1 h2 hj (by rw [hjs]; intro e0; subst e0; cases h0) (shape_of hb) (by show off < arr.size; omega), .ptr e⟩
              · cases h
            · cases h
          · rename_i u h1 h2
            split at h
            · split at h
              · rename_i n hn
                split at h
                · rename_i hl
                  cases h
                  obtain ⟨j, hj, _⟩ := szO_info hn
                  have hrest := hop rfl
                  have : arr.size = lenL cs := by rw [hsz, hrest, lenL_eq, hv.length]; simp
                  exact ⟨_, Lib.run_from_unsafe w ⟨b, off, none⟩ h1 h2 hj (shape_of hb) (by rw [this]; exact hl), .ptr e⟩
                · cases h
              · cases h
            · cases h
          · cases h
        · cases h
    · cases h
  · cases h
/-! cap -/
noncomputable def capO' (G : Program) (t : TypeId) (x : AV) : Option AV := match G.underlying t with
  | some (.slice _) => match x with
    | .sl0 => some (.int .i64 (.lit (.ofNat 0)))
    | .sl _ _ _ (.ex n) => some (.int .i64 (.lit (.ofNat n)))
    | _ => none
  | _ => none
theorem capO'_ok {t ty : TypeId} {x v : AV} {x' : Value} (hx : VR E x x') (h : capO' G t x = some v) : ∃ z, (Builtin.cap_ #[t] ty #[x']).run G w = .ok z w ∧ VR E v z := by
  unfold capO' at h
  split at h
  · rename_i e hu
    split at h
    · cases h; cases hx
      exact ⟨_, by simp [Builtin.cap_, run_underlying hu], lit_vr 0⟩
    · rename_i l off len n
      cases h
      cases hx with
      | sl e1 ha hl hc =>
        have hc : _ = n := hc
        subst hc
        exact ⟨_, by simp [Builtin.cap_, run_underlying hu], lit_vr _⟩
    · cases h
  · cases h
/-! unsafe.SliceData -/
def sdO (x : AV) : Option AV := match x with
  | .sl0 => some .ptr0
  | .sl l off (_ + 1) _ => some (.ptr l off)
  | _ => none
theorem sdO_ok {ts : Array TypeId} {ty : TypeId} {x v : AV} {x' : Value} (hx : VR E x x') (h : sdO x = some v) : ∃ z, (Builtin.unsafeSliceData_ ts ty #[x']).run G w = .ok z w ∧ VR E v z := by
  unfold sdO at h
  split at h
  · cases h; cases hx
    exact ⟨_, Lib.run_unsafeSliceData_nil w ts ty 0 0, .ptr0⟩
  · cases h
    cases hx with
    | sl e1 ha hl hc =>
      rename_i b c n
      have hn : 0 < n := by omega
      have := ha hn
      subst this
      exact ⟨_, Lib.run_unsafeSliceData_row w ts ty _ _ n (by omega), .ptr e1⟩
  · cases h
/-! a block of ours is turned, and forgotten -/
theorem Mv.kill {H : P → Option AObj} {w' : World} (h : HR G W0 E H nx w) {l : P} {o0 : AObj} {b c : Nat} (hl : H l = some o0) (hb : E.ρ l = some (b, c))
    (hs : w'.heap.size = w.heap.size) (hel : ∀ k, k ≠ b → w'.heap[k]? = w.heap[k]?) (hos : w'.os = w.os) (ht : w'.tape = w.tape) (hp : w'.output = w.output) :
    Mv G W0 E H nx w E (upd H l none) nx w' := by
  obtain ⟨b0, c0, ob0, e0, hge, _, _⟩ := h.obj l o0 hl
  rw [hb] at e0; cases e0
  have old : ∀ q o', upd H l none q = some o' → q ≠ l ∧ H q = some o' := by
    intro q o' e
    by_cases hq : q = l
    · subst hq; rw [upd_same] at e; cases e
    · rw [upd_other _ _ hq] at e; exact ⟨hq, e⟩
  refine ⟨Env.le.refl E, ⟨?_, h.dom, ?_, ?_⟩, Nat.le_refl _, by omega, ?_, ?_, fun _ _ e => .inl e⟩
  · exact h.below.trans ⟨hos, ht, hp, by omega, fun k hk => hel k (by omega)⟩
  · intro q o' e
    obtain ⟨hq, e'⟩ := old q o' e
    obtain ⟨b', c', ob', e1, e2, e3, e4⟩ := h.obj q o' e'
    refine ⟨b', c', ob', e1, e2, ?_, e4⟩
    rw [hel b' (fun hbb => hq (by subst hbb; exact h.inj _ _ _ _ _ _ _ e' hl e1 hb))]
    exact e3
  · intro q q' o1 o2 b' c1 c2 e1 e2 e3 e4
    exact h.inj _ _ _ _ _ _ _ (old _ _ e1).2 (old _ _ e2).2 e3 e4
  · intro k hk hno
    exact hel k (fun e => hno l o0 c hl (by rw [e]; exact hb))
  · intro q o' b' c' e1 e2
    exact .inr ⟨q, o', c', (old _ _ e1).2, e2⟩
/-! unsafe.String: the bytes; the row is not looked at any more -/
noncomputable def ustrK {R : Type} (cf : Cf) (G : Program) (pt : TypeId) (p n : AV) (H : Hp) (K : Option (AV × Hp) → R) : R := match n with
  | .int .i64 (.lit (.ofNat m)) => match m with
    | 0 => match p with
      | .ptr0 => K (some (.str [], H))
      | .ptr _ _ => K (some (.str [], H))
      | _ => K none
    | k + 1 => match p with
      | .ptr l 0 => match PT.get l H.tab with
        | some (.cells cs ty _) => match G.underlying pt with
          | some (.pointer e) => match Nat.beq e ty, Nat.beq (G.cellsOf e) 1, Nat.ble (k + 1) (lenL cs), Nat.ble (k + 1) 1000000 with
            | true, true, true, true => match bytesOf cf (takeL (k + 1) cs) with
              | some bs => PT.putK l H.tab none (fun t => K (some (.str bs, ⟨H.nx, t⟩)))
              | none => K none
            | _, _, _, _ => K none
          | _ => K none
        | _ => K none
      | _ => K none
  | _ => K none
theorem byte_list (hcf : cf.ok E.σ) : ∀ {l : List AV} {vs : List Value} {bs : List SI}, VRs E l vs → bytesOf cf l = some bs → ∃ us : List UInt8, vs = us.map (fun b => Value.int .u8 b.toNat) ∧ us.map (fun b => (b.toNat : Int)) = bs.map (SI.ev E.σ)
  | [], _, _, .nil, h => by cases h; exact ⟨[], rfl, rfl⟩
  | a :: l, _, bs, .cons ha hs, h => by
    obtain ⟨c, cs, hc, hcs, rfl⟩ := mapO_cons _ _ _ h
    unfold byteA at hc
    split at hc
    · rename_i e
      split at hc
      · rename_i hbo
        cases hc
        cases ha with
        | int =>
          obtain ⟨us, h1, h2⟩ := byte_list hcf hs hcs
          have := byteOk_ok hcf hbo
          refine ⟨UInt8.ofNat (c.ev E.σ).toNat :: us, ?_, ?_⟩
          · rw [h1, List.map_cons, this]
          · rw [List.map_cons, this, h2]; rfl
      · cases hc
    · cases hc
theorem freeze_same (w : World) (b n : Nat) : (w.freeze ⟨b, 0, none⟩ n).heap.size = w.heap.size ∧ (∀ k, k ≠ b → (w.freeze ⟨b, 0, none⟩ n).heap[k]? = w.heap[k]?) ∧ (w.freeze ⟨b, 0, none⟩ n).os = w.os ∧ (w.freeze ⟨b, 0, none⟩ n).tape = w.tape ∧ (w.freeze ⟨b, 0, none⟩ n).output = w.output := by
  unfold World.freeze
  split
  · exact ⟨rfl, fun _ _ => rfl, rfl, rfl, rfl⟩
  · exact ⟨by simp, fun k hk => by simp only [Array.getElem?_modify]; rw [if_neg (fun e => hk e.symm)], rfl, rfl, rfl⟩
theorem ustrK_ok {R : Type} (hcf : cf.ok E.σ) {H : Hp} (hr : HR G W0 E H.f H.nx.toNat w) {pt it ty : TypeId} {p n : AV} {p' n' : Value} (hp : VR E p p') (hn : VR E n n') (K : Option (AV × Hp) → R) :
    ∃ r, ustrK cf G pt p n H K = K r ∧ AppR G W0 E H w r (Builtin.unsafeString_ #[pt, it] ty #[p', n']) := by
  unfold ustrK
  split
  · rename_i m
    cases hn with
    | int =>
      split
      · have hz : VR E (.str []) (.string .empty) := .str rfl
        split
        · cases hp
          refine ⟨_, rfl, fun v H' e => ?_⟩
          cases e
          exact ⟨_, w, E, Lib.run_unsafeString_none w pt it ty none, Mv.refl hr, hz⟩
        · cases hp
          refine ⟨_, rfl, fun v H' e => ?_⟩
          cases e
          exact ⟨_, w, E, Lib.run_unsafeString_none w pt it ty _, Mv.refl hr, hz⟩
        · exact ⟨none, rfl, .none⟩
      · rename_i k
        split
        · rename_i l
          split
          · rename_i cs ty' opn hg
            split
            · rename_i e hu
              split
              · rename_i h1 h2 h3 h4
                have h1 := Nat.eq_of_beq_eq_true h1
                have h2 := Nat.eq_of_beq_eq_true h2
                have h3 := Nat.le_of_ble_eq_true h3
                have h4 := Nat.le_of_ble_eq_true h4
                subst h1
                split
                · rename_i bs hbs
                  refine ⟨_, PT.putK_eq _ _ _ _, fun v H' ee => ?_⟩
                  cases ee
                  obtain ⟨b, c, arr, fz, pre, rest, e0, hge, hb, hv, ha, hop, _⟩ := hr.row (l := l) hg
                  cases hp with
                  | ptr e' =>
                    rw [e0] at e'; cases e'
                    rw [lenL_eq] at h3
                    rw [takeL_eq] at hbs
                    obtain ⟨us, hu1, hu2⟩ := byte_list hcf (hv.take (k + 1)) hbs
                    have hlen : us.length = k + 1 := by
                      have := congrArg List.length hu1
                      rw [List.length_take, List.length_map] at this
                      have := hv.length
                      omega
                    have hsz : arr.size = pre.length + rest.length := by rw [← Array.length_toList, ha, List.length_append]
                    have hrun := Lib.run_unsafeString_row (P := G) w pt it ty e hu h2 b arr.size (shape_of hb) us (by intro e0; rw [e0] at hlen; cases hlen) (by have := hv.length; omega) (by omega) (fun j x hj => by
                      have hj' : pre[j]? = some (.int .u8 x.toNat) := by
                        have h5 : (pre.take (k + 1))[j]? = some (.int .u8 x.toNat) := by rw [hu1, List.getElem?_map, hj]; rfl
                        rw [List.getElem?_take] at h5
                        split at h5
                        · exact h5
                        · cases h5
                      have := cell_of hb ha hj'
                      rw [addr_add, Nat.zero_add]
                      exact this)
                    rw [hlen] at hrun
                    obtain ⟨f1, f2, f3, f4, f5⟩ := freeze_same w b (k + 1)
                    refine ⟨_, _, E, hrun, ?_, .str (by simpa using hu2)⟩
                    rw [put_f]
                    exact Mv.kill hr hg e0 f1 f2 f3 f4 f5
                · exact ⟨none, rfl, .none⟩
              · exact ⟨none, rfl, .none⟩
            · exact ⟨none, rfl, .none⟩
          · exact ⟨none, rfl, .none⟩
        · exact ⟨none, rfl, .none⟩
  · exact ⟨none, rfl, .none⟩
/-! entries without a body -/
theorem look_empty : Extern.allNextRows.lookup "" = none := by kernel_rfl
theorem look_noEscape : Extern.allGenericRows.lookup "internal/abi.NoEscape" = none ∧ Extern.allTypedRows.lookup "internal/abi.NoEscape" = none ∧ Extern.allNextRows.lookup "internal/abi.NoEscape" = none ∧ Extern.allRows.lookup "internal/abi.NoEscape" = some Extern.AbiNoEscape.same := by
  refine ⟨?_, ?_, ?_, ?_⟩ <;> kernel_rfl
theorem look_index : Extern.allGenericRows.lookup "internal/bytealg.IndexByteString" = none ∧ Extern.allTypedRows.lookup "internal/bytealg.IndexByteString" = none ∧ Extern.allNextRows.lookup "internal/bytealg.IndexByteString" = none ∧ Extern.allRows.lookup "internal/bytealg.IndexByteString" = some Extern.BytealgIndexByte.indexByte := by
  refine ⟨?_, ?_, ?_, ?_⟩ <;> kernel_rfl
theorem look_count : Extern.allGenericRows.lookup "internal/bytealg.CountString" = none ∧ Extern.allTypedRows.lookup "internal/bytealg.CountString" = none ∧ Extern.allNextRows.lookup "internal/bytealg.CountString" = none ∧ Extern.allRows.lookup "internal/bytealg.CountString" = some Extern.BytealgCount.count := by
  refine ⟨?_, ?_, ?_, ?_⟩ <;> kernel_rfl
theorem look_mnz : Extern.allGenericRows.lookup "internal/bytealg.MakeNoZero" = none ∧ Extern.allTypedRows.lookup "internal/bytealg.MakeNoZero" = some Extern.BytealgMakeNoZero.makeNoZero ∧ Extern.allNextRows.lookup "internal/bytealg.MakeNoZero" = none := by
  refine ⟨?_, ?_, ?_⟩ <;> kernel_rfl
def isN (fn : Func) (nm : String) : Bool := fn.name == nm && fn.origin == "" && fn.body.isNone
theorem isN_ok {fn : Func} {nm : String} (h : isN fn nm = true) : fn.name = nm ∧ fn.origin = "" ∧ fn.body.isNone = true := by
  simp only [isN, Bool.and_eq_true, beq_iff_eq] at h
  exact ⟨h.1.1, h.1.2, h.2⟩
theorem run_ext {f : FuncId} {fn : Func} {e : Array Value → Sem Value} {nm : String} (hf : G.funcs[f]? = some fn) (hi : isN fn nm = true) (hne : (nm == "runtime.NumGoroutine") = false) (hn : Extern.findNext fn = none) (he : Extern.find fn = some e) (args : Array Value) {z : Value} {w' : World} (hr : (e args).run G w = .ok z w') :
    (callFunc f args).run G w = .ok (.value z) w' := by
  obtain ⟨h1, h2, h3⟩ := isN_ok hi
  rw [run_callFunc_extern hf (by rw [h1]; exact hne) h3 hn he, hr]; rfl
/-- the bytes of a string that is written out -/
noncomputable def natsO (s : List SI) : Option (List Nat) := mapO (fun e => match e with | .lit (.ofNat n) => (match Nat.ble n 255 with | true => some n | false => none) | _ => none) s
theorem natsO_ok {σ : Nat → Int} : ∀ {s : List SI} {ns : List Nat} {us : List UInt8}, natsO s = some ns → us.map (fun b => (b.toNat : Int)) = s.map (SI.ev σ) → us.map UInt8.toNat = ns
  | [], ns, us, h, hu => by cases h; cases us with | nil => rfl | cons a us => simp at hu
  | e :: s, ns, us, h, hu => by
    obtain ⟨b, bs, h1, h2, rfl⟩ := mapO_cons _ _ _ h
    cases us with
    | nil => simp at hu
    | cons a us =>
      simp only [List.map_cons, List.cons.injEq] at hu
      split at h1
      · split at h1
        · cases h1
          rw [List.map_cons, natsO_ok h2 hu.2]
          have := hu.1
          simp only [SI.ev, Int.ofNat_eq_natCast] at this
          congr 1
          exact_mod_cast this
        · cases h1
      · cases h1
noncomputable def idxN (c : Nat) (ns : List Nat) : Nat → Option Nat := List.rec (fun _ => none) (fun a _ ih i => Bool.rec (ih (Nat.succ i)) (some i) (Nat.beq a c)) ns
noncomputable def cntN (c : Nat) (ns : List Nat) : Nat := List.rec 0 (fun a _ ih => Bool.rec ih (Nat.succ ih) (Nat.beq a c)) ns
theorem u8_beq (a c : UInt8) : (a == c) = Nat.beq a.toNat c.toNat := by
  rw [beqN, Bool.eq_iff_iff, beq_iff_eq, decide_eq_true_iff]
  exact ⟨fun h => by rw [h], fun h => UInt8.toNat_inj.1 h⟩
theorem idxN_ok (c : UInt8) : ∀ (us : List UInt8) (i : Nat), (idxN c.toNat (us.map UInt8.toNat) i = none ∧ Lib.indexByte us c = -1) ∨ ∃ j : Nat, idxN c.toNat (us.map UInt8.toNat) i = some (i + j) ∧ Lib.indexByte us c = j
  | [], i => .inl ⟨rfl, rfl⟩
  | a :: us, i => by
    have e : idxN c.toNat ((a :: us).map UInt8.toNat) i = (Bool.rec (idxN c.toNat (us.map UInt8.toNat) (i + 1)) (some i) (Nat.beq a.toNat c.toNat) : Option Nat) := rfl
    rw [e, ← u8_beq]
    unfold Lib.indexByte
    cases hb : (a == c) with
    | true => exact .inr ⟨0, rfl, rfl⟩
    | false =>
      rcases idxN_ok c us (i + 1) with ⟨h1, h2⟩ | ⟨j, h1, h2⟩
      · left
        refine ⟨h1, ?_⟩
        rw [h2]; rfl
      · right
        refine ⟨j + 1, ?_, ?_⟩
        · show idxN c.toNat (us.map UInt8.toNat) (i + 1) = _
          rw [h1]; congr 1; omega
        · rw [h2]
          have : ((j : Int) == -1) = false := by rw [beq_eq_false_iff_ne]; omega
          rw [this]; simp
theorem cntN_ok (c : UInt8) : ∀ (us : List UInt8), cntN c.toNat (us.map UInt8.toNat) = us.count c
  | [] => rfl
  | a :: us => by
    have e : cntN c.toNat ((a :: us).map UInt8.toNat) = (Bool.rec (cntN c.toNat (us.map UInt8.toNat)) (Nat.succ (cntN c.toNat (us.map UInt8.toNat))) (Nat.beq a.toNat c.toNat) : Nat) := rfl
    rw [e, ← u8_beq, List.count_cons, cntN_ok c us]
    cases (a == c) <;> rfl
/-- an entry that looks at no memory -/
noncomputable def extO (fn : Func) (args : List AV) : Option AV := match args with
  | [x] => match isN fn "internal/abi.NoEscape" with
    | true => some x
    | false => none
  | [.str s, .int .u8 (.lit (.ofNat c))] => match natsO s, Nat.ble c 255 with
    | some ns, true => match isN fn "internal/bytealg.IndexByteString" with
      | true => some (.int .i64 (.lit (match idxN c ns 0 with | some i => .ofNat i | none => .negSucc 0)))
      | false => match isN fn "internal/bytealg.CountString" with
        | true => some (.int .i64 (.lit (.ofNat (cntN c ns))))
        | false => none
    | _, _ => none
  | _ => none
theorem extO_ok {f : FuncId} {fn : Func} (hf : G.funcs[f]? = some fn) {args : List AV} {xs : List Value} (hx : VRs E args xs) {v : AV} (h : extO fn args = some v) : ∃ z, (callFunc f xs.toArray).run G w = .ok (.value z) w ∧ VR E v z := by
  unfold extO at h
  split at h
  · split at h
    · rename_i hi
      cases h
      cases hx with
      | cons hx hs =>
        cases hs
        obtain ⟨h1, h2, _⟩ := isN_ok hi
        obtain ⟨a, b, c, d⟩ := look_noEscape
        exact ⟨_, run_ext hf hi (by decide) (by simp [Extern.findNext, h1, h2, c, look_empty]) (by simp [Extern.find, h1, a, b, d]) _ (Lib.run_noEscape w _), hx⟩
    · cases h
  · rename_i s c
    split at h
    · rename_i ns hns hc
      have hc := Nat.le_of_ble_eq_true hc
      cases hx with
      | cons hs hx =>
        cases hx with
        | cons hc' hx =>
          cases hx
          cases hs with
          | str hs =>
            rename_i ba
            cases hc'
            have hns := natsO_ok hns hs
            have h8 : ((Int.toNat (SI.ev E.σ (.lit (.ofNat c)))).toUInt8).toNat = c := by simp [SI.ev]; omega
            split at h
            · rename_i hi
              cases h
              obtain ⟨h1, h2, _⟩ := isN_ok hi
              obtain ⟨a, b, c1, d⟩ := look_index
              refine ⟨_, run_ext hf hi (by decide) (by simp [Extern.findNext, h1, h2, c1, look_empty]) (by simp [Extern.find, h1, a, b, d]) _ (Lib.run_indexByteString ba _ w), ?_⟩
              have := idxN_ok (Int.toNat (SI.ev E.σ (.lit (.ofNat c)))).toUInt8 ba.data.toList 0
              rw [h8, hns] at this
              rcases this with ⟨h3, h4⟩ | ⟨j, h3, h4⟩
              · rw [h3, h4]; exact .int .i64 (.lit (-1))
              · rw [h3, h4, Nat.zero_add]; exact .int .i64 (.lit j)
            · split at h
              · rename_i hi
                cases h
                obtain ⟨h1, h2, _⟩ := isN_ok hi
                obtain ⟨a, b, c1, d⟩ := look_count
                refine ⟨_, run_ext hf hi (by decide) (by simp [Extern.findNext, h1, h2, c1, look_empty]) (by simp [Extern.find, h1, a, b, d]) _ (Lib.run_countString ba _ w), ?_⟩
                have := cntN_ok (Int.toNat (SI.ev E.σ (.lit (.ofNat c)))).toUInt8 ba.data.toList
                rw [h8, hns] at this
                rw [this]
                exact .int .i64 (.lit _)
              · cases h
    · cases h
  · cases h
/-- new bytes, whatever they are -/
noncomputable def mnzO (G : Program) (fn : Func) (args : List AV) : Option (AObj × (P → AV)) := match args with
  | [.int .i64 (.lit (.ofNat n))] => match isN fn "internal/bytealg.MakeNoZero", Nat.ble n 1000000 with
    | true, true => match fn.resultTypes.toList with
      | [t] => match G.underlying t with
        | some (.slice e) => match Nat.beq (G.cellsOf e) 1 with
          | true => some (.cells (repA n [.top]) e true, fun l => .sl l 0 n (.op 0))
          | false => none
        | _ => none
      | _ => none
    | _, _ => none
  | _ => none
theorem tops (E : Env) : ∀ (vs : List Value), VRs E (repA vs.length [.top]) vs
  | [] => .nil
  | v :: vs => .cons (.top v) (tops E vs)
theorem mnzO_ok {f : FuncId} {fn : Func} (hf : G.funcs[f]? = some fn) {args : List AV} {xs : List Value} (hx : VRs E args xs) {o : AObj} {mk : P → AV} (h : mnzO G fn args = some (o, mk)) :
    ∃ ob x n c, (callFunc f xs.toArray).run G w = .ok (.value x) { w with heap := w.heap.push ob, drawn := w.drawn + n } ∧ ∀ E' l, E.le E' → E'.ρ l = some (w.heap.size, c) → OR G E' c o ob ∧ VR E' (mk l) x := by
  unfold mnzO at h
  split at h
  · rename_i n
    split at h
    · rename_i hi hn
      have hn := Nat.le_of_ble_eq_true hn
      split at h
      · rename_i t ht
        split at h
        · rename_i e hu
          split at h
          · rename_i hc
            cases h
            have hc := Nat.eq_of_beq_eq_true hc
            have hts : fn.resultTypes = #[t] := by apply Array.ext'; simpa using ht
            cases hx with
            | cons hx hs =>
              cases hs
              cases hx
              obtain ⟨h1, h2, _⟩ := isN_ok hi
              obtain ⟨a, b, c1⟩ := look_mnz
              obtain ⟨cs, hrun, hle, _⟩ := Lib.run_makeNoZero (P := G) w fn.params t e hu n (by omega)
              rw [← hts] at hrun
              refine ⟨.cells cs e, _, 2, cs.size, run_ext hf hi (by decide) (by simp [Extern.findNext, h1, h2, c1, look_empty]) (by simp [Extern.find, h1, a, b]) _ hrun, fun E' l hle' he => ⟨?_, ?_⟩⟩
              · have hl : (cs.toList.take n).length = n := by rw [List.length_take, Array.length_toList]; omega
                have := tops E' (cs.toList.take n)
                rw [hl] at this
                exact .cells (pre := cs.toList.take n) (rest := cs.toList.drop n) this (List.take_append_drop n _).symm (fun h => by cases h) (fun _ => by rw [hc, Nat.mul_one]) (.inl rfl)
              · exact .sl he (fun _ => rfl) hle rfl
          · cases h
        · cases h
      · cases h
    · cases h
  · cases h
end
end Go.Ai
