/- gneiss/gneisslaw4.SchedInputs answers true at every input, and leaves its arguments as they were. No conditions. -/
import Derived.Test.YtmnfeljfemobkaaRows
import Derived.Test.YtmnfeljfemobkaaSchedInputsWnn
import Derived.Test.YtmnfeljfemobkaaSchedInputsWnz
import Derived.Test.YtmnfeljfemobkaaSchedInputsWns
import Derived.Test.YtmnfeljfemobkaaSchedInputsWzn
import Derived.Test.YtmnfeljfemobkaaSchedInputsWzz
import Derived.Test.YtmnfeljfemobkaaSchedInputsWzs
import Derived.Test.YtmnfeljfemobkaaSchedInputsWsn
import Derived.Test.YtmnfeljfemobkaaSchedInputsWsz
import Derived.Test.YtmnfeljfemobkaaSchedInputsWss
import Derived.WalkKit
import Derived.ProofKit
import Derived.OpenShut
import Derived.ShutString
import Derived.ChangeOld
import Derived.Below
import Derived.SizedLaws
import Derived.ChangeSlices
import Derived.Carry
namespace Go.Proofs.Ytmnfeljfemobkaa.schedInputs
open Go Go.Proofs Go.Ai Go.Proofs.Ytmnfeljfemobkaa.comp Go.ChangeShapes Go.WideShapes Go.ChangeAt Go.RowKit
set_option linter.unusedVariables false
theorem own : ownKnob Try.prog.godebug = none := by kernel_rfl
theorem laidOut : laidOutB Try.prog = true := by kernel_rfl
/-- what is told of a slice that came in -/
def IsRow (k : IntKind) (w : World) (a : Option Addr) (len cap : Nat) (zs : List Int) : Prop :=
  (a = none ∧ len = 0 ∧ cap = 0 ∧ zs = []) ∨
  ∃ x, a = some x ∧ len ≤ cap ∧ zs.length = cap ∧ (∀ i, i < zs.length → w.cell? (x.add i) = some (.int k (zs.getD i 0)))
theorem sized {H : Type} {enc : TypeId × Value → H} {P : Program} {W : World} {t e : TypeId} {a : Option Addr} {len cap : Nat} {d : DataW H} {ps : List MemPlace} {ts : List TypeId} {ds : List (DataW H)} {j : Nat}
    (hsz : (DataW.weightsEach P ts ds).all (· ≤ reachBytes) = true) (ht : ts[j]? = some t) (hd : ds[j]? = some d) (hu : P.underlying t = some (.slice e)) (he : P.underlying e = some (.int .i64)) (hc : P.cellsOf e = 1) (hB : P.bytesOf e = 8)
    (h : DataW.Trod enc P W 0 (fun _ => true) true t (.slice a len cap) d ps) : ∃ zs, IsRow .i64 W a len cap zs ∧ len * 8 ≤ 140737488351232 := by
  obtain ⟨fuel, hf⟩ := h
  rcases open_ints hu he hc hf with ⟨hcs, _⟩ | ⟨x, l, c, zs, hcs, _, hl, hm, hz, hx, hcell, _⟩
  · simp [Value.cells] at hcs
    obtain ⟨rfl, rfl, rfl⟩ := hcs
    exact ⟨[], .inl ⟨rfl, rfl, rfl, rfl⟩, by simp⟩
  · simp [Value.cells] at hcs
    obtain ⟨rfl, rfl, rfl⟩ := hcs
    have hz : zs.length = cap := by simpa using hz
    refine ⟨zs, .inr ⟨_, rfl, hl, hz, hcell⟩, ?_⟩
    obtain ⟨hx, _⟩ := Prod.mk.inj hx
    subst hx
    have z := sized_slice hsz ht hd hu
    rw [hB] at z
    have h1 : (lits (H := H) .i64 (zs.take len)).length + (lits (H := H) .i64 (zs.drop len)).length = zs.length := by
      simp [lits]
      omega
    rw [h1, hz] at z
    exact Nat.le_trans (Nat.mul_le_mul_right _ hl) z
/-! ### what the numbers are -/
def sg (x0 x1 : Addr) (n0 n1 : Nat) (z0 z1 : List Int) (p : Int) (i : Nat) : Int := if i = 2 then p else if i = 1200 then 2 else if i = 1300 then x0.block else if i = 1301 then x1.block else if i = 1400 then x0.off else if i = 1401 then x1.off else if i = 1500 then n0 else if i = 1501 then n1 else if 2000 ≤ i then (if (i - 2000) % 64 = 0 then z0.getD ((i - 2000) / 64) 0 else z1.getD ((i - 2000) / 64) 0) else 0
theorem sg0 (x0 x1 : Addr) (n0 n1 : Nat) (z0 z1 : List Int) (p : Int) (j : Nat) : sg x0 x1 n0 n1 z0 z1 p (gix 0 j) = z0.getD j 0 := by
  unfold sg gix
  rw [if_neg (by omega), if_neg (by omega), if_neg (by omega), if_neg (by omega), if_neg (by omega), if_neg (by omega), if_neg (by omega), if_neg (by omega), if_pos (by omega), if_pos (by omega)]
  congr 1
  omega
theorem sg1 (x0 x1 : Addr) (n0 n1 : Nat) (z0 z1 : List Int) (p : Int) (j : Nat) : sg x0 x1 n0 n1 z0 z1 p (gix 1 j) = z1.getD j 0 := by
  unfold sg gix
  rw [if_neg (by omega), if_neg (by omega), if_neg (by omega), if_neg (by omega), if_neg (by omega), if_neg (by omega), if_neg (by omega), if_neg (by omega), if_pos (by omega), if_neg (by omega)]
  congr 1
  omega
theorem cell_open {w : World} {a : Addr} {v : Value} (h : w.cell? a = some v) : ∃ arr ty fz, w.heap[a.block]? = some (.cells arr ty fz) ∧ arr[a.off]? = some v ∧ a.spot = none := by
  unfold World.cell? at h
  split at h
  · rename_i arr ty fz hb
    split at h
    · cases h
    · rename_i hs
      refine ⟨arr, ty, fz, hb, h, ?_⟩
      cases e : a.spot with
      | none => rfl
      | some s => rw [e] at hs; exact absurd rfl hs
  · cases h
theorem add_block (x : Addr) (i : Nat) : (x.add i).block = x.block := by unfold Addr.add; split <;> rfl
theorem add_off (x : Addr) (i : Nat) : (x.add i).off = x.off + i := by
  unfold Addr.add
  split
  · rename_i h; subst h; rfl
  · rfl
theorem add_spot0 (x : Addr) : (x.add 0) = x := by unfold Addr.add; rw [if_pos rfl]
/-- the cells of a slice, as they are told -/
def Cells (w : World) (x : Addr) (n : Nat) (z : List Int) : Prop := ∀ j, j < n → w.cell? (x.add j) = some (.int .i64 (z.getD j 0))
theorem xok {w : World} {x0 x1 : Addr} {n0 n1 : Nat} {z0 z1 : List Int} (p : Int) (h0 : Cells w x0 n0 z0) (h1 : Cells w x1 n1 z1) : XOk w (sg x0 x1 n0 n1 z0 z1 p) := by
  refine ⟨(fun e => by have e : (0 : Int) = 1 := e; omega), fun a ha j hj => ?_⟩
  have ha : (a : Int) < 2 := ha
  rcases (by omega : a = 0 ∨ a = 1) with rfl | rfl
  · have hj : (j : Int) < (n0 : Int) := hj
    obtain ⟨arr, ty, fz, k1, k2, _⟩ := cell_open (h0 j (by omega))
    rw [add_block] at k1
    rw [add_off] at k2
    exact ⟨arr, ty, fz, k1, by rw [sg0]; exact k2⟩
  · have hj : (j : Int) < (n1 : Int) := hj
    obtain ⟨arr, ty, fz, k1, k2, _⟩ := cell_open (h1 j (by omega))
    rw [add_block] at k1
    rw [add_off] at k2
    exact ⟨arr, ty, fz, k1, by rw [sg1]; exact k2⟩
theorem addr_of {w : World} {x : Addr} {n : Nat} {z : List Int} (h : Cells w x n z) (hn : 0 < n) : x = ⟨((x.block : Nat) : Int).toNat, ((x.off : Nat) : Int).toNat + 0, none⟩ := by
  obtain ⟨_, _, _, _, _, h3⟩ := cell_open (h 0 hn)
  rw [add_spot0] at h3
  obtain ⟨b, o, s⟩ := x
  have h3 : s = none := h3
  subst h3
  rfl
theorem gl_ok (w : World) : GlOk gl w := GlOk.none (fun _ => rfl)
/-! ### the walk: by the abstract machine -/
theorem walk (a0 : Option Addr) (len0 cap0 : Nat) (z0 : List Int) (a1 : Option Addr) (len1 cap1 : Nat) (z1 : List Int) (a2 : Int) (w : World) (w0 : IsRow .i64 w a0 len0 cap0 z0) (y0 : len0 * 8 ≤ 140737488351232) (w1 : IsRow .i64 w a1 len1 cap1 z1) (y1 : len1 * 8 ≤ 140737488351232) :
    Calls Try.prog 3 #[.slice a0 len0 cap0, .slice a1 len1 cap1, .int .i64 a2] w fun e w' => e = .returned (.bool true) ∧ Below w.heap.size w w' := by
  haveI : GlOk gl w := gl_ok w
  have c0 : ∀ {a : Option Addr} {len cap : Nat} {z : List Int}, IsRow .i64 w a len cap z → (a = none ∧ len = 0 ∧ cap = 0) ∨ (∃ x, a = some x ∧ len = 0) ∨ ∃ x, a = some x ∧ 0 < len ∧ len ≤ cap ∧ Cells w x len z := by
    intro a len cap z h
    rcases h with ⟨h1, h2, h3, _⟩ | ⟨x, h1, h2, h3, h4⟩
    · exact .inl ⟨h1, h2, h3⟩
    · by_cases hl : len = 0
      · exact .inr (.inl ⟨x, h1, hl⟩)
      · exact .inr (.inr ⟨x, h1, by omega, h2, fun j hj => h4 j (by omega)⟩)
  have none_ : ∀ (x : Addr) (z : List Int), Cells w x 0 z := fun x z j hj => absurd hj (Nat.not_lt_zero j)
  rcases c0 w0 with ⟨rfl, rfl, rfl⟩ | ⟨x0, rfl, rfl⟩ | ⟨x0, rfl, l0, e0, d0⟩
  · rcases c0 w1 with ⟨rfl, rfl, rfl⟩ | ⟨x1, rfl, rfl⟩ | ⟨x1, rfl, l1, e1, d1⟩
    · exact nn.calls (sg (Addr.mk 0 0 none) (Addr.mk 0 0 none) 0 0 z0 z1 a2) rfl a2 rfl (cfOk (rw := []) (cm := []) (iv := nn.ivE) rn cn (ic ⟨Int.le_refl 0, Int.le_refl 0⟩ (ic ⟨Int.le_refl 0, Int.le_refl 0⟩ (ic ⟨Int.le_refl 0, Int.le_refl 0⟩ (ic ⟨Int.le_refl 0, Int.le_refl 0⟩ (ic ⟨Int.le_refl 0, Int.le_refl 0⟩ (ic ⟨Int.le_refl 0, Int.le_refl 0⟩ (ic ⟨Int.le_refl 0, Int.le_refl 0⟩ (ic ⟨Int.le_refl 0, Int.le_refl 0⟩ (ic ⟨Int.le_refl 0, Int.le_refl 0⟩ (ic ⟨Int.le_refl 0, Int.le_refl 0⟩ inl))))))))))) (xok a2 (none_ _ _) (none_ _ _))
    · exact nz.calls (sg (Addr.mk 0 0 none) x1 0 0 z0 z1 a2) rfl x1 cap1 a2 rfl (cfOk (rw := []) (cm := []) (iv := nz.ivE) rn cn (ic ⟨Int.le_refl 0, Int.le_refl 0⟩ (ic ⟨Int.le_refl 0, Int.le_refl 0⟩ (ic ⟨Int.le_refl 0, Int.le_refl 0⟩ (ic ⟨Int.le_refl 0, Int.le_refl 0⟩ (ic ⟨Int.le_refl 0, Int.le_refl 0⟩ (ic ⟨Int.le_refl 0, Int.le_refl 0⟩ (ic ⟨Int.le_refl 0, Int.le_refl 0⟩ (ic ⟨Int.le_refl 0, Int.le_refl 0⟩ (ic ⟨Int.le_refl 0, Int.le_refl 0⟩ (ic ⟨Int.le_refl 0, Int.le_refl 0⟩ inl))))))))))) (xok a2 (none_ _ _) (none_ _ _))
    · exact ns.calls (sg (Addr.mk 0 0 none) x1 0 len1 z0 z1 a2) rfl x1 len1 cap1 rfl (fun h => addr_of d1 h) e1 a2 rfl (cfOk (rw := []) (cm := []) (iv := ns.ivE) rn cn (ic ⟨Int.le_refl 0, Int.le_refl 0⟩ (ic ⟨by show (1 : Int) ≤ ((len1 : Nat) : Int); omega, by show ((len1 : Nat) : Int) ≤ 17592186044416; omega⟩ (ic ⟨Int.le_refl 0, Int.le_refl 0⟩ (ic ⟨Int.le_refl 0, Int.le_refl 0⟩ (ic ⟨Int.le_refl 0, Int.le_refl 0⟩ (ic ⟨Int.le_refl 0, Int.le_refl 0⟩ (ic ⟨Int.le_refl 0, Int.le_refl 0⟩ (ic ⟨Int.le_refl 0, Int.le_refl 0⟩ (ic ⟨Int.le_refl 0, Int.le_refl 0⟩ (ic ⟨Int.le_refl 0, Int.le_refl 0⟩ inl))))))))))) (xok a2 (none_ _ _) d1)
  · rcases c0 w1 with ⟨rfl, rfl, rfl⟩ | ⟨x1, rfl, rfl⟩ | ⟨x1, rfl, l1, e1, d1⟩
    · exact zn.calls (sg x0 (Addr.mk 0 0 none) 0 0 z0 z1 a2) rfl x0 cap0 a2 rfl (cfOk (rw := []) (cm := []) (iv := zn.ivE) rn cn (ic ⟨Int.le_refl 0, Int.le_refl 0⟩ (ic ⟨Int.le_refl 0, Int.le_refl 0⟩ (ic ⟨Int.le_refl 0, Int.le_refl 0⟩ (ic ⟨Int.le_refl 0, Int.le_refl 0⟩ (ic ⟨Int.le_refl 0, Int.le_refl 0⟩ (ic ⟨Int.le_refl 0, Int.le_refl 0⟩ (ic ⟨Int.le_refl 0, Int.le_refl 0⟩ (ic ⟨Int.le_refl 0, Int.le_refl 0⟩ (ic ⟨Int.le_refl 0, Int.le_refl 0⟩ (ic ⟨Int.le_refl 0, Int.le_refl 0⟩ inl))))))))))) (xok a2 (none_ _ _) (none_ _ _))
    · exact zz.calls (sg x0 x1 0 0 z0 z1 a2) rfl x0 cap0 x1 cap1 a2 rfl (cfOk (rw := []) (cm := []) (iv := zz.ivE) rn cn (ic ⟨Int.le_refl 0, Int.le_refl 0⟩ (ic ⟨Int.le_refl 0, Int.le_refl 0⟩ (ic ⟨Int.le_refl 0, Int.le_refl 0⟩ (ic ⟨Int.le_refl 0, Int.le_refl 0⟩ (ic ⟨Int.le_refl 0, Int.le_refl 0⟩ (ic ⟨Int.le_refl 0, Int.le_refl 0⟩ (ic ⟨Int.le_refl 0, Int.le_refl 0⟩ (ic ⟨Int.le_refl 0, Int.le_refl 0⟩ (ic ⟨Int.le_refl 0, Int.le_refl 0⟩ (ic ⟨Int.le_refl 0, Int.le_refl 0⟩ inl))))))))))) (xok a2 (none_ _ _) (none_ _ _))
    · exact zs.calls (sg x0 x1 0 len1 z0 z1 a2) rfl x0 cap0 x1 len1 cap1 rfl (fun h => addr_of d1 h) e1 a2 rfl (cfOk (rw := []) (cm := []) (iv := zs.ivE) rn cn (ic ⟨Int.le_refl 0, Int.le_refl 0⟩ (ic ⟨by show (1 : Int) ≤ ((len1 : Nat) : Int); omega, by show ((len1 : Nat) : Int) ≤ 17592186044416; omega⟩ (ic ⟨Int.le_refl 0, Int.le_refl 0⟩ (ic ⟨Int.le_refl 0, Int.le_refl 0⟩ (ic ⟨Int.le_refl 0, Int.le_refl 0⟩ (ic ⟨Int.le_refl 0, Int.le_refl 0⟩ (ic ⟨Int.le_refl 0, Int.le_refl 0⟩ (ic ⟨Int.le_refl 0, Int.le_refl 0⟩ (ic ⟨Int.le_refl 0, Int.le_refl 0⟩ (ic ⟨Int.le_refl 0, Int.le_refl 0⟩ inl))))))))))) (xok a2 (none_ _ _) d1)
  · rcases c0 w1 with ⟨rfl, rfl, rfl⟩ | ⟨x1, rfl, rfl⟩ | ⟨x1, rfl, l1, e1, d1⟩
    · exact sn.calls (sg x0 (Addr.mk 0 0 none) len0 0 z0 z1 a2) rfl x0 len0 cap0 rfl (fun h => addr_of d0 h) e0 a2 rfl (cfOk (rw := []) (cm := []) (iv := sn.ivE) rn cn (ic ⟨by show (1 : Int) ≤ ((len0 : Nat) : Int); omega, by show ((len0 : Nat) : Int) ≤ 17592186044416; omega⟩ (ic ⟨Int.le_refl 0, Int.le_refl 0⟩ (ic ⟨Int.le_refl 0, Int.le_refl 0⟩ (ic ⟨Int.le_refl 0, Int.le_refl 0⟩ (ic ⟨Int.le_refl 0, Int.le_refl 0⟩ (ic ⟨Int.le_refl 0, Int.le_refl 0⟩ (ic ⟨Int.le_refl 0, Int.le_refl 0⟩ (ic ⟨Int.le_refl 0, Int.le_refl 0⟩ (ic ⟨Int.le_refl 0, Int.le_refl 0⟩ (ic ⟨Int.le_refl 0, Int.le_refl 0⟩ inl))))))))))) (xok a2 d0 (none_ _ _))
    · exact sz.calls (sg x0 x1 len0 0 z0 z1 a2) rfl x0 len0 cap0 rfl (fun h => addr_of d0 h) e0 x1 cap1 a2 rfl (cfOk (rw := []) (cm := []) (iv := sz.ivE) rn cn (ic ⟨by show (1 : Int) ≤ ((len0 : Nat) : Int); omega, by show ((len0 : Nat) : Int) ≤ 17592186044416; omega⟩ (ic ⟨Int.le_refl 0, Int.le_refl 0⟩ (ic ⟨Int.le_refl 0, Int.le_refl 0⟩ (ic ⟨Int.le_refl 0, Int.le_refl 0⟩ (ic ⟨Int.le_refl 0, Int.le_refl 0⟩ (ic ⟨Int.le_refl 0, Int.le_refl 0⟩ (ic ⟨Int.le_refl 0, Int.le_refl 0⟩ (ic ⟨Int.le_refl 0, Int.le_refl 0⟩ (ic ⟨Int.le_refl 0, Int.le_refl 0⟩ (ic ⟨Int.le_refl 0, Int.le_refl 0⟩ inl))))))))))) (xok a2 d0 (none_ _ _))
    · exact ss.calls (sg x0 x1 len0 len1 z0 z1 a2) rfl x0 len0 cap0 rfl (fun h => addr_of d0 h) e0 x1 len1 cap1 rfl (fun h => addr_of d1 h) e1 a2 rfl (cfOk (rw := []) (cm := []) (iv := ss.ivE) rn cn (ic ⟨by show (1 : Int) ≤ ((len0 : Nat) : Int); omega, by show ((len0 : Nat) : Int) ≤ 17592186044416; omega⟩ (ic ⟨by show (1 : Int) ≤ ((len1 : Nat) : Int); omega, by show ((len1 : Nat) : Int) ≤ 17592186044416; omega⟩ (ic ⟨Int.le_refl 0, Int.le_refl 0⟩ (ic ⟨Int.le_refl 0, Int.le_refl 0⟩ (ic ⟨Int.le_refl 0, Int.le_refl 0⟩ (ic ⟨Int.le_refl 0, Int.le_refl 0⟩ (ic ⟨Int.le_refl 0, Int.le_refl 0⟩ (ic ⟨Int.le_refl 0, Int.le_refl 0⟩ (ic ⟨Int.le_refl 0, Int.le_refl 0⟩ (ic ⟨Int.le_refl 0, Int.le_refl 0⟩ inl))))))))))) (xok a2 d0 d1)
set_option maxRecDepth 100000 in
theorem lifted (os : Os) (started : os.Started) (H : Type) (enc : TypeId × Value → H) :
    ReturnsInHanded {} Try.checked os 3 .any (Rows.schedInputsSpec.pre6 enc Try.prog Try.f3 Rows.schedInputsRow.domain false) (Rows.schedInputsSpec.post enc Try.prog Try.f3 false true false false) := by
  refine returnsInHanded_of_change_sized (C := Try.checked) own started (by kernel_rfl) Try.func3
    (ChangeSpec.witness6 (enc := enc) (C := Try.checked) false ⟨#[], #[.slice none 0 0, .slice none 0 0, .int .i64 0], []⟩ 8 (by kernel_rfl) (by kernel_rfl) (by kernel_rfl) (by kernel_rfl)) ?_
  intro W base args ds gs before hval0 hW hcnd hsz0 _
  have hsz : (DataW.weightsEach Try.prog (Try.f3.params.toList ++ Rows.schedInputsSpec.plain.varTypes Try.prog) (ds ++ gs)).all (· ≤ reachBytes) = true := hsz0
  have hval : ∀ (j : Nat) t v, Try.f3.params[j]? = some t → args[j]? = some v → Value.okWide Try.prog W .any base t v := hval0
  have hW' := hW
  obtain ⟨p, q, hA0, hV, rfl, hfz, hnd⟩ := hW
  have hA : DataW.TrodAll enc Try.prog W 0 (fun _ => true) true Try.f3.params.toList args.toList ds p := hA0
  rw [Try.params3] at hA hval hsz
  obtain ⟨v0, vs0, d0, ds0, p0, q0, hargs, rfl, rfl, h0, r0⟩ := trodAll_cons hA
  obtain ⟨v1, vs1, d1, ds1, p1, q1, rfl, rfl, rfl, h1, r1⟩ := trodAll_cons r0
  obtain ⟨v2, vs2, d2, ds2, p2, q2, rfl, rfl, rfl, h2, r2⟩ := trodAll_cons r1
  obtain ⟨rfl, rfl, rfl⟩ := trodAll_nil r2
  obtain rfl : args = #[v0, v1, v2] := by cases args; simp_all
  obtain ⟨rfl, rfl⟩ := trodVars_none hV
  obtain ⟨a0, len0, cap0, rfl⟩ := okWide_slice Try.underlying22 (hval 0 22 v0 rfl rfl)
  have k0 := h0
  have lt0 : ∀ x ∈ p0, x.block < W.heap.size := by obtain ⟨m, hm⟩ := k0; exact DataW.trod_lt m _ _ _ hm
  obtain ⟨z0, w0, y0⟩ := sized hsz (j := 0) (t := 22) rfl rfl Try.underlying22 Try.underlying3 (by kernel_rfl) (by kernel_rfl) h0
  obtain ⟨a1, len1, cap1, rfl⟩ := okWide_slice Try.underlying22 (hval 1 22 v1 rfl rfl)
  have k1 := h1
  have lt1 : ∀ x ∈ p1, x.block < W.heap.size := by obtain ⟨m, hm⟩ := k1; exact DataW.trod_lt m _ _ _ hm
  obtain ⟨z1, w1, y1⟩ := sized hsz (j := 1) (t := 22) rfl rfl Try.underlying22 Try.underlying3 (by kernel_rfl) (by kernel_rfl) h1
  obtain ⟨a2, rfl, rfl, rfl, w2⟩ := open_int Try.underlying3 (hval 2 3 v2 rfl rfl) h2
  clear hA0 hval0 hsz0 hsz
  refine (walk a0 len0 cap0 z0 a1 len1 cap1 z1 a2 W w0 y0 w1 y1).mono fun e W' ⟨he, bel⟩ => ?_
  subst he
  exact ⟨_, rfl, _, _, _, [], _, [], hW', trodAll_mk1 (shut_bool Try.underlying4 _), (trodAll_cons_mk (Below.trod laidOut (by kernel_rfl) (of_decide_eq_true (by kernel_rfl)) k0 bel lt0) (trodAll_cons_mk (Below.trod laidOut (by kernel_rfl) (of_decide_eq_true (by kernel_rfl)) k1 bel lt1) (trodAll_cons_mk (shut_int Try.underlying3 w2) trodAll_mk0))), rfl, bel.frame _, fun h => by cases h⟩
theorem over : Rows.schedInputsRow.holds Try.pinned (OpenSpec.ofChange Rows.schedInputsSpec) :=
  OpenClaim.holds_of_wide 3 Try.f3 rfl rfl rfl rfl rfl rfl rfl ⟨rfl, rfl, rfl, rfl, rfl⟩ rfl rfl rfl rfl rfl (by kernel_rfl) Try.func3 (by kernel_rfl)
    (of_decide_eq_true (by kernel_rfl)) (by unfold Func.isWrapper; first | (rw [if_pos (by decide +kernel)]; kernel_rfl) | (rw [if_neg (by decide +kernel)]; exact ⟨rfl, rfl⟩))
    (fun os started H enc _ => lifted os started H enc)
theorem proved : Rows.SchedInputsSaid := over
#print axioms proved
end Go.Proofs.Ytmnfeljfemobkaa.schedInputs
