/- What the walks of package code's functions take of the world; the library's functions that they call. -/
import Derived.Test.YtnegdimhejldfaaGreatDoorShelf
import Derived.Test.YtnegdimhejldfaaGreatDoorRefLaw
import Derived.WalkKit
import Derived.WalkSpells
import Derived.Lib.SmallJoins
import Derived.Below
import Derived.Lib.AppendIntMem
import Derived.Lib.QuietBelow
import Derived.Deep.LoopGhost
import Derived.Deep.QuietTactic
import Derived.BigQuiet
import Derived.Deep.RegionHeld3
import Derived.Deep.DeepCutAuto
import Derived.RegionTactic
import Derived.OwnWalk
namespace Go.Proofs.YtnegdimhejldfaaGreatDoor.cw
open Go Go.RowKit Go.Lib Go.Proofs Go.Joins Go.Proofs.YtnegdimhejldfaaGreatDoor.dec
set_option linter.unusedVariables false
set_option maxRecDepth 100000
def Ext (w w' : World) : Prop := Below w.heap.size w w'
theorem Ext.refl (w : World) : Ext w w := Below.refl _ w
theorem Ext.trans {a b c : World} (h : Ext a b) (k : Ext b c) : Ext a c := ⟨k.os.trans h.os, k.tape.trans h.tape, k.output.trans h.output, Nat.le_trans h.size k.size, fun i hi => (k.block i (Nat.lt_of_lt_of_le hi h.size)).trans (h.block i hi)⟩
theorem Ext.alloc {a b : World} (h : Ext a b) (o : Obj) : Ext a (b.alloc o) := h.trans ((Below.refl _ b).alloc (Nat.le_refl _) o)
theorem Ext.drewN {a b : World} (h : Ext a b) (m : Nat) : Ext a (b.drewN m) := ⟨h.os, h.tape, h.output, h.size, h.block⟩
theorem Ext.drew {a b : World} (h : Ext a b) : Ext a b.drew := ⟨h.os, h.tape, h.output, h.size, h.block⟩
theorem lt_of_some {w : World} {k : Nat} {o : Obj} (e : w.heap[k]? = some o) : k < w.heap.size := (Array.getElem?_eq_some_iff.1 e).1
theorem Ext.at {a b : World} (h : Ext a b) {k : Nat} {o : Obj} (e : a.heap[k]? = some o) : b.heap[k]? = some o := (h.block k (lt_of_some e)).trans e
theorem Ext.cell {a b : World} (h : Ext a b) {x : Addr} {v : Value} (e : a.cell? x = some v) : b.cell? x = some v := by
  unfold World.cell? at e ⊢
  split at e
  · rename_i cs el fz hb
    rw [h.at hb]; exact e
  · cases e
/-- the library's variables -/
structure Ev (w : World) : Prop where
  tab : Lib.TabIs Tryz.prog w "internal/strconv.uint64pow10" .u64 Lib.pow10Tab
  spc : Lib.TabIs Tryz.prog w "strings.asciiSpace" .u8 Lib.asciiSpaceTab
  syn : ∃ tp p, w.var? Tryz.prog "strconv.ErrSyntax" = some #[.iface tp p]
  rng : ∃ tp p, w.var? Tryz.prog "strconv.ErrRange" = some #[.iface tp p]
  mx : ∃ m, w.cell? ⟨2, 0, none⟩ = some (.int .i64 m)
theorem Ev.ext {w w' : World} (h : Ev w) (e : Ext w w') : Ev w' := by
  have g : ∀ n, (∃ g, Tryz.prog.globalNamed n = some g) → ∀ cs, w.var? Tryz.prog n = some cs → w'.var? Tryz.prog n = some cs := fun n ⟨g, hg⟩ cs h => var_stays hg h e (Nat.le_refl _)
  obtain ⟨tp1, p1, h1⟩ := h.syn
  obtain ⟨tp2, p2, h2⟩ := h.rng
  obtain ⟨m, hm⟩ := h.mx
  exact ⟨tab_stays (g := 3) (by kernel_rfl) h.tab e (Nat.le_refl _), tab_stays (g := 0) (by kernel_rfl) h.spc e (Nat.le_refl _), ⟨tp1, p1, g _ ⟨4, by kernel_rfl⟩ _ h1⟩, ⟨tp2, p2, g _ ⟨5, by kernel_rfl⟩ _ h2⟩, m, e.cell hm⟩
/-! ### the library's -/
abbrev bs (l : List UInt8) : ByteArray := ⟨l.toArray⟩
theorem itoa_ok {w : World} (h : Ev w) (n : Int) (h0 : -9223372036854775808 ≤ n) (h1 : n ≤ 9223372036854775807) : Calls Tryz.prog 22 #[.int .i64 n] w fun e w' => e = .returned (.string (bs (itoa n))) ∧ Ext w w' :=
  (Tryz.strconv_Itoa n h0 h1 w h.tab).mono fun e w' ⟨he, k, os, hw⟩ => ⟨he, by rw [hw]; exact below_grow w.heap.size w (Nat.le_refl _) k os⟩
theorem cut_ok {w : World} (h : Ev w) (s : ByteArray) (hs : s.size < 4294967281) : Calls Tryz.prog 26 #[.string s, .string ⟨#[32]⟩] w fun e w' => e = .returned (.tuple #[.string (bs (cut s.data.toList [32]).1), .string (bs (cut s.data.toList [32]).2.1), .bool (cut s.data.toList [32]).2.2]) ∧ Ext w w' := by
  obtain ⟨m, hm⟩ := h.mx
  exact (Tryz.strings_Cut s ⟨#[32]⟩ m w hs hm).mono fun e w' ⟨he, n, hw⟩ => ⟨he, by rw [hw]; exact (Ext.refl w).drewN n⟩
theorem atoi_ok {w : World} (h : Ev w) (s : ByteArray) (hs : s.size ≤ 281474976710656) : Calls Tryz.prog 37 #[.string s] w fun e w' => ∃ er, e = .returned (.tuple #[.int .i64 (match atoiAll s.data.toList with | .ok v => v | .range => atoiSat s.data.toList | _ => 0), er]) ∧ (er = .nilIface ↔ ∃ v, atoiAll s.data.toList = .ok v) ∧ (er = .nilIface ∨ ∃ t x, er = .iface t (.pointer x)) ∧ Ext w w' := by
  cases ha : atoiAll s.data.toList with
  | ok v =>
    refine (Tryz.strconv_Atoi_ok s (by omega) v ha w).mono fun e w' ⟨he, hw⟩ => ⟨_, he, ⟨fun _ => ⟨v, rfl⟩, fun _ => rfl⟩, .inl rfl, ?_⟩
    rcases hw with rfl | ⟨t, rfl⟩
    · exact Ext.refl _
    · exact bytesWorld_below w 5 t
  | range =>
    obtain ⟨tp, p, hv⟩ := h.rng
    exact (Tryz.strconv_Atoi_range_var s hs ha tp p w hv).mono fun e w' ⟨n, he, _, _, hb⟩ => ⟨_, he, ⟨(fun h => by cases h), (fun ⟨v, h⟩ => by cases h)⟩, .inr ⟨_, _, rfl⟩, hb⟩
  | _ =>
    obtain ⟨tp, p, hv⟩ := h.syn
    exact (Tryz.strconv_Atoi_syntax_var s hs ha tp p w hv).mono fun e w' ⟨n, he, _, _, hb⟩ => ⟨_, he, ⟨(fun h => by cases h), (fun ⟨v, h⟩ => by cases h)⟩, .inr ⟨_, _, rfl⟩, hb⟩
/-- arith's words -/
def opsText : List UInt8 := [97, 100, 100, 32, 115, 117, 98, 32, 109, 117, 108, 32, 100, 105, 118, 32, 114, 101, 109, 32, 110, 101, 103, 32, 97, 110, 100, 32, 111, 114, 32, 120, 111, 114, 32, 115, 104, 108, 32, 115, 104, 114, 32, 117, 115, 104, 114]
theorem ops_fields : Lib.fields opsText = opers := by decide
/-- a row of texts -/
def Texts (w : World) (g : Nat) (xs : List (List UInt8)) : Prop := ∃ arr ty fz, w.heap[g]? = some (.cells arr ty fz) ∧ ∀ j, j < xs.length → arr[j]? = some (.string (bs (xs.getD j [])))
theorem Texts.ext {w w' : World} {g : Nat} {xs : List (List UInt8)} (h : Ext w w') : Texts w g xs → Texts w' g xs := fun ⟨arr, ty, fz, h1, h2⟩ => ⟨arr, ty, fz, h.at h1, h2⟩
theorem Texts.cell {w : World} {g : Nat} {xs : List (List UInt8)} (h : Texts w g xs) {j : Nat} (hj : j < xs.length) : w.cell? ⟨g, j, none⟩ = some (.string (bs (xs.getD j []))) := by
  obtain ⟨arr, ty, fz, h1, h2⟩ := h
  simp only [World.cell?, h1]
  exact h2 j hj
theorem ops_small : opsText.all (fun b => decide (b.toNat < 128)) = true := by decide
theorem fields_ok {w : World} (h : Ev w) : Calls Tryz.prog 34 #[.string (bs opsText)] w fun e w' => ∃ g, e = .returned (.slice (some ⟨g, 0, none⟩) 12 12) ∧ w.heap.size ≤ g ∧ Texts w' g opers ∧ Ext w w' := by
  refine (Tryz.strings_Fields_laid (bs opsText) w (by decide) (fun j b hj => ?_) h.spc).mono fun e w' ⟨he, hw⟩ => ?_
  · have := List.all_eq_true.1 ops_small b (List.mem_of_getElem? hj)
    simpa using this
  · have hf : Lib.fields (bs opsText).data.toList = opers := ops_fields
    rw [hf] at he hw
    refine ⟨w.heap.size, he, Nat.le_refl _, ⟨_, 9, (0, 0), by rw [hw]; exact heap_alloc_new _ _, fun j hj => ?_⟩, by rw [hw]; exact (Ext.refl w).alloc _⟩
    simp [List.getD, List.getElem?_eq_getElem hj]
theorem opers_ok {w : World} (h : Ev w) : Calls Tryz.prog 21 #[] w fun e w' => ∃ g, e = .returned (.slice (some ⟨g, 0, none⟩) 12 12) ∧ w.heap.size ≤ g ∧ Texts w' g opers ∧ Ext w w' := by
  have H : Aside (Ev w) := h
  clear h
  go_enter Tryz.func21, Tryz.ntmps21
  go_wp2_with (go_at_call 34; refine (fields_ok H.out).mono ?_; rintro e w1 ⟨g, rfl, h1, h2, h3⟩; have K : Aside (w.heap.size ≤ g ∧ Texts w1 g opers ∧ Ext w w1) := ⟨h1, h2, h3⟩; clear h1 h2 h3)
  go_ret
  exact ⟨g, rfl, K.out⟩
/-! ### the rows of instructions -/
/-- a row's three cells -/
def Tab (w : World) (g : Nat) : Prop := ∃ arr ty fz, w.heap[g]? = some (.cells arr ty fz) ∧ ∀ j, j < 47 → arr[j * 3]? = some (.string (bs (nm j))) ∧ arr[j * 3 + 1]? = some (.int .i64 (ka j : Nat)) ∧ arr[j * 3 + 2]? = some (.int .i64 (kb j : Nat))
theorem Tab.ext {w w' : World} {g : Nat} (h : Ext w w') : Tab w g → Tab w' g := fun ⟨arr, ty, fz, h1, h2⟩ => ⟨arr, ty, fz, h.at h1, h2⟩
theorem Tab.cells {w : World} {g : Nat} (h : Tab w g) {j : Nat} (hj : j < 47) : w.cell? ⟨g, j * 3, none⟩ = some (.string (bs (nm j))) ∧ w.cell? ⟨g, j * 3 + 1, none⟩ = some (.int .i64 (ka j : Nat)) ∧ w.cell? ⟨g, j * 3 + 2, none⟩ = some (.int .i64 (kb j : Nat)) := by
  obtain ⟨arr, ty, fz, h1, h2⟩ := h
  simp only [World.cell?, h1]
  exact h2 j hj
/-- what table answers (shown by the machine) -/
def TabOk : Prop := ∀ w, Ev w → Calls Tryz.prog 27 #[] w fun e w' => ∃ g c, e = .returned (.slice (some ⟨g, 0, none⟩) 47 c) ∧ 47 ≤ c ∧ w.heap.size ≤ g ∧ Tab w' g ∧ Ext w w'
theorem bcell {W w1 : World} (hb : Below W.heap.size W w1) : (∀ b o, b < W.heap.size → w1.cell? ⟨b, o, none⟩ = W.cell? ⟨b, o, none⟩) ∧ (∀ b o, b < W.heap.size → w1.frozen? ⟨b, o, none⟩ = W.frozen? ⟨b, o, none⟩) :=
  ⟨fun b o h => hb.cell (p := ⟨b, o, none⟩) h, fun b o h => hb.frozen (p := ⟨b, o, none⟩) h⟩
theorem Ext.set {w w1 : World} (h : Ext w w1) (a : Addr) (v : Value) (ha : w.heap.size ≤ a.block) : Ext w (w1.setCell a v) := Below.setCell h ha v
variable {w : World}
set_option maxHeartbeats 4000000 in
theorem of_ok (T : TabOk) (h : Ev w) (op : Nat) (hop : op < 47) : Calls Tryz.prog 20 #[.int .i64 op] w fun e w' => e = .returned (.tuple #[.agg #[.string (bs (nm op)), .int .i64 (ka op : Nat), .int .i64 (kb op : Nat)], .bool true]) ∧ Ext w w' := by
  have H : Aside (Ev w ∧ op < 47) := ⟨h, hop⟩
  have d1 : decide ((op : Int) < 0) = false := decide_eq_false (by omega)
  have d2 : decide ((op : Int) ≥ 47) = false := decide_eq_false (by omega)
  have d3 : decide ((47 : Int) ≤ (op : Int)) = false := decide_eq_false (by omega)
  have q1 : (0 : Int) ≤ op := by omega
  have q2 : (op : Int) < 47 := by omega
  clear h hop
  go_enter Tryz.func20, Tryz.ntmps20
  go_wp2_with (go_at_call 27; refine (T _ (H.out.1.ext ((Ext.refl w).alloc _))).mono ?_; rintro e w1 ⟨g, c, rfl, h1, h2, h3, h4⟩; have K : Aside (47 ≤ c ∧ w.heap.size + 1 ≤ g ∧ Tab w1 g ∧ Ext w w1) := ⟨h1, by rw [World.size_alloc] at h2; exact h2, h3, ((Ext.refl w).alloc _).trans h4⟩; obtain ⟨c1, c2, c3⟩ := h3.cells H.out.2; obtain ⟨e1, e2⟩ := bcell h4; clear h1 h2 h3 h4)
  refine bodyPost_ret (v := .tuple #[.agg #[.string (bs (nm op)), .int .i64 (ka op : Nat), .int .i64 (kb op : Nat)], .bool true]) ?_ rfl ⟨rfl, ((K.out.2.2.2.set _ _ (Nat.le_refl _)).set _ _ (Nat.le_refl _)).set _ _ (Nat.le_refl _)⟩
  simp [results, Tryz.results20, go_sem, e1]
end Go.Proofs.YtnegdimhejldfaaGreatDoor.cw
