/- The state of a Sched: what its blocks hold. -/
import Derived.Test.YtmnfeljfemobkaaFeed
namespace Go.Proofs.Ytmnfeljfemobkaa.new
open Go Go.RowKit Go.Lib Go.Conc Go.Proofs Go.Proofs.Ytmnfeljfemobkaa.lend Go.Proofs.Ytmnfeljfemobkaa.feed
set_option linter.unusedVariables false
/-- a row of numbers in a block of its own -/
def Row (w : World) (b : Nat) (zs : List Int) : Prop := ∃ cur, w.heap[b]? = some (.cells cur 3 (0, 0)) ∧ cur.size = zs.length ∧ ∀ j, j < zs.length → cur[j]? = some (.int .i64 (zs.getD j 0))
def Ext (w w' : World) : Prop := Below w.heap.size w w'
theorem Ext.refl (w : World) : Ext w w := Below.refl _ w
theorem Ext.trans {a b c : World} (h : Ext a b) (k : Ext b c) : Ext a c := ⟨k.os.trans h.os, k.tape.trans h.tape, k.output.trans h.output, Nat.le_trans h.size k.size, fun i hi => (k.block i (Nat.lt_of_lt_of_le hi h.size)).trans (h.block i hi)⟩
theorem Ext.alloc {a b : World} (h : Ext a b) (o : Obj) : Ext a (b.alloc o) := h.trans ((Below.refl _ b).alloc (Nat.le_refl _) o)
theorem Ext.drew {a b : World} (h : Ext a b) : Ext a b.drew := ⟨h.os, h.tape, h.output, h.size, h.block⟩
theorem Ext.at {a b : World} (h : Ext a b) {k : Nat} {o : Obj} (e : a.heap[k]? = some o) : b.heap[k]? = some o := (h.block k (lt_of_some e)).trans e
theorem Ext.cell {a b : World} (h : Ext a b) {x : Addr} {v : Value} (e : a.cell? x = some v) : b.cell? x = some v := by
  unfold World.cell? at e ⊢
  split at e
  · rename_i cs el fz hb
    rw [h.at hb]; exact e
  · cases e
theorem Ext.feed {a b : World} (h : Ext a b) {f ch g : Nat} {zs : List Int} : Feed a f ch g zs → Feed b f ch g zs
  | ⟨off, cap, cur, s, r, h1, h2, h3, h4, h5⟩ => ⟨off, cap, cur, s, r, h.at h1, h.at h2, h.at h3, h4, h5⟩
theorem Feed.lt {w : World} {f ch g : Nat} {zs : List Int} : Feed w f ch g zs → f < w.heap.size ∧ ch < w.heap.size ∧ g < w.heap.size
  | ⟨off, cap, cur, s, r, h1, h2, h3, h4, h5⟩ => ⟨lt_of_some h1, lt_of_some h2, lt_of_some h3⟩
theorem make_run (n : Nat) (hn : n ≤ 12) (w : World) : (Instr.makeSlice 22 (.int .i64 n) (.int .i64 n)).run Try.prog w = .ok (.slice (some ⟨w.heap.size, 0, none⟩) n n) (w.alloc (.cells (madeCells #[.int .i64 0] n) 3)) := by
  obtain ⟨i0, hi, hz0, hz1, hz2⟩ := info_parts info3
  have h := run_makeSlice (P := Try.prog) (w := w) 22 3 i0 (.int .i64 0) Try.underlying22 hi hz0 .i64 .i64 n n (by omega) (Int.le_refl _) (by rw [hz1]; simp; omega) (by rw [hz2]; omega) (by omega)
  rw [h, hz1]
  simp [Value.cells]
theorem made_get (n j : Nat) (h : j < n) : (madeCells #[Value.int .i64 0] n)[j]? = some (.int .i64 0) := by
  simp [madeCells, h, Nat.mod_one]
theorem row_made (w : World) (n : Nat) : Row (w.alloc (.cells (madeCells #[.int .i64 0] n) 3)) w.heap.size (List.replicate n 0) := by
  refine ⟨_, heap_alloc_new _ _, by simp [size_madeCells], fun j hj => ?_⟩
  simp at hj
  rw [made_get n j hj]
  simp [List.getD, hj]
theorem Ext.row {a b : World} (h : Ext a b) {k : Nat} {zs : List Int} : Row a k zs → Row b k zs
  | ⟨cur, h1, h2, h3⟩ => ⟨cur, h.at h1, h2, h3⟩
/-- the blocks of a Sched -/
structure Blk where
  S : Nat
  bs : Nat
  bp : Nat
  f1 : Nat
  ch1 : Nat
  g1 : Nat
  f2 : Nat
  ch2 : Nat
  g2 : Nat
def Blk.list (B : Blk) : List Nat := [B.S, B.bs, B.bp, B.f1, B.ch1, B.g1, B.f2, B.ch2, B.g2]
def Sched (w : World) (B : Blk) (st pk sc inp : List Int) (skips at_ : Int) : Prop :=
  w.heap[B.S]? = some (.cells #[.slice (some ⟨B.bs, 0, none⟩) st.length st.length, .slice (some ⟨B.bp, 0, none⟩) pk.length pk.length, .pointer (some ⟨B.f1, 0, none⟩), .pointer (some ⟨B.f2, 0, none⟩), .int .i64 skips, .int .i64 at_] 50 (0, 0)) ∧
  Row w B.bs st ∧ Row w B.bp pk ∧ Feed w B.f1 B.ch1 B.g1 sc ∧ Feed w B.f2 B.ch2 B.g2 inp
end Go.Proofs.Ytmnfeljfemobkaa.new
