/- The invariant of gneisslaw4.SchedSteps' loop: what a round makes of it. -/
import Derived.Test.YtmnfeljfemobkaaBad
namespace Go.Proofs.Ytmnfeljfemobkaa.new
open Go Go.RowKit Go.Lib Go.Conc Go.Proofs Go.Proofs.Ytmnfeljfemobkaa.lend Go.Proofs.Ytmnfeljfemobkaa.feed
set_option linter.unusedVariables false
/-- what stays: the numbers of the blocks -/
structure Sep (w : World) (B : Blk) (g2 bs bp : Nat) : Prop where
  ok : B.Ok
  ge : ∀ b ∈ B.list, w.heap.size ≤ b
  g : w.heap.size ≤ g2 ∧ g2 ∉ B.list ∧ g2 ≠ bs ∧ g2 ≠ bp
  s : w.heap.size ≤ bs ∧ bs ∉ B.list ∧ bs ≠ bp
  p : w.heap.size ≤ bp ∧ bp ∉ B.list
/-- what holds at a round's head, and within it: the Sched's rows st1, pk1, the law's own st2, pk2 -/
structure Rnd (w : World) (B : Blk) (n g2 bs bp : Nat) (cur2 : Array Value) (l1 l2 : List Int) (i at_ rd sk : Nat) (st1 pk1 st2 pk2 : List Int) (W : World) : Prop where
  sep : Sep w B g2 bs bp
  sch : Sched W B st1 pk1 (l1.drop at_) (l2.drop rd) sk at_
  rs : Row W bs st2
  rp : Row W bp pk2
  len : st1.length = n ∧ pk1.length = n ∧ st2.length = n ∧ pk2.length = n
  bnd : ∀ j, j < n → 0 ≤ pk2.getD j 0 ∧ pk2.getD j 0 ≤ i
  hat : at_ ≤ i ∧ at_ ≤ l1.length
  hsk : sk ≤ i
  hrd : rd ≤ l2.length
  ext : Ext w W
  y : W.heap[g2]? = some (.cells cur2 3 (0, 0))
theorem Row.at {w : World} {b : Nat} {zs : List Int} (h : Row w b zs) : b < w.heap.size := by
  obtain ⟨c, e, _⟩ := h
  exact lt_of_some e
theorem Row.alloc {w : World} {b : Nat} {zs : List Int} (h : Row w b zs) (o : Obj) : Row (w.alloc o) b zs := Ext.row ((Ext.refl w).alloc o) h
theorem Sched.alloc {w : World} {B : Blk} {st pk sc inp : List Int} {skips at_ : Int} (h : Sched w B st pk sc inp skips at_) (o : Obj) : Sched (w.alloc o) B st pk sc inp skips at_ :=
  have E := (Ext.refl w).alloc o
  ⟨E.at h.1, E.row h.2.1, E.row h.2.2.1, E.feed h.2.2.2.1, E.feed h.2.2.2.2⟩
section
variable {w W W' : World} {B : Blk} {n g2 bs bp : Nat} {cur2 : Array Value} {l1 l2 : List Int} {i at_ rd sk at' rd' sk' : Nat} {st1 pk1 st2 pk2 st' pk' : List Int}
theorem Rnd.alloc (h : Rnd w B n g2 bs bp cur2 l1 l2 i at_ rd sk st1 pk1 st2 pk2 W) (o : Obj) : Rnd w B n g2 bs bp cur2 l1 l2 i at_ rd sk st1 pk1 st2 pk2 (W.alloc o) :=
  ⟨h.sep, h.sch.alloc o, h.rs.alloc o, h.rp.alloc o, h.len, h.bnd, h.hat, h.hsk, h.hrd, h.ext.alloc o, ((Ext.refl W).alloc o).at h.y⟩
theorem Rnd.drew (h : Rnd w B n g2 bs bp cur2 l1 l2 i at_ rd sk st1 pk1 st2 pk2 W) : Rnd w B n g2 bs bp cur2 l1 l2 i at_ rd sk st1 pk1 st2 pk2 W.drew :=
  ⟨h.sep, sched_heap h.sch rfl, h.rs, h.rp, h.len, h.bnd, h.hat, h.hsk, h.hrd, h.ext.drew, h.y⟩
/-- a method of the Sched has been called -/
theorem Rnd.call (h : Rnd w B n g2 bs bp cur2 l1 l2 i at_ rd sk st1 pk1 st2 pk2 W) (hs : Same (fun k => k ∈ B.list) W W') (hsch : Sched W' B st' pk' (l1.drop at') (l2.drop rd') sk' at') (hl : st'.length = n ∧ pk'.length = n) (ha : at' ≤ i + 1 ∧ at' ≤ l1.length) (hk : sk' ≤ i + 1) (hr : rd' ≤ l2.length) :
    Rnd w B n g2 bs bp cur2 l1 l2 (i + 1) at' rd' sk' st' pk' st2 pk2 W' :=
  ⟨h.sep, hsch, h.rs.keep (hs.block bs h.rs.at h.sep.s.2.1), h.rp.keep (hs.block bp h.rp.at h.sep.p.2), ⟨hl.1, hl.2, h.len.2.2.1, h.len.2.2.2⟩, fun j hj => ⟨(h.bnd j hj).1, by have := (h.bnd j hj).2; omega⟩, ha, hk, hr, below_same h.ext hs h.sep.ge, (hs.block g2 (lt_of_some h.y) h.sep.g.2.1).trans h.y⟩
/-- the law's own row of states is written -/
theorem Rnd.putS (h : Rnd w B n g2 bs bp cur2 l1 l2 i at_ rd sk st1 pk1 st2 pk2 W) (a : Nat) (x : Int) : Rnd w B n g2 bs bp cur2 l1 l2 i at_ rd sk st1 pk1 (st2.set a x) pk2 (W.setCell ⟨bs, a, none⟩ (.int .i64 x)) := by
  have ho : ∀ k, k ≠ bs → (W.setCell ⟨bs, a, none⟩ (.int .i64 x)).heap[k]? = W.heap[k]? := fun k hk => setCell_other W bs a k _ hk
  have hn : ∀ k, k ∈ B.list → k ≠ bs := fun k hk e => h.sep.s.2.1 (e ▸ hk)
  obtain ⟨s1, s2, s3, s4, s5⟩ := h.sch
  refine ⟨h.sep, ⟨(ho _ (hn _ (by simp [Blk.list]))).trans s1, s2.keep (ho _ (hn _ (by simp [Blk.list]))), s3.keep (ho _ (hn _ (by simp [Blk.list]))), fkeep s4 (ho _ (hn _ (by simp [Blk.list]))) (ho _ (hn _ (by simp [Blk.list]))) (ho _ (hn _ (by simp [Blk.list]))), fkeep s5 (ho _ (hn _ (by simp [Blk.list]))) (ho _ (hn _ (by simp [Blk.list]))) (ho _ (hn _ (by simp [Blk.list])))⟩, h.rs.put x, h.rp.keep (ho _ (Ne.symm h.sep.s.2.2)), ⟨h.len.1, h.len.2.1, by simpa using h.len.2.2.1, h.len.2.2.2⟩, h.bnd, h.hat, h.hsk, h.hrd, ?_, (ho _ h.sep.g.2.2.1).trans h.y⟩
  exact ⟨h.ext.os, h.ext.tape, h.ext.output, by rw [setCell_size]; exact h.ext.size, fun k hk => (ho k (by have := h.sep.s.1; omega)).trans (h.ext.block k hk)⟩
/-- the law's own row of picks is written -/
theorem Rnd.putP (h : Rnd w B n g2 bs bp cur2 l1 l2 i at_ rd sk st1 pk1 st2 pk2 W) (a : Nat) (x : Int) (hx : 0 ≤ x ∧ x ≤ i) : Rnd w B n g2 bs bp cur2 l1 l2 i at_ rd sk st1 pk1 st2 (pk2.set a x) (W.setCell ⟨bp, a, none⟩ (.int .i64 x)) := by
  have ho : ∀ k, k ≠ bp → (W.setCell ⟨bp, a, none⟩ (.int .i64 x)).heap[k]? = W.heap[k]? := fun k hk => setCell_other W bp a k _ hk
  have hn : ∀ k, k ∈ B.list → k ≠ bp := fun k hk e => h.sep.p.2 (e ▸ hk)
  obtain ⟨s1, s2, s3, s4, s5⟩ := h.sch
  refine ⟨h.sep, ⟨(ho _ (hn _ (by simp [Blk.list]))).trans s1, s2.keep (ho _ (hn _ (by simp [Blk.list]))), s3.keep (ho _ (hn _ (by simp [Blk.list]))), fkeep s4 (ho _ (hn _ (by simp [Blk.list]))) (ho _ (hn _ (by simp [Blk.list]))) (ho _ (hn _ (by simp [Blk.list]))), fkeep s5 (ho _ (hn _ (by simp [Blk.list]))) (ho _ (hn _ (by simp [Blk.list]))) (ho _ (hn _ (by simp [Blk.list])))⟩, h.rs.keep (ho _ h.sep.s.2.2), h.rp.put x, ⟨h.len.1, h.len.2.1, h.len.2.2.1, by simpa using h.len.2.2.2⟩, fun j hj => ?_, h.hat, h.hsk, h.hrd, ?_, (ho _ h.sep.g.2.2.2).trans h.y⟩
  · by_cases e : a = j
    · subst e
      have : a < pk2.length := by rw [h.len.2.2.2]; exact hj
      simp [List.getD, List.getElem?_set_self this]
      omega
    · simp only [List.getD, List.getElem?_set_ne e]
      exact h.bnd j hj
  · exact ⟨h.ext.os, h.ext.tape, h.ext.output, by rw [setCell_size]; exact h.ext.size, fun k hk => (ho k (by have := h.sep.p.1; omega)).trans (h.ext.block k hk)⟩
/-- nothing is changed but the count of rounds -/
theorem Rnd.on (h : Rnd w B n g2 bs bp cur2 l1 l2 i at_ rd sk st1 pk1 st2 pk2 W) : Rnd w B n g2 bs bp cur2 l1 l2 (i + 1) at_ rd sk st1 pk1 st2 pk2 W :=
  ⟨h.sep, h.sch, h.rs, h.rp, h.len, fun j hj => ⟨(h.bnd j hj).1, by have := (h.bnd j hj).2; omega⟩, ⟨by have := h.hat.1; omega, h.hat.2⟩, by have := h.hsk; omega, h.hrd, h.ext, h.y⟩
theorem getD_set_self {l : List Int} {a : Nat} {x : Int} (h : a < l.length) : (l.set a x).getD a 0 = x := by simp [List.getD, List.getElem?_set_self h]
end
/-- the caller's row of steps -/
structure InSteps (w : World) (A : Option Addr) (n : Nat) (ks : Nat → Int × Int × Int) : Prop where
  nil : A = none → n = 0
  big : n ≤ 9223372036854775807
  cell : ∀ ad, A = some ad → ∀ j, j < n → w.cell? (ad.add (j * 3)) = some (.int .i64 (ks j).1) ∧ w.cell? ⟨(ad.add (j * 3)).block, (ad.add (j * 3)).off + 1, none⟩ = some (.int .i64 (ks j).2.1) ∧ w.cell? ⟨(ad.add (j * 3)).block, (ad.add (j * 3)).off + 2, none⟩ = some (.int .i64 (ks j).2.2)
end Go.Proofs.Ytmnfeljfemobkaa.new
