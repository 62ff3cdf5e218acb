/- gneisslaw4.SchedSteps where the number of agents may be: a walk. -/
import Derived.Test.YtmnfeljfemobkaaInv
import Derived.Deep.DeepCutAuto
import Derived.RegionTactic
namespace Go.Proofs.Ytmnfeljfemobkaa.new
open Go Go.RowKit Go.Lib Go.Conc Go.Proofs Go.Proofs.Ytmnfeljfemobkaa.lend Go.Proofs.Ytmnfeljfemobkaa.feed
set_option linter.unusedVariables false
set_option maxRecDepth 100000
theorem lent_cells {w : World} {g n cap : Nat} {cur : Array Value} {zs : List Int} (hz : zs.length = n) (hb : w.heap[g]? = some (.cells cur 3 (0, 0))) (hcur : cur.toList.take (n + 2) = zs.map (Value.int .i64) ++ [.int .i64 (-7777), .int .i64 (-8888)]) : ∀ j, j < n → w.cell? ((⟨g, 0, none⟩ : Addr).add j) = some (.int .i64 (zs.getD j 0)) := by
  intro j hj
  rw [add_plain]
  have e : cur.toList[j]? = some (.int .i64 (zs.getD j 0)) := by
    have := congrArg (fun l => l[j]?) hcur
    simp only [List.getElem?_take, show j < n + 2 by omega, if_true] at this
    rw [this, List.getElem?_append_left (by simp; omega)]
    simp [List.getD, show j < zs.length by omega]
  simp only [World.cell?, hb, Nat.zero_add]
  simpa using e
set_option maxHeartbeats 2000000 in
theorem spoil' (g n cap : Nat) (cur : Array Value) (w0 w : World) (hb : w.heap[g]? = some (.cells cur 3 (0, 0))) (hn : n ≤ cur.size) (hi : ∀ j, j < n → ∃ x, cur[j]? = some (.int .i64 x)) (hbig : n * 8 ≤ 140737488355328) :
    Calls Try.prog 13 #[.slice (some ⟨g, 0, none⟩) n cap] w fun e w' => e = .returned (.tuple #[]) ∧ Same (fun k => k = g) w w' := by
  have B : Aside (w.heap[g]? = some (.cells cur 3 (0, 0)) ∧ n ≤ cur.size ∧ ∀ j, j < n → ∃ x, cur[j]? = some (.int .i64 x)) := ⟨hb, hn, hi⟩
  clear hb hn hi
  go_enter Try.func13, Try.ntmps13
  go_wp2
  go_loopg [2] n (fun k v2 w' => ∃ i : Nat, v2 = .int .i64 i ∧ Aside (i + k = n) ∧ Aside (Same (fun k => k = g) w w' ∧ ∃ cur', w'.heap[g]? = some (.cells cur' 3 (0, 0)) ∧ n ≤ cur'.size ∧ ∀ j, j < n → ∃ x, cur'[j]? = some (.int .i64 x)))
  case atStart => exact ⟨0, rfl, by simp [Aside], Same.refl _ _, cur, B.out⟩
  case round =>
    obtain ⟨i, rfl, hk, hs⟩ := hrel
    obtain ⟨hs1, cur', hs3, hs4, hs5⟩ := hs.out
    clear hs
    by_cases hin : i < n
    · have hd : decide ((i : Int) < (n : Int)) = true := decide_eq_true (by omega)
      obtain ⟨x, hx⟩ := hs5 i hin
      have hc : wr.cell? ⟨g, i, none⟩ = some (.int .i64 x) := by simp [World.cell?, hs3, hx]
      have hf : wr.frozen? ⟨g, i, none⟩ = false := by simp [World.frozen?, hs3]
      have hp : (0 : Int) ≤ i := by omega
      have hp2 : (i : Int) < n := by omega
      have hin' := Aside.out (p := i < n) hin
      clear hin
      have S1 : Aside (Same (fun k => k = g) w wr ∧ wr.heap[g]? = some (.cells cur' 3 (0, 0)) ∧ n ≤ cur'.size ∧ ∀ j, j < n → ∃ x, cur'[j]? = some (.int .i64 x)) := ⟨hs1, hs3, hs4, hs5⟩
      clear hs1 hs3 hs4 hs5 hx
      go_wp2
      go_roundg (gk - 1)
      case measure => have := hk.out; omega
      case rel =>
        have h0 := hk.out
        obtain ⟨h1, h3, h4, h5⟩ := S1.out
        refine ⟨i + 1, by simp, by show i + 1 + (gk - 1) = n; omega, sstep h1 (same_set wr g i _) (fun _ h => h), cur'.setIfInBounds i (.int .i64 (wrap64 (-9 - x))), setCell_at wr g i _ h3, by simpa using h4, fun j hj => ?_⟩
        by_cases e : i = j
        · subst e
          exact ⟨_, by simp [show i < cur'.size by omega]; rfl⟩
        · rw [Array.getElem?_setIfInBounds_ne e]; exact h5 j hj
    · have hd : decide ((i : Int) < (n : Int)) = false := decide_eq_false (by omega)
      have S1 : Aside (Same (fun k => k = g) w wr) := hs1
      clear hs1 hs3 hs4 hs5
      go_wp2
      go_end0
      exact ⟨rfl, S1.out⟩
theorem zero_row (n j : Nat) : (List.replicate n (0 : Int)).getD j 0 = 0 := by
  simp only [List.getD, List.getElem?_replicate]
  split <;> rfl
theorem made_both (w : World) (n : Nat) : Ext w ((w.alloc (.cells (madeCells #[.int .i64 0] n) 3)).alloc (.cells (madeCells #[.int .i64 0] n) 3)).drew ∧ Row ((w.alloc (.cells (madeCells #[.int .i64 0] n) 3)).alloc (.cells (madeCells #[.int .i64 0] n) 3)).drew w.heap.size (List.replicate n 0) ∧ Row ((w.alloc (.cells (madeCells #[.int .i64 0] n) 3)).alloc (.cells (madeCells #[.int .i64 0] n) 3)).drew (w.heap.size + 1) (List.replicate n 0) := by
  have E := (((Ext.refl w).alloc (.cells (madeCells #[.int .i64 0] n) 3)).alloc (.cells (madeCells #[.int .i64 0] n) 3)).drew
  refine ⟨E, ?_, ?_⟩
  · exact Ext.row ((Ext.refl (w.alloc (.cells (madeCells #[.int .i64 0] n) 3))).alloc (.cells (madeCells #[.int .i64 0] n) 3)).drew (row_made w n)
  · have h := row_made (w.alloc (.cells (madeCells #[.int .i64 0] n) 3)) n
    rw [World.size_alloc] at h
    exact h
def Made (w : World) (n b1 b2 : Nat) (W : World) : Prop := Aside (w.heap.size ≤ b1 ∧ w.heap.size ≤ b2 ∧ b1 ≠ b2 ∧ b1 < W.heap.size ∧ b2 < W.heap.size ∧ Ext w W ∧ Row W b1 (List.replicate n 0) ∧ Row W b2 (List.replicate n 0))
theorem made1 (w : World) (n : Nat) : Made w n w.heap.size (w.heap.size + 1) ((w.alloc (.cells (madeCells #[.int .i64 0] n) 3)).alloc (.cells (madeCells #[.int .i64 0] n) 3)).drew :=
  have h := made_both w n
  ⟨Nat.le_refl _, Nat.le_succ _, by omega, h.2.1.at, h.2.2.at, h.1, h.2.1, h.2.2⟩
theorem made2 (w : World) (n : Nat) : Made w n (w.heap.size + 1) w.heap.size ((w.alloc (.cells (madeCells #[.int .i64 0] n) 3)).alloc (.cells (madeCells #[.int .i64 0] n) 3)).drew :=
  have h := made_both w n
  ⟨Nat.le_succ _, Nat.le_refl _, by omega, h.2.2.at, h.2.1.at, h.1, h.2.2, h.2.1⟩
theorem Ext.drewN {a b : World} (h : Ext a b) (m : Nat) : Ext a (b.drewN m) := ⟨h.os, h.tape, h.output, h.size, h.block⟩
theorem Sched.keepAll {w w' : World} {B : Blk} {st pk sc inp : List Int} {skips at_ : Int} (h : Sched w B st pk sc inp skips at_) (e : ∀ k, k ∈ B.list → w'.heap[k]? = w.heap[k]?) : Sched w' B st pk sc inp skips at_ := by
  obtain ⟨s1, s2, s3, s4, s5⟩ := h
  exact ⟨(e _ (by simp [Blk.list])).trans s1, s2.keep (e _ (by simp [Blk.list])), s3.keep (e _ (by simp [Blk.list])), fkeep s4 (e _ (by simp [Blk.list])) (e _ (by simp [Blk.list])) (e _ (by simp [Blk.list])), fkeep s5 (e _ (by simp [Blk.list])) (e _ (by simp [Blk.list])) (e _ (by simp [Blk.list]))⟩
theorem Sched.ltAll {w : World} {B : Blk} {st pk sc inp : List Int} {skips at_ : Int} (h : Sched w B st pk sc inp skips at_) : ∀ k, k ∈ B.list → k < w.heap.size := by
  obtain ⟨s1, s2, s3, s4, s5⟩ := h
  have f4 := Feed.lt s4
  have f5 := Feed.lt s5
  intro k hk
  simp only [Blk.list, List.mem_cons, List.not_mem_nil, or_false] at hk
  rcases hk with rfl | rfl | rfl | rfl | rfl | rfl | rfl | rfl | rfl
  · exact lt_of_some s1
  · exact s2.at
  · exact s3.at
  · exact f4.1
  · exact f4.2.1
  · exact f4.2.2
  · exact f5.1
  · exact f5.2.1
  · exact f5.2.2
theorem first_rnd {w w1 w2 w3 w4 wc : World} {B : Blk} {n g1 g2 bs bp : Nat} {cur1 cur2 : Array Value} {l1 l2 : List Int} (a1 : w.heap.size ≤ g1) (a2 : w1.heap[g1]? = some (.cells cur1 3 (0, 0))) (a3 : Ext w w1) (b1 : w1.heap.size ≤ g2) (b2 : w2.heap[g2]? = some (.cells cur2 3 (0, 0))) (b3 : Ext w1 w2)
    (c1 : Sched w3 B (List.replicate n 0) (List.replicate n 0) l1 l2 0 0) (c2 : B.Ok) (c3 : ∀ b ∈ B.list, w2.heap.size ≤ b) (c4 : Ext w2 w3) (d : Same (fun k => k = g1) w3 w4) (m : Made w4 n bs bp wc) :
    Rnd w B n g2 bs bp cur2 l1 l2 0 0 0 0 (List.replicate n 0) (List.replicate n 0) (List.replicate n 0) (List.replicate n 0) wc := by
  obtain ⟨m1, m2, m3, m4, m5, m6, m7, m8⟩ := m.out
  have z1 := lt_of_some a2
  have z2 := lt_of_some b2
  have z3 := c4.size
  have z4 := d.size
  have z5 := a3.size
  have z6 := b3.size
  have lt3 := c1.ltAll
  have k4 : ∀ k, k ∈ B.list → w4.heap[k]? = w3.heap[k]? := fun k hk => d.block k (lt3 k hk) (by have := c3 k hk; show ¬ k = g1; omega)
  have E0 : Ext w w4 := by
    have e := (a3.trans b3).trans c4
    exact ⟨d.os.trans e.os, d.tape.trans e.tape, d.output.trans e.output, Nat.le_trans e.size d.size, fun k hk => (d.block k (Nat.lt_of_lt_of_le hk e.size) (by show ¬ k = g1; omega)).trans (e.block k hk)⟩
  have s4 : Sched w4 B (List.replicate n 0) (List.replicate n 0) l1 l2 0 0 := c1.keepAll k4
  have s5 : Sched wc B (List.replicate n 0) (List.replicate n 0) l1 l2 0 0 := s4.keepAll (fun k hk => m6.block k (s4.ltAll k hk))
  refine ⟨⟨c2, fun b hb => Nat.le_trans (by omega) (c3 b hb), ⟨by omega, fun h => by have := c3 _ h; omega, by omega, by omega⟩, ⟨by omega, fun h => by have := s4.ltAll _ h; omega, m3⟩, ⟨by omega, fun h => by have := s4.ltAll _ h; omega⟩⟩, s5, m7, m8, by simp, fun j hj => by rw [zero_row]; omega, by simp, Nat.le_refl _, Nat.zero_le _, E0.trans m6, ?_⟩
  refine (m6.block g2 (by omega)).trans ((d.block g2 (by omega) (by show ¬ g2 = g1; omega)).trans (c4.at b2))
set_option maxHeartbeats 20000000 in
theorem steps_ok (n : Nat) (A1 A2 A3 : Option Addr) (n1 c1 n2 c2 n3 c3 : Nat) (l1 l2 : List Int) (ks : Nat → Int × Int × Int) (w : World) (hn : 1 ≤ n ∧ n ≤ 12) (h1 : InRow w A1 n1 c1 l1) (h2 : InRow w A2 n2 c2 l2) (h3 : InSteps w A3 n3 ks) :
    Calls Try.prog 4 #[.int .i64 n, .slice A1 n1 c1, .slice A2 n2 c2, .slice A3 n3 c3] w fun e w' => e = .returned (.bool true) ∧ Below w.heap.size w w' := by
  have H : Aside (InRow w A1 n1 c1 l1 ∧ InRow w A2 n2 c2 l2 ∧ InSteps w A3 n3 ks ∧ 1 ≤ n ∧ n ≤ 12) := ⟨h1, h2, h3, hn⟩
  have hd : decide ((n : Int) < 1) = false := decide_eq_false (by omega)
  have hd2 : decide ((n : Int) > 12) = false := decide_eq_false (by omega)
  have hd3 : decide (12 < (n : Int)) = false := decide_eq_false (by omega)
  clear h1 h2 h3 hn
  go_enter Try.func4, Try.ntmps4
  go_wp2_with fail
  go_at_call 12
  refine (lend A1 n1 c1 l1 _ H.out.1.nil H.out.1.len H.out.1.big H.out.1.cell).mono ?_
  rintro e w1 ⟨g1, cap1, cur1, rfl, p1, p2, p3, p4, p5, p6⟩
  have L1 : Aside (w.heap.size ≤ g1 ∧ w1.heap[g1]? = some (.cells cur1 3 (0, 0)) ∧ n1 + 2 ≤ cap1 ∧ cur1.size = cap1 ∧ cur1.toList.take (n1 + 2) = l1.map (Value.int .i64) ++ [.int .i64 (-7777), .int .i64 (-8888)] ∧ Ext w w1) := ⟨p1, p2, p3, p4, p5, p6⟩
  clear p1 p2 p3 p4 p5 p6
  go_wp2_with fail
  go_at_call 12
  refine (lend A2 n2 c2 l2 _ H.out.2.1.nil H.out.2.1.len H.out.2.1.big (H.out.2.1.ext L1.out.2.2.2.2.2).cell).mono ?_
  rintro e w2 ⟨g2, cap2, cur2, rfl, p1, p2, p3, p4, p5, p6⟩
  have L2 : Aside (w1.heap.size ≤ g2 ∧ w2.heap[g2]? = some (.cells cur2 3 (0, 0)) ∧ n2 + 2 ≤ cap2 ∧ cur2.size = cap2 ∧ cur2.toList.take (n2 + 2) = l2.map (Value.int .i64) ++ [.int .i64 (-7777), .int .i64 (-8888)] ∧ Ext w1 w2) := ⟨p1, p2, p3, p4, p5, p6⟩
  clear p1 p2 p3 p4 p5 p6
  go_wp2_with fail
  go_at_call 8
  refine (new n ⟨g1, 0, none⟩ ⟨g2, 0, none⟩ n1 cap1 n2 cap2 l1 l2 _ H.out.2.2.2 H.out.1.len H.out.2.1.len (by have := H.out.1.big; omega) (by have := H.out.2.1.big; omega) (fun j hj => L2.out.2.2.2.2.2.cell (lent_cells (cap := cap1) H.out.1.len L1.out.2.1 L1.out.2.2.2.2.1 j hj)) (lent_cells (cap := cap2) H.out.2.1.len L2.out.2.1 L2.out.2.2.2.2.1)).mono ?_
  rintro e w3 ⟨B, rfl, p1, p2, p3, p4⟩
  have L3 : Aside (Sched w3 B (List.replicate n 0) (List.replicate n 0) l1 l2 0 0 ∧ B.Ok ∧ (∀ b ∈ B.list, w2.heap.size ≤ b) ∧ Ext w2 w3) := ⟨p1, p2, p3, p4⟩
  clear p1 p2 p3 p4
  go_wp2_with fail
  go_at_call 13
  refine (spoil' g1 n1 cap1 cur1 w _ (L3.out.2.2.2.at (L2.out.2.2.2.2.2.at L1.out.2.1)) (by have := L1.out; omega) ?hsp (by have := H.out.1.big; omega)).mono ?_
  case hsp =>
    intro j hj
    have := L1.out.2.2.2.2.1
    have e : cur1.toList[j]? = some (.int .i64 (l1.getD j 0)) := by
      have := congrArg (fun l => l[j]?) this
      simp only [List.getElem?_take, show j < n1 + 2 by omega, if_true] at this
      rw [this, List.getElem?_append_left (by simp; have := H.out.1.len; omega)]
      simp [List.getD, show j < l1.length by have := H.out.1.len; omega]
    exact ⟨_, by simpa using e⟩
  rintro e w4 ⟨rfl, p1⟩
  have L4 : Aside (Same (fun k => k = g1) w3 w4) := p1
  clear p1
  go_wp2_with fail
  have hmk := fun W => make_run n H.out.2.2.2.2 W
  go_cut [13, 14] (fun s13 s14 W => ∃ b1 b2 : Nat, s13 = .slice (some ⟨b1, 0, none⟩) n n ∧ s14 = .slice (some ⟨b2, 0, none⟩) n n ∧ Made w4 n b1 b2 W)
  case first =>
    go_region
    · go_wp2_with fail
      go_meet
      exact ⟨_, _, rfl, rfl, made1 w4 n⟩
    · go_wp2_with fail
      go_meet
      exact ⟨_, _, rfl, rfl, made2 w4 n⟩
  case rest =>
    obtain ⟨bs, bp, rfl, rfl, hcut⟩ := hcut
    have M : Aside (Rnd w B n g2 bs bp cur2 l1 l2 0 0 0 0 (List.replicate n 0) (List.replicate n 0) (List.replicate n 0) (List.replicate n 0) wc) := first_rnd L1.out.1 L1.out.2.1 L1.out.2.2.2.2.2 L2.out.1 L2.out.2.1 L2.out.2.2.2.2.2 L3.out.1 L3.out.2.1 L3.out.2.2.1 L3.out.2.2.2 L4.out hcut
    have Y2 : Aside (n2 + 2 ≤ cap2 ∧ cur2.toList.take (n2 + 2) = l2.map (Value.int .i64) ++ [.int .i64 (-7777), .int .i64 (-8888)]) := ⟨L2.out.2.2.1, L2.out.2.2.2.2.1⟩
    clear L1 L2 L3 L4 hcut hmk
    go_wp2_with fail
    go_loopg [15, 16, 17, 18] 301 (fun k v15 v16 v17 v18 W => ∃ i at_ rd sk : Nat, v15 = .int .i64 at_ ∧ v16 = .int .i64 rd ∧ v17 = .int .i64 sk ∧ v18 = .int .i64 i ∧ Aside (i + k = 301 ∧ 1 ≤ k ∧ ∃ st pk, Rnd w B n g2 bs bp cur2 l1 l2 i at_ rd sk st pk st pk W))
    case atStart => exact ⟨0, 0, 0, 0, rfl, rfl, rfl, rfl, rfl, by omega, _, _, M.out⟩
    case round =>
      obtain ⟨i, at_, rd, sk, rfl, rfl, rfl, rfl, hR⟩ := hrel
      clear M
      by_cases hin : i < n3 ∧ i < 300
      · have e1 : decide ((i : Int) < (n3 : Int)) = true := decide_eq_true (by omega)
        have e2 : decide ((i : Int) < 300) = true := decide_eq_true (by omega)
        obtain ⟨ad, rfl⟩ : ∃ ad, A3 = some ad := by
          rcases A3 with _ | ad
          · have := H.out.2.2.1.nil rfl; omega
          · exact ⟨ad, rfl⟩
        obtain ⟨x0, x1, x2⟩ := H.out.2.2.1.cell ad rfl i hin.1
        obtain ⟨hk, hk1, st, pk, hR⟩ := hR.out
        have y0 := hR.ext.cell x0
        have y1 := hR.ext.cell x1
        have y2 := hR.ext.cell x2
        clear x0 x1 x2
        have hp : (0 : Int) ≤ i := by omega
        have hp2 : (i : Int) < (n3 : Int) := by omega
        have R : Aside (i + gk = 301 ∧ 1 ≤ gk ∧ i < 300 ∧ Rnd w B n g2 bs bp cur2 l1 l2 i at_ rd sk st pk st pk wr) := ⟨hk, hk1, hin.2, hR⟩
        clear hk hk1 hR hin
        -- ROUNDS
        generalize (ks i).1 = k0 at y0
        generalize (ks i).2.1 = k1 at y1
        generalize (ks i).2.2 = k2 at y2
        have S0 : Aside (Rnd w B n g2 bs bp cur2 l1 l2 i at_ rd sk st pk st pk (wr.alloc (.cells #[.int .i64 k0, .int .i64 k1, .int .i64 k2] 37))) := R.out.2.2.2.alloc _
        have Z0 : Aside ((wr.alloc (.cells #[.int .i64 k0, .int .i64 k1, .int .i64 k2] 37)).heap[wr.heap.size]? = some (.cells #[.int .i64 k0, .int .i64 k1, .int .i64 k2] 37)) := heap_alloc_new _ _
        have bi : (i : Int) < 300 := by have := R.out; omega
        have ba : (at_ : Int) ≤ 300 := by have := S0.out.hat; have := R.out; omega
        have bk : (sk : Int) ≤ 300 := by have := S0.out.hsk; have := R.out; omega
        have br : (rd : Int) ≤ 140737488355328 := by have := S0.out.hrd; have := H.out.2.1.len; have := H.out.2.1.big; omega
        by_cases c0 : k0 < 5
        · have e3 : decide (k0 < 5) = true := decide_eq_true c0
          clear c0
          by_cases c1 : n1 ≤ at_
          · have e4 : decide ((at_ : Int) ≥ (n1 : Int)) = true := decide_eq_true (by omega)
            have e5 : decide ((n1 : Int) ≤ (at_ : Int)) = true := decide_eq_true (by omega)
            have e6 : decide (n1 ≤ at_) = true := decide_eq_true (by omega)
            have e7 : decide (at_ ≥ n1) = true := decide_eq_true (by omega)
            have C0 : Aside (Sched (wr.alloc (.cells #[.int .i64 k0, .int .i64 k1, .int .i64 k2] 37)) B st pk [] (l2.drop rd) sk at_) := by
              have := S0.out.sch
              rwa [List.drop_eq_nil_of_le (by have := H.out.1.len; omega)] at this
            clear c1
            as_aux_lemma =>
              go_wp2_with (first | (go_at_call 9; refine (pick_shut C0.out).mono ?_; rintro e w' ⟨rfl, rfl⟩) | (go_at_call 16; refine (skips_ok C0.out).mono ?_; rintro e w' ⟨rfl, rfl⟩) | (go_at_call 17; refine (at_ok C0.out).mono ?_; rintro e w' ⟨rfl, rfl⟩))
              go_roundg (gk - 1)
              case measure => have := R.out; omega
              case rel => exact ⟨i + 1, at_, rd, sk, by first | rfl | go_num, by first | rfl | go_num, by first | rfl | go_num, by go_num, ⟨by have := R.out; omega, by have := R.out; omega, st, pk, S0.out.on⟩⟩
          · have c1 : at_ < n1 := by omega
            obtain ⟨a1, rfl⟩ : ∃ a1, A1 = some a1 := by
              rcases A1 with _ | a1
              · have := H.out.1.nil rfl; omega
              · exact ⟨a1, rfl⟩
            have e4 : decide ((at_ : Int) ≥ (n1 : Int)) = false := decide_eq_false (by omega)
            have e5 : decide ((n1 : Int) ≤ (at_ : Int)) = false := decide_eq_false (by omega)
            have e6 : decide (n1 ≤ at_) = false := decide_eq_false (by omega)
            have e7 : decide (at_ ≥ n1) = false := decide_eq_false (by omega)
            have q1 : (0 : Int) ≤ at_ := by omega
            have q2 : (at_ : Int) < (n1 : Int) := by omega
            have xc := H.out.1.cell a1 rfl at_ c1
            obtain ⟨x, hx⟩ : ∃ x, x = l1.getD at_ 0 := ⟨_, rfl⟩
            rw [← hx] at xc
            have C0 : Aside (Sched (wr.alloc (.cells #[.int .i64 k0, .int .i64 k1, .int .i64 k2] 37)) B st pk (x :: l1.drop (at_ + 1)) (l2.drop rd) sk at_) := by
              have := S0.out.sch
              rwa [List.drop_eq_getElem_cons (by have := H.out.1.len; omega), show l1[at_]'(by have := H.out.1.len; omega) = x by rw [hx]; simp [List.getD, show at_ < l1.length by have := H.out.1.len; omega]] at this
            obtain ⟨g1', g2'⟩ := ag_lo x n H.out.2.2.2.1
            obtain ⟨a, ha⟩ : ∃ a : Nat, ag x n = a := ⟨(ag x n).toNat, by omega⟩
            have hl := S0.out.len
            have A0 : Aside (a < n ∧ ag x n = a ∧ n ≤ 12 ∧ st.length = n ∧ pk.length = n ∧ at_ < n1) := ⟨by omega, ha, H.out.2.2.2.2, hl.1, hl.2.1, c1⟩
            have X0 : Aside (∀ W, Ext w W → W.cell? (a1.add at_) = some (.int .i64 x)) := fun W e => e.cell xc
            have m1 : x.tmod n < n := Int.tmod_lt_of_pos _ (by omega)
            have m2 : -(n : Int) < x.tmod n := Int.lt_tmod_of_pos x (by omega)
            have HM : Aside (((x.tmod st.length) + st.length).tmod st.length = a ∧ -12 ≤ x.tmod st.length ∧ x.tmod st.length ≤ 12 ∧ at_ ≤ 300 ∧ sk ≤ 300) := by
              have := S0.out.hat
              have := S0.out.hsk
              have := R.out
              have := H.out.2.2.2.2
              rw [hl.1]
              exact ⟨ha, by omega, by omega, by omega, by omega⟩
            have hof : Aside (∀ W : World, Calls Try.prog 14 #[.int .i64 x, .int .i64 n] W fun e w' => e = .returned (.int .i64 a) ∧ w' = W) := fun W => by rw [← ha]; exact of_ok x n H.out.2.2.2
            have q3 : (0 : Int) ≤ a := by omega
            have q4 : (a : Int) < (n : Int) := by omega
            have P0 : Aside (0 ≤ pk.getD a 0 ∧ pk.getD a 0 ≤ i ∧ i < 300) := ⟨(S0.out.bnd a A0.out.1).1, (S0.out.bnd a A0.out.1).2, R.out.2.2.1⟩
            clear hx xc g1' g2' ha hl m1 m2 c1
            by_cases c2 : st.getD a 0 = 0
            · have r0 : Aside (st.getD a 0 = 0) := c2
              clear c2
              as_aux_lemma =>
                go_wp2_with fail
                go_at_call 9
                refine (pick_ready x a C0.out S0.out.sep.ok (by have := A0.out; omega) (by have := A0.out; omega) (by have := A0.out; omega) HM.out.1 ⟨HM.out.2.1, HM.out.2.2.1⟩ ⟨by omega, by have := HM.out; omega⟩ ⟨P0.out.1, by have := P0.out; omega⟩ r0.out).mono ?_
                rintro e w5 ⟨rfl, p1, p2, p3⟩
                have S1 : Aside (Rnd w B n g2 bs bp cur2 l1 l2 (i + 1) (at_ + 1) rd sk st (pk.set a (pk.getD a 0 + 1)) st pk w5) := S0.out.call (swide p2 (fun k h => by rcases h with rfl | rfl | rfl | rfl <;> simp [Blk.list])) p1 (by have := A0.out; simp; omega) (by have := S0.out.hat; have := A0.out; have := H.out.1.len; omega) (by have := S0.out.hsk; omega) S0.out.hrd
                clear p1 p2 p3
                have f1 := X0.out _ S1.out.ext
                have f2 := S1.out.rs.cell (show a < st.length by have := A0.out; omega)
                rw [r0.out] at f2
                have f3 := S1.out.rp.cell (show a < pk.length by have := A0.out; omega)
                have f4 : w5.frozen? ⟨bp, a, none⟩ = false := S1.out.rp.fz
                obtain ⟨v, hv⟩ : ∃ v, v = pk.getD a 0 := ⟨_, rfl⟩
                rw [← hv] at f3
                have f5 : wrap64 (v + 1) = v + 1 := by (have := P0.out; unfold wrap64; omega)
                have V0 : Aside (v = pk.getD a 0) := hv
                clear hv
                have S2 : Aside (Rnd w B n g2 bs bp cur2 l1 l2 (i + 1) (at_ + 1) rd sk st (pk.set a (v + 1)) st (pk.set a (v + 1)) (w5.setCell ⟨bp, a, none⟩ (.int .i64 (v + 1)))) := by (have := S1.out.putP a (v + 1) (by have := P0.out; have := V0.out; omega); rw [← V0.out] at this; exact this)
                go_wp2_with (first
                  | (go_at_call 14; refine (hof.out _).mono ?_; rintro e w' ⟨rfl, rfl⟩)
                  | (go_at_call 16; refine (skips_ok S2.out.sch).mono ?_; rintro e w' ⟨rfl, rfl⟩) | (go_at_call 17; refine (at_ok S2.out.sch).mono ?_; rintro e w' ⟨rfl, rfl⟩))
                go_roundg (gk - 1)
                case measure => have := R.out; omega
                case rel => exact ⟨i + 1, at_ + 1, rd, sk, by first | rfl | go_num, by first | rfl | go_num, by first | rfl | go_num, by go_num, ⟨by have := R.out; omega, by have := R.out; omega, st, _, S2.out⟩⟩
            · have r0 : Aside (st.getD a 0 ≠ 0) := c2
              clear c2
              as_aux_lemma =>
                go_wp2_with fail
                go_at_call 9
                refine (pick_skip x a C0.out S0.out.sep.ok (by have := A0.out; omega) (by have := A0.out; omega) (by have := A0.out; omega) HM.out.1 ⟨HM.out.2.1, HM.out.2.2.1⟩ ⟨by omega, by have := HM.out; omega⟩ ⟨by omega, by have := HM.out; omega⟩ r0.out).mono ?_
                rintro e w5 ⟨rfl, p1, p2, p3⟩
                have S1 : Aside (Rnd w B n g2 bs bp cur2 l1 l2 (i + 1) (at_ + 1) rd (sk + 1) st pk st pk w5) := S0.out.call (swide p2 (fun k h => by rcases h with rfl | rfl | rfl | rfl <;> simp [Blk.list])) p1 (by have := A0.out; omega) (by have := S0.out.hat; have := A0.out; have := H.out.1.len; omega) (by have := S0.out.hsk; omega) S0.out.hrd
                clear p1 p2 p3
                have f1 := X0.out _ S1.out.ext
                have f2 := S1.out.rs.cell (show a < st.length by have := A0.out; omega)
                obtain ⟨v, hv⟩ : ∃ v, v = st.getD a 0 := ⟨_, rfl⟩
                rw [← hv] at f2
                have f3 : (v != 0) = true := by (have := r0.out; rw [hv]; simpa using this)
                clear hv
                go_wp2_with (first
                  | (go_at_call 14; refine (hof.out _).mono ?_; rintro e w' ⟨rfl, rfl⟩)
                  | (go_at_call 16; refine (skips_ok S1.out.sch).mono ?_; rintro e w' ⟨rfl, rfl⟩) | (go_at_call 17; refine (at_ok S1.out.sch).mono ?_; rintro e w' ⟨rfl, rfl⟩))
                go_roundg (gk - 1)
                case measure => have := R.out; omega
                case rel => exact ⟨i + 1, at_ + 1, rd, sk + 1, by first | rfl | go_num, by first | rfl | go_num, by first | rfl | go_num, by go_num, ⟨by have := R.out; omega, by have := R.out; omega, st, pk, S1.out⟩⟩
        · have e3 : decide (k0 < 5) = false := decide_eq_false c0
          by_cases c3 : k0 = 5
          · subst c3
            clear c0
            by_cases c1 : n2 ≤ rd
            · have e4 : decide ((rd : Int) < (n2 : Int)) = false := decide_eq_false (by omega)
              have C0 : Aside (Sched (wr.alloc (.cells #[.int .i64 5, .int .i64 k1, .int .i64 k2] 37)) B st pk (l1.drop at_) [] sk at_) := by
                have := S0.out.sch
                rwa [List.drop_eq_nil_of_le (show l2.length ≤ rd by have := H.out.2.1.len; omega)] at this
              as_aux_lemma =>
                go_wp2_with (first | (go_at_call 10; refine (input_shut C0.out).mono ?_; rintro e w' ⟨rfl, rfl⟩) | (go_at_call 16; refine (skips_ok C0.out).mono ?_; rintro e w' ⟨rfl, rfl⟩) | (go_at_call 17; refine (at_ok C0.out).mono ?_; rintro e w' ⟨rfl, rfl⟩))
                go_roundg (gk - 1)
                case measure => have := R.out; omega
                case rel => exact ⟨i + 1, at_, rd, sk, by first | rfl | go_num, by first | rfl | go_num, by first | rfl | go_num, by go_num, ⟨by have := R.out; omega, by have := R.out; omega, st, pk, S0.out.on⟩⟩
            · have c1 : rd < n2 := by omega
              obtain ⟨a2, rfl⟩ : ∃ a2, A2 = some a2 := by
                rcases A2 with _ | a2
                · have := H.out.2.1.nil rfl; omega
                · exact ⟨a2, rfl⟩
              have e4 : decide ((rd : Int) < (n2 : Int)) = true := decide_eq_true (by omega)
              have e6 : decide (rd < n2) = true := decide_eq_true (by omega)
              have q1 : (0 : Int) ≤ rd := by omega
              have q2 : (rd : Int) < (n2 : Int) := by omega
              have xc := S0.out.ext.cell (H.out.2.1.cell a2 rfl rd c1)
              obtain ⟨x, hx⟩ : ∃ x, x = l2.getD rd 0 := ⟨_, rfl⟩
              rw [← hx] at xc
              have C0 : Aside (Sched (wr.alloc (.cells #[.int .i64 5, .int .i64 k1, .int .i64 k2] 37)) B st pk (l1.drop at_) (x :: l2.drop (rd + 1)) sk at_) := by
                have := S0.out.sch
                rwa [List.drop_eq_getElem_cons (l := l2) (by have := H.out.2.1.len; omega), show l2[rd]'(by have := H.out.2.1.len; omega) = x by rw [hx]; simp [List.getD, show rd < l2.length by have := H.out.2.1.len; omega]] at this
              have A0 : Aside (rd < n2) := c1
              clear hx c1
              as_aux_lemma =>
                go_wp2_with fail
                go_at_call 10
                refine (input_open x C0.out S0.out.sep.ok).mono ?_
                rintro e w5 ⟨rfl, p1, p2, p3⟩
                have S1 : Aside (Rnd w B n g2 bs bp cur2 l1 l2 (i + 1) at_ (rd + 1) sk st pk st pk w5) := S0.out.call (swide p2 (fun k h => by rcases h with rfl | rfl <;> simp [Blk.list])) p1 ⟨S0.out.len.1, S0.out.len.2.1⟩ (by have := S0.out.hat; omega) (by have := S0.out.hsk; omega) (by have := A0.out; have := H.out.2.1.len; omega)
                clear p1 p2 p3
                go_wp2_with (first
                  | (go_at_call 16; refine (skips_ok S1.out.sch).mono ?_; rintro e w' ⟨rfl, rfl⟩) | (go_at_call 17; refine (at_ok S1.out.sch).mono ?_; rintro e w' ⟨rfl, rfl⟩))
                go_roundg (gk - 1)
                case measure => have := R.out; omega
                case rel => exact ⟨i + 1, at_, rd + 1, sk, by first | rfl | go_num, by first | rfl | go_num, by first | rfl | go_num, by go_num, ⟨by have := R.out; omega, by have := R.out; omega, st, pk, S1.out⟩⟩
          · have e4 : (k0 == 5) = false := by simpa using c3
            clear c0 c3
            by_cases cb : k1 < 0 ∨ (n : Int) ≤ k1 ∨ k2 < 0 ∨ 2 < k2
            · have cb' : Aside (k1 < 0 ∨ (st.length : Int) ≤ k1 ∨ k2 < 0 ∨ 2 < k2) := by rw [Aside, S0.out.len.1]; exact cb
              by_cases b1 : k1 < 0
              · have d1 : decide (k1 < 0) = true := decide_eq_true b1
                clear cb b1
                as_aux_lemma =>
                  go_wp2_with (first | (go_at_call 15; refine (set_bad S0.out.sch k1 k2 cb'.out).mono ?_; rintro e w' ⟨rfl, rfl⟩) | (go_at_call 11; refine (num_ok _).mono ?_; rintro e w' ⟨rfl, rfl⟩) | (go_at_call 16; refine (skips_ok S0.out.sch).mono ?_; rintro e w' ⟨rfl, rfl⟩) | (go_at_call 17; refine (at_ok S0.out.sch).mono ?_; rintro e w' ⟨rfl, rfl⟩))
                  go_roundg (gk - 1)
                  case measure => have := R.out; omega
                  case rel => exact ⟨i + 1, at_, rd, sk, by first | rfl | go_num, by first | rfl | go_num, by first | rfl | go_num, by go_num, ⟨by have := R.out; omega, by have := R.out; omega, st, pk, S0.out.on⟩⟩
              have d1 : decide (k1 < 0) = false := decide_eq_false b1
              by_cases b2 : (n : Int) ≤ k1
              · have d2 : decide (k1 ≥ (n : Int)) = true := decide_eq_true b2
                have d3 : decide ((n : Int) ≤ k1) = true := decide_eq_true b2
                clear cb b1 b2
                as_aux_lemma =>
                  go_wp2_with (first | (go_at_call 15; refine (set_bad S0.out.sch k1 k2 cb'.out).mono ?_; rintro e w' ⟨rfl, rfl⟩) | (go_at_call 11; refine (num_ok _).mono ?_; rintro e w' ⟨rfl, rfl⟩) | (go_at_call 16; refine (skips_ok S0.out.sch).mono ?_; rintro e w' ⟨rfl, rfl⟩) | (go_at_call 17; refine (at_ok S0.out.sch).mono ?_; rintro e w' ⟨rfl, rfl⟩))
                  go_roundg (gk - 1)
                  case measure => have := R.out; omega
                  case rel => exact ⟨i + 1, at_, rd, sk, by first | rfl | go_num, by first | rfl | go_num, by first | rfl | go_num, by go_num, ⟨by have := R.out; omega, by have := R.out; omega, st, pk, S0.out.on⟩⟩
              have d2 : decide (k1 ≥ (n : Int)) = false := decide_eq_false b2
              have d3 : decide ((n : Int) ≤ k1) = false := decide_eq_false b2
              by_cases b3 : k2 < 0
              · have d4 : decide (k2 < 0) = true := decide_eq_true b3
                clear cb b1 b2 b3
                as_aux_lemma =>
                  go_wp2_with (first | (go_at_call 15; refine (set_bad S0.out.sch k1 k2 cb'.out).mono ?_; rintro e w' ⟨rfl, rfl⟩) | (go_at_call 11; refine (num_ok _).mono ?_; rintro e w' ⟨rfl, rfl⟩) | (go_at_call 16; refine (skips_ok S0.out.sch).mono ?_; rintro e w' ⟨rfl, rfl⟩) | (go_at_call 17; refine (at_ok S0.out.sch).mono ?_; rintro e w' ⟨rfl, rfl⟩))
                  go_roundg (gk - 1)
                  case measure => have := R.out; omega
                  case rel => exact ⟨i + 1, at_, rd, sk, by first | rfl | go_num, by first | rfl | go_num, by first | rfl | go_num, by go_num, ⟨by have := R.out; omega, by have := R.out; omega, st, pk, S0.out.on⟩⟩
              have d4 : decide (k2 < 0) = false := decide_eq_false b3
              have b4 : 2 < k2 := by omega
              have d5 : decide (k2 > 2) = true := decide_eq_true b4
              have d6 : decide (2 < k2) = true := decide_eq_true b4
              clear cb b1 b2 b3 b4
              as_aux_lemma =>
                go_wp2_with (first | (go_at_call 15; refine (set_bad S0.out.sch k1 k2 cb'.out).mono ?_; rintro e w' ⟨rfl, rfl⟩) | (go_at_call 11; refine (num_ok _).mono ?_; rintro e w' ⟨rfl, rfl⟩) | (go_at_call 16; refine (skips_ok S0.out.sch).mono ?_; rintro e w' ⟨rfl, rfl⟩) | (go_at_call 17; refine (at_ok S0.out.sch).mono ?_; rintro e w' ⟨rfl, rfl⟩))
                go_roundg (gk - 1)
                case measure => have := R.out; omega
                case rel => exact ⟨i + 1, at_, rd, sk, by first | rfl | go_num, by first | rfl | go_num, by first | rfl | go_num, by go_num, ⟨by have := R.out; omega, by have := R.out; omega, st, pk, S0.out.on⟩⟩
            · obtain ⟨a, rfl⟩ : ∃ a : Nat, k1 = a := ⟨k1.toNat, by omega⟩
              have d1 : decide ((a : Int) < 0) = false := decide_eq_false (by omega)
              have d2 : decide ((a : Int) ≥ (n : Int)) = false := decide_eq_false (by omega)
              have d3 : decide ((n : Int) ≤ (a : Int)) = false := decide_eq_false (by omega)
              have d4 : decide (k2 < 0) = false := decide_eq_false (by omega)
              have d5 : decide (k2 > 2) = false := decide_eq_false (by omega)
              have d6 : decide (2 < k2) = false := decide_eq_false (by omega)
              have q1 : (0 : Int) ≤ a := by omega
              have q2 : (a : Int) < (n : Int) := by omega
              have A0 : Aside (a < st.length ∧ 0 ≤ k2 ∧ k2 ≤ 2 ∧ st.length = n ∧ pk.length = n) := ⟨by have := S0.out.len.1; omega, by omega, by omega, S0.out.len.1, S0.out.len.2.1⟩
              clear cb
              by_cases cd : st.getD a 0 = 2
              · have f2 := S0.out.rs.cell A0.out.1
                rw [cd] at f2
                have r0 : Aside (st.getD a 0 = 2) := cd
                clear cd
                as_aux_lemma =>
                  go_wp2_with (first | (go_at_call 15; refine (set_dead S0.out.sch a k2 A0.out.1 ⟨A0.out.2.1, A0.out.2.2.1⟩ r0.out).mono ?_; rintro e w' ⟨rfl, rfl⟩) | (go_at_call 11; refine (num_ok _).mono ?_; rintro e w' ⟨rfl, rfl⟩) | (go_at_call 16; refine (skips_ok S0.out.sch).mono ?_; rintro e w' ⟨rfl, rfl⟩) | (go_at_call 17; refine (at_ok S0.out.sch).mono ?_; rintro e w' ⟨rfl, rfl⟩))
                  go_roundg (gk - 1)
                  case measure => have := R.out; omega
                  case rel => exact ⟨i + 1, at_, rd, sk, by first | rfl | go_num, by first | rfl | go_num, by first | rfl | go_num, by go_num, ⟨by have := R.out; omega, by have := R.out; omega, st, pk, S0.out.on⟩⟩
              · have r0 : Aside (st.getD a 0 ≠ 2) := cd
                clear cd
                as_aux_lemma =>
                  go_wp2_with fail
                  go_at_call 15
                  refine (set_ok S0.out.sch S0.out.sep.ok a k2 A0.out.1 ⟨A0.out.2.1, A0.out.2.2.1⟩ r0.out).mono ?_
                  rintro e w5 ⟨rfl, p1, p2, p3⟩
                  have S1 : Aside (Rnd w B n g2 bs bp cur2 l1 l2 (i + 1) at_ rd sk (st.set a k2) pk st pk w5) := S0.out.call (swide p2 (fun k h => by subst h; simp [Blk.list])) p1 (by have := A0.out; simp; omega) (by have := S0.out.hat; omega) (by have := S0.out.hsk; omega) S0.out.hrd
                  have z5 : Aside (w5.heap[wr.heap.size]? = some (.cells #[.int .i64 k0, .int .i64 a, .int .i64 k2] 37)) := (p2.block _ (lt_of_some Z0.out) (by (have h5 := R.out.2.2.2.sch.2.1.at; show ¬ wr.heap.size = B.bs; omega))).trans Z0.out
                  clear p1 p2 p3
                  have f6 : w5.cell? ⟨wr.heap.size, 1, none⟩ = some (.int .i64 a) := by simp [World.cell?, z5.out]
                  have f7 : w5.cell? ⟨wr.heap.size, 2, none⟩ = some (.int .i64 k2) := by simp [World.cell?, z5.out]
                  have f2 := S1.out.rs.cell A0.out.1
                  have f4 : w5.frozen? ⟨bs, a, none⟩ = false := S1.out.rs.fz
                  obtain ⟨v, hv⟩ : ∃ v, v = st.getD a 0 := ⟨_, rfl⟩
                  rw [← hv] at f2
                  have f3 : (v != 2) = true := by (have := r0.out; rw [hv]; simpa using this)
                  clear hv
                  have S2 : Aside (Rnd w B n g2 bs bp cur2 l1 l2 (i + 1) at_ rd sk (st.set a k2) pk (st.set a k2) pk (w5.setCell ⟨bs, a, none⟩ (.int .i64 k2))) := S1.out.putS a k2
                  go_wp2_with (first
                    | (go_at_call 11; refine (num_ok _).mono ?_; rintro e w' ⟨rfl, rfl⟩)
                    | (go_at_call 16; refine (skips_ok S2.out.sch).mono ?_; rintro e w' ⟨rfl, rfl⟩) | (go_at_call 17; refine (at_ok S2.out.sch).mono ?_; rintro e w' ⟨rfl, rfl⟩))
                  go_roundg (gk - 1)
                  case measure => have := R.out; omega
                  case rel => exact ⟨i + 1, at_, rd, sk, by first | rfl | go_num, by first | rfl | go_num, by first | rfl | go_num, by go_num, ⟨by have := R.out; omega, by have := R.out; omega, _, pk, S2.out⟩⟩
      · obtain ⟨hk, hk1, st, pk, hR⟩ := hR.out
        have hl := hR.len
        have R : Aside (Rnd w B n g2 bs bp cur2 l1 l2 i at_ rd sk st pk st pk wr) := hR
        have CN : Aside (Calls Try.prog 18 #[.pointer (some ⟨B.S, 0, none⟩), .slice (some ⟨bp, 0, none⟩) n n] wr fun e w' => e = .returned (.bool true) ∧ ∃ m, w' = wr.drewN m) := by
          have h := counted_ok bp R.out.sch R.out.rp (by have := H.out.2.2.2.2; omega)
          rw [hl.2.2.2] at h
          exact h
        have KP : Aside (∀ W : World, Ext wr W → Calls Try.prog 19 #[.slice (some ⟨g2, 0, none⟩) n2 cap2, .slice A2 n2 c2] W fun e w' => e = .returned (.bool true) ∧ ∃ m, w' = W.drewN m) := fun W e =>
          kept g2 n2 cap2 c2 A2 cur2 l2 W H.out.2.1.big Y2.out.1 H.out.2.1.len (e.at R.out.y) Y2.out.2 H.out.2.1.nil (fun ad ha j hj => e.cell (R.out.ext.cell (H.out.2.1.cell ad ha j hj)))
        clear hR hl hk hk1
        by_cases h3 : i < n3
        · have e1 : (300 : Int) ≤ i := by omega
          have e2 : decide ((i : Int) < (n3 : Int)) = true := decide_eq_true (by omega)
          have e3 : decide (i < n3) = true := decide_eq_true h3
          have e4 : decide ((i : Int) < 300) = false := decide_eq_false (by omega)
          clear hin
          as_aux_lemma =>
            go_wp2_with (first
              | (go_at_call 11; refine (num_ok _).mono ?_; rintro e w' ⟨rfl, hw⟩; obtain rfl : wr = w' := hw.symm)
              | (go_at_call 18; refine CN.out.mono ?_; rintro e w' ⟨rfl, m1, rfl⟩; have F1 : Aside (Ext wr (wr.drewN m1)) := (Ext.refl wr).drewN m1)
              | (go_at_call 19; refine (KP.out _ F1.out).mono ?_; rintro e w' ⟨rfl, m2, rfl⟩; have F2 : Aside (Ext wr ((wr.drewN m1).drewN m2)) := F1.out.drewN m2)
              | (go_at_call 7; refine (awake_ok _).mono ?_; rintro e w9 ⟨rfl, hb9⟩; have F3 : Aside (Ext wr w9) := (by first | exact F2.out.trans hb9 | exact ((Ext.refl wr).drewN _).trans hb9); clear hb9))
            go_ret
            exact ⟨rfl, R.out.ext.trans F3.out⟩
        · have e2 : decide ((i : Int) < (n3 : Int)) = false := decide_eq_false (by omega)
          have e3 : decide (i < n3) = false := decide_eq_false h3
          clear hin
          as_aux_lemma =>
            go_wp2_with (first
              | (go_at_call 11; refine (num_ok _).mono ?_; rintro e w' ⟨rfl, hw⟩; obtain rfl : wr = w' := hw.symm)
              | (go_at_call 18; refine CN.out.mono ?_; rintro e w' ⟨rfl, m1, rfl⟩; have F1 : Aside (Ext wr (wr.drewN m1)) := (Ext.refl wr).drewN m1)
              | (go_at_call 19; refine (KP.out _ F1.out).mono ?_; rintro e w' ⟨rfl, m2, rfl⟩; have F2 : Aside (Ext wr ((wr.drewN m1).drewN m2)) := F1.out.drewN m2)
              | (go_at_call 7; refine (awake_ok _).mono ?_; rintro e w9 ⟨rfl, hb9⟩; have F3 : Aside (Ext wr w9) := (by first | exact F2.out.trans hb9 | exact ((Ext.refl wr).drewN _).trans hb9); clear hb9))
            go_ret
            exact ⟨rfl, R.out.ext.trans F3.out⟩
end Go.Proofs.Ytmnfeljfemobkaa.new
