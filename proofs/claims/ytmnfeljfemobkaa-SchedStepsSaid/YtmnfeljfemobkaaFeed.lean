/- What sched's feedOf, next answer: walks. -/
import Derived.Test.YtmnfeljfemobkaaLend
import Derived.Conc.LoneSelect
import Derived.Conc.SmallLaws
import Derived.Conc.LoneCalls
import Derived.Deep.RegionWith
import Derived.Deep.Cut
namespace Go.Proofs.Ytmnfeljfemobkaa.feed
open Go Go.RowKit Go.Lib Go.Conc Go.Proofs Go.Proofs.Ytmnfeljfemobkaa.lend
set_option linter.unusedVariables false
set_option maxHeartbeats 2000000 in
set_option maxRecDepth 100000 in
theorem clone (x : Addr) (n c : Nat) (zs : List Int) (w : World) (hz : zs.length = n) (hbig : n * 8 ≤ 140737488355328) (hc : ∀ j, j < n → w.cell? (x.add j) = some (.int .i64 (zs.getD j 0))) :
    Calls Try.prog 25 #[.slice (some x) n c] w fun e w' => ∃ g cap cur, e = .returned (.slice (some ⟨g, 0, none⟩) n cap) ∧ w.heap.size ≤ g ∧ w'.heap[g]? = some (.cells cur 3 (0, 0)) ∧ n ≤ cap ∧ cur.size = cap ∧ cur.toList.take n = zs.map (Value.int .i64) ∧ Below w.heap.size w w' := by
  have t22 := Try.underlying22
  obtain ⟨i0, hi, hz0, hz1, hz2⟩ := info_parts info3
  have q22 : ∀ (w : World) (a : Option Addr) (n c n' c' : Nat), (binOp .eql 22 (.slice a n c) (.slice none n' c')).run Try.prog w = .ok (.bool a.isNone) w := fun w a n c n' c' => Lib.run_eql_slice_nil w _ _ a n c n' c' t22
  have A : Aside (zs.length = n ∧ ∀ j, j < n → w.cell? (x.add j) = some (.int .i64 (zs.getD j 0))) := ⟨hz, hc⟩
  clear hc hz
  go_enter Try.func25, Try.ntmps25
  go_wp2_with (at_builtin; refine append_any rfl _ _ 22 rfl w.heap.size 3 i0 (.int .i64 0) 8 t22 hi hz0 hz1 hz2 rfl _ _ _ rfl (World.ownsRow_made w #[] 0 (Nat.le_refl _) (Nat.zero_le _) rfl) (some x) n c (zs.map (Value.int .i64)) rfl (fun h => by cases h) ?qc1 ?qc2 ?qc3 ?qc4 ?qc5 ?qc6 ?_)
  case qc1 => simpa using A.out.1
  case qc2 =>
    intro ad ha j u hj
    cases ha
    have hjn : j < zs.length := by
      have := (List.getElem?_eq_some_iff.1 hj).1
      simpa using this
    refine Lib.cell?_alloc_some _ ?_
    rw [A.out.2 j (by have := A.out.1; omega)]
    have e : (zs.map (Value.int .i64))[j]? = some (Value.int .i64 (zs.getD j 0)) := by simp [List.getD, List.getElem?_eq_getElem hjn]
    rw [e] at hj
    exact hj
  case qc3 => intro u hu; obtain ⟨x, _, rfl⟩ := List.mem_map.1 hu; rfl
  case qc4 => unfold maxLen; omega
  case qc5 => omega
  case qc6 => simp
  intro v' w1 hown hgrow hnil hat
  go_wp2
  go_ret
  obtain ⟨hl, hown⟩ := hown
  rcases hown with ⟨e, _⟩ | ⟨g, cap, cur, rfl, h2, h3, h4, h5, h6, h7⟩
  · cases hnil e
  · refine ⟨g, cap, cur, by simp, h2, h3, by omega, by omega, by simpa using h7, ?_⟩
    exact ((Below.refl _ w).alloc (Nat.le_refl _) _).grown hgrow (by simp) (by intro k hk; simp [Value.ownBlock] at hk; omega)
theorem info54 : ∃ i, Try.prog.info? 54 = some i ∧ i.bytes = 0 := by
  have h : (Try.prog.info? 54).map (·.bytes) = some 0 := by kernel_rfl
  obtain ⟨i, hi, hb⟩ := Option.map_eq_some_iff.1 h
  exact ⟨i, hi, hb⟩
theorem mk0 (w : World) : (Instr.makeChan 51 (.int .i64 0)).run Try.prog w = .ok (.chan (some w.heap.size)) (w.alloc (.chan 0 #[] false 0 0 false)) := by
  obtain ⟨i, hi, hb⟩ := info54
  simpa using Conc.run_makeChan (P := Try.prog) (w := w) Try.underlying51 hi .i64 0 (by omega) (by rw [hb]; omega)
/-- a feed: its block f, its channel ch, its row in block g; what is left -/
def Feed (w : World) (f ch g : Nat) (zs : List Int) : Prop := ∃ off cap cur s r, w.heap[f]? = some (.cells #[.slice (some ⟨g, off, none⟩) zs.length cap, .chan (some ch)] 53 (0, 0)) ∧ w.heap[ch]? = some (.chan 0 #[] zs.isEmpty s r false) ∧ w.heap[g]? = some (.cells cur 3 (0, 0)) ∧ zs.length ≤ cap ∧ ∀ j, j < zs.length → cur[off + j]? = some (.int .i64 (zs.getD j 0))
theorem lt_of_some {w : World} {g : Nat} {o : Obj} (h : w.heap[g]? = some o) : g < w.heap.size := (Array.getElem?_eq_some_iff.1 h).1
theorem take_get {cur : Array Value} {n j : Nat} {zs : List Int} (h : cur.toList.take n = zs.map (Value.int .i64)) (hz : zs.length = n) (hj : j < n) : cur[j]? = some (.int .i64 (zs.getD j 0)) := by
  have hj' : j < zs.length := by omega
  have e : (zs.map (Value.int .i64))[j]? = some (Value.int .i64 (zs.getD j 0)) := by simp [List.getD, List.getElem?_eq_getElem hj']
  rw [← h, List.getElem?_take, if_pos hj] at e
  simpa using e
theorem feed_shut {n g cap f ch : Nat} {cur : Array Value} {zs : List Int} {w W : World} (hz : zs.length = n) (hn : n = 0) (h : W.heap[f]? = some (.cells #[.slice (some ⟨g, 0, none⟩) n cap, .chan (some ch)] 53 (0, 0)) ∧ W.heap[ch]? = some (.chan 0 #[] false 0 0 false) ∧ W.heap[g]? = some (.cells cur 3 (0, 0)) ∧ n ≤ cap ∧ cur.toList.take n = zs.map (Value.int .i64) ∧ (w.heap.size ≤ f ∧ w.heap.size ≤ ch ∧ w.heap.size ≤ g) ∧ (f ≠ ch ∧ f ≠ g ∧ ch ≠ g) ∧ Below w.heap.size w W) :
    ∃ f' ch' g', (Ending.returned (.pointer (some ⟨f, 0, none⟩)) = Ending.returned (.pointer (some ⟨f', 0, none⟩))) ∧ Feed { W with heap := W.heap.setIfInBounds ch (.chan 0 #[] true 0 0 false) } f' ch' g' zs ∧ (w.heap.size ≤ f' ∧ w.heap.size ≤ ch' ∧ w.heap.size ≤ g') ∧ (f' ≠ ch' ∧ f' ≠ g' ∧ ch' ≠ g') ∧ Below w.heap.size w { W with heap := W.heap.setIfInBounds ch (.chan 0 #[] true 0 0 false) } := by
  obtain ⟨h1, h2, h3, h4, h5, h6, h7, h8⟩ := h
  obtain rfl : zs = [] := List.eq_nil_of_length_eq_zero (by omega)
  subst hn
  have ho : ∀ k, k ≠ ch → (W.heap.setIfInBounds ch (.chan 0 #[] true 0 0 false))[k]? = W.heap[k]? := fun k hk => Array.getElem?_setIfInBounds_ne (Ne.symm hk)
  refine ⟨f, ch, g, rfl, ⟨0, cap, cur, 0, 0, ?_, ?_, ?_, h4, fun j hj => by simp at hj⟩, h6, h7, h8.os, h8.tape, h8.output, by simpa using h8.size, fun k hk => (ho k (by omega)).trans (h8.block k hk)⟩
  · exact (ho f h7.1).trans h1
  · show (W.heap.setIfInBounds ch (.chan 0 #[] true 0 0 false))[ch]? = _
    rw [Array.getElem?_setIfInBounds_self_of_lt (lt_of_some h2)]; rfl
  · exact (ho g (Ne.symm h7.2.2)).trans h3
theorem feed_open {x : Addr} {n g cap f ch : Nat} {cur : Array Value} {zs : List Int} {w W : World} (hz : zs.length = n) (hn : ¬ n = 0) (hc : ∀ j, j < n → w.cell? (x.add j) = some (.int .i64 (zs.getD j 0))) (h : W.heap[f]? = some (.cells #[.slice (some ⟨g, 0, none⟩) n cap, .chan (some ch)] 53 (0, 0)) ∧ W.heap[ch]? = some (.chan 0 #[] false 0 0 false) ∧ W.heap[g]? = some (.cells cur 3 (0, 0)) ∧ n ≤ cap ∧ cur.toList.take n = zs.map (Value.int .i64) ∧ (w.heap.size ≤ f ∧ w.heap.size ≤ ch ∧ w.heap.size ≤ g) ∧ (f ≠ ch ∧ f ≠ g ∧ ch ≠ g) ∧ Below w.heap.size w W) :
    ∃ f' ch' g', (Ending.returned (.pointer (some ⟨f, 0, none⟩)) = Ending.returned (.pointer (some ⟨f', 0, none⟩))) ∧ Feed W f' ch' g' zs ∧ (w.heap.size ≤ f' ∧ w.heap.size ≤ ch' ∧ w.heap.size ≤ g') ∧ (f' ≠ ch' ∧ f' ≠ g' ∧ ch' ≠ g') ∧ Below w.heap.size w W := by
  obtain ⟨h1, h2, h3, h4, h5, h6, h7, h8⟩ := h
  refine ⟨f, ch, g, rfl, ⟨0, cap, cur, 0, 0, by rw [hz]; exact h1, ?_, h3, by omega, fun j hj => by rw [Nat.zero_add]; exact take_get h5 hz (by omega)⟩, h6, h7, h8⟩
  rw [h2]
  cases zs with
  | nil => exact absurd hz.symm hn
  | cons a l => rfl
set_option maxHeartbeats 2000000 in
set_option maxRecDepth 100000 in
theorem feedOf (x : Addr) (n c : Nat) (zs : List Int) (w : World) (hz : zs.length = n) (hbig : n * 8 ≤ 140737488355328) (hc : ∀ j, j < n → w.cell? (x.add j) = some (.int .i64 (zs.getD j 0))) :
    Calls Try.prog 21 #[.slice (some x) n c] w fun e w' => ∃ f ch g, e = .returned (.pointer (some ⟨f, 0, none⟩)) ∧ Feed w' f ch g zs ∧ (w.heap.size ≤ f ∧ w.heap.size ≤ ch ∧ w.heap.size ≤ g) ∧ (f ≠ ch ∧ f ≠ g ∧ ch ≠ g) ∧ Below w.heap.size w w' := by
  have A : Aside (zs.length = n ∧ ∀ j, j < n → w.cell? (x.add j) = some (.int .i64 (zs.getD j 0))) := ⟨hz, hc⟩
  clear hc hz
  go_enter Try.func21, Try.ntmps21
  have hmc := mk0
  go_wp2_with fail
  go_region_with (go_at_call 25; refine (clone x n c zs _ A.out.1 hbig (by intro j hj; first | exact A.out.2 j hj | exact Lib.cell?_alloc_some _ (A.out.2 j hj) | exact (A.out.2 j hj))).mono ?_; rintro e w1 ⟨g, cap, cur, rfl, h1, h2, h3, h4, h5, h6⟩)
  · generalize hW : ((w1.alloc (Obj.chan 0 #[] false 0 0 false)).alloc (Obj.cells #[Value.slice (some { block := g, off := 0 }) n cap, Value.chan (some w1.heap.size)] 53)) = W
    have F1 : W.heap[w1.heap.size + 1]? = some (.cells #[.slice (some ⟨g, 0, none⟩) n cap, .chan (some w1.heap.size)] 53 (0, 0)) := by rw [← hW]; exact heap_alloc2_new _ _ _
    have F2 : W.heap[w1.heap.size]? = some (.chan 0 #[] false 0 0 false) := by rw [← hW]; exact heap_alloc2_old _ _ _
    have hg := lt_of_some h2
    have hs := h6.size
    have F3 : W.heap[g]? = some (.cells cur 3 (0, 0)) := by rw [← hW, heap_alloc_old _ _ (by rw [World.size_alloc]; omega), heap_alloc_old _ _ hg]; exact h2
    have h1' : w.heap.size ≤ g := h1
    have hs' : w.heap.size ≤ w1.heap.size := hs
    have F4 : w.heap.size ≤ w1.heap.size + 1 ∧ w.heap.size ≤ w1.heap.size ∧ w.heap.size ≤ g := ⟨by omega, hs', h1'⟩
    have F5 : w1.heap.size + 1 ≠ w1.heap.size ∧ w1.heap.size + 1 ≠ g ∧ w1.heap.size ≠ g := ⟨by omega, by omega, by omega⟩
    have hb0 : Below w.heap.size w w1 := ⟨h6.os, h6.tape, h6.output, h6.size, h6.block⟩
    have F6 : Below w.heap.size w W := by rw [← hW]; exact (hb0.alloc hs' _).alloc (by rw [World.size_alloc]; omega) _
    clear hg hs h1' hs' hb0
    generalize w1.heap.size + 1 = f at *
    generalize w1.heap.size = ch at *
    have hcl := fun ats ty => run_close_open (P := Try.prog) (w := W) ats ty F2
    have F : Aside (W.heap[f]? = some (.cells #[.slice (some ⟨g, 0, none⟩) n cap, .chan (some ch)] 53 (0, 0)) ∧ W.heap[ch]? = some (.chan 0 #[] false 0 0 false) ∧ W.heap[g]? = some (.cells cur 3 (0, 0)) ∧ n ≤ cap ∧ cur.toList.take n = zs.map (Value.int .i64) ∧ (w.heap.size ≤ f ∧ w.heap.size ≤ ch ∧ w.heap.size ≤ g) ∧ (f ≠ ch ∧ f ≠ g ∧ ch ≠ g) ∧ Below w.heap.size w W) := ⟨F1, F2, F3, h3, h5, F4, F5, F6⟩
    have hcell : W.cell? ⟨f, 1, none⟩ = some (.chan (some ch)) := by simp [World.cell?, F1]
    clear hW h1 h2 h3 h4 h5 h6 F1 F2 F3 F4 F5 F6 hmc
    by_cases hn : n = 0
    · have hd : ((n : Int) == 0) = true := by simp [hn]
      have hn' := (show Aside _ from hn)
      clear hn
      go_wp2
      go_ret
      exact feed_shut A.out.1 hn'.out F.out
    · have hd : ((n : Int) == 0) = false := by simp; omega
      have hn' := (show Aside _ from hn)
      clear hn
      go_wp2
      go_ret
      exact feed_open A.out.1 hn'.out A.out.2 F.out
  · generalize hW : (w1.alloc (Obj.cells #[Value.slice (some { block := g, off := 0 }) n cap, Value.chan (some w.heap.size)] 53)) = W
    have hs := h6.size
    have hsz : (w.alloc (Obj.chan 0 #[] false 0 0 false)).drew.heap.size = w.heap.size + 1 := World.size_alloc _ _
    rw [hsz] at h1 hs
    have F1 : W.heap[w1.heap.size]? = some (.cells #[.slice (some ⟨g, 0, none⟩) n cap, .chan (some w.heap.size)] 53 (0, 0)) := by rw [← hW]; exact heap_alloc_new _ _
    have hg := lt_of_some h2
    have F2 : W.heap[w.heap.size]? = some (.chan 0 #[] false 0 0 false) := by
      rw [← hW, heap_alloc_old _ _ (by omega), h6.block _ (by rw [hsz]; omega)]
      exact heap_alloc_new _ _
    have F3 : W.heap[g]? = some (.cells cur 3 (0, 0)) := by rw [← hW, heap_alloc_old _ _ hg]; exact h2
    have F4 : w.heap.size ≤ w1.heap.size ∧ w.heap.size ≤ w.heap.size ∧ w.heap.size ≤ g := ⟨by omega, by omega, by omega⟩
    have F5 : w1.heap.size ≠ w.heap.size ∧ w1.heap.size ≠ g ∧ w.heap.size ≠ g := ⟨by omega, by omega, by omega⟩
    have hb0 : Below w.heap.size w w1 := ⟨h6.os, h6.tape, h6.output, by omega, fun k hk => (h6.block k (by rw [hsz]; omega)).trans (heap_alloc_old _ _ hk)⟩
    have F6 : Below w.heap.size w W := by rw [← hW]; exact hb0.alloc (by omega) _
    clear hg hs hsz hb0
    generalize hf : w1.heap.size = f at *
    generalize hch : w.heap.size = ch at F1 F2 F5 hW ⊢
    have F4 : w.heap.size ≤ f ∧ w.heap.size ≤ ch ∧ w.heap.size ≤ g := ⟨by omega, by omega, by omega⟩
    have hcl := fun ats ty => run_close_open (P := Try.prog) (w := W) ats ty F2
    have F : Aside (W.heap[f]? = some (.cells #[.slice (some ⟨g, 0, none⟩) n cap, .chan (some ch)] 53 (0, 0)) ∧ W.heap[ch]? = some (.chan 0 #[] false 0 0 false) ∧ W.heap[g]? = some (.cells cur 3 (0, 0)) ∧ n ≤ cap ∧ cur.toList.take n = zs.map (Value.int .i64) ∧ (w.heap.size ≤ f ∧ w.heap.size ≤ ch ∧ w.heap.size ≤ g) ∧ (f ≠ ch ∧ f ≠ g ∧ ch ≠ g) ∧ Below w.heap.size w W) := ⟨F1, F2, F3, h3, h5, F4, F5, F6⟩
    have hcell : W.cell? ⟨f, 1, none⟩ = some (.chan (some ch)) := by simp [World.cell?, F1]
    clear hW h1 h2 h3 h4 h5 h6 F1 F2 F3 F4 F5 F6 hmc
    by_cases hn : n = 0
    · have hd : ((n : Int) == 0) = true := by simp [hn]
      have hn' := (show Aside _ from hn)
      clear hn
      go_wp2
      go_ret
      exact feed_shut A.out.1 hn'.out F.out
    · have hd : ((n : Int) == 0) = false := by simp; omega
      have hn' := (show Aside _ from hn)
      clear hn
      go_wp2
      go_ret
      exact feed_open A.out.1 hn'.out A.out.2 F.out
/-- a region that begins with a select of one receive, with a default -/
theorem wp_sel {P : Program} {id : Nat} {ops : Array Oper} {o : Oper} {Q : Exit → Act → World → Prop} {a : Act} {w : World} {rest : List Nat} {c cap s r : Nat} {cl tm : Bool} {z : Value} (ho : ops[0]? = some o) (hw : Region.wanted o (yielded ops a.tmps) = true)
    (hr : (execOp a.eval o).run P w = .ok (.comm #[Conc.rcase c z] false .select) w) (hc : w.heap[c]? = some (.chan cap #[] cl s r tm)) (hl : List.range ops.size = 0 :: rest) (h : wpOps P ops Q rest (a.put o.dst (.tuple #[goInt (Bool.rec (-1) 0 cl), .bool false, z])) w) : (Code.region id ops false).wp P Q a w := by
  intro b k cs
  obtain ⟨e, a', w', q, harr⟩ := wp_ops rest _ w h b k cs
  refine ⟨e, a', w', q, .of_steps (.one step_region) ?_⟩
  rw [hl]
  refine .of_steps (.one ?_) harr
  have hg := stepG_op (P := P) (b := b) (k := k) (cs := cs) (w := w) (rest := rest) ho hw
  have hfin : ∀ v, (b.at a (.inRegion ops (0 :: rest) :: k)).finish v = b.at (a.put o.dst v) (.inRegion ops rest :: k) := by
    intro v; rw [Frame.finish_at, ho]; rfl
  have h2 : ∃ es, stepG P true (Conc.G (b.at a (.inRegion ops (0 :: rest) :: k)) cs) w = .comm (Conc.G (b.at a (.inRegion ops (0 :: rest) :: k)) cs) #[Conc.rcase c z] false .select w es := by
    have h3 : ∃ es, stepG.apply P true (b.at a (.inRegion ops (0 :: rest) :: k)) cs none (execOp a.eval o) w = .comm (Conc.G (b.at a (.inRegion ops (0 :: rest) :: k)) cs) #[Conc.rcase c z] false .select w es := by
      simp only [stepG.apply, Sem.runT_eq, hr, if_true, GStep.after]
      exact ⟨_, rfl⟩
    obtain ⟨es, h3⟩ := h3
    exact ⟨es, hg.trans h3⟩
  obtain ⟨es, h2⟩ := h2
  rw [← hfin]
  rw [Conc.lone_eq_solo, Conc.lone_eq_solo]
  cases cl with
  | false => exact Conc.step_lone_select_default h2 hc
  | true => exact Conc.step_lone_select_recv_shut h2 hc
theorem wp_sel_lit {P : Program} {id : Nat} {l : List Oper} {o : Oper} {Q : Exit → Act → World → Prop} {a : Act} {w : World} {c cap s r : Nat} {tm : Bool} {z : Value} (cl : Bool) (hw : Region.wanted o (yielded (o :: l).toArray a.tmps) = true)
    (hr : (execOp a.eval o).run P w = .ok (.comm #[Conc.rcase c z] false .select) w) (hc : w.heap[c]? = some (.chan cap #[] cl s r tm)) (h : wpList P (o :: l).toArray Q l (a.put o.dst (.tuple #[goInt (Bool.rec (-1) 0 cl), .bool false, z])) w) : (Code.region id (o :: l).toArray false).wp P Q a w := by
  refine wp_sel (o := o) (rest := List.range' 1 l.length) (by simp) hw hr hc (by simp [List.range_eq_range', List.range'_succ]) ?_
  rw [wpOps_eq_wpList l 1 (fun j => by simp [Nat.add_comm 1 j])]
  exact h
set_option maxHeartbeats 2000000 in
set_option maxRecDepth 100000 in
theorem next_shut (f ch g : Nat) (w : World) (h : Feed w f ch g []) : Calls Try.prog 22 #[.pointer (some ⟨f, 0, none⟩)] w fun e w' => e = .returned (.tuple #[.int .i64 0, .bool false]) ∧ w' = w := by
  obtain ⟨off, cap, cur, s, r, h1, h2, h3, h4, h5⟩ := h
  have hcell : w.cell? ⟨f, 1, none⟩ = some (.chan (some ch)) := by simp [World.cell?, h1]
  have h2' : Aside (w.heap[ch]? = some (.chan 0 #[] true s r false)) := h2
  clear h1 h2 h3 h4 h5
  go_enter Try.func22, Try.ntmps22
  go_upto_region 2 with fail
  refine wp_sel_lit (c := ch) (z := .agg #[]) true rfl (by simp [go_sem, execOp, Conc.rcase, Act.eval]) h2'.out ?_
  go_wp2
  go_ret2
  exact ⟨rfl, rfl⟩
/-- only the blocks of S may have changed, and more may have been made -/
structure Same (S : Nat → Prop) (w w' : World) : Prop where
  os : w'.os = w.os
  tape : w'.tape = w.tape
  output : w'.output = w.output
  size : w.heap.size ≤ w'.heap.size
  block : ∀ k, k < w.heap.size → ¬ S k → w'.heap[k]? = w.heap[k]?
set_option maxHeartbeats 2000000 in
set_option maxRecDepth 100000 in
theorem next_open (f ch g : Nat) (x : Int) (xs : List Int) (w : World) (h : Feed w f ch g (x :: xs)) (hd : f ≠ ch ∧ f ≠ g ∧ ch ≠ g) : Calls Try.prog 22 #[.pointer (some ⟨f, 0, none⟩)] w fun e w' => e = .returned (.tuple #[.int .i64 x, .bool true]) ∧ Feed w' f ch g xs ∧ Same (fun k => k = f ∨ k = ch) w w' ∧ w'.heap.size = w.heap.size := by
  obtain ⟨off, cap, cur, s, r, h1, h2, h3, h4, h5⟩ := h
  have t22 := Try.underlying22
  obtain ⟨i0, hi0, hz0, hz1, hz2⟩ := info_parts info3
  have hcell : w.cell? ⟨f, 1, none⟩ = some (.chan (some ch)) := by simp [World.cell?, h1]
  have hcell0 : w.cell? ⟨f, 0, none⟩ = some (.slice (some ⟨g, off, none⟩) (xs.length + 1) cap) := by simp [World.cell?, h1]
  have hfz : w.frozen? ⟨f, 0, none⟩ = false := by simp [World.frozen?, h1]
  have hx : w.cell? ⟨g, off, none⟩ = some (.int .i64 x) := by
    have := h5 0 (by simp)
    simp [World.cell?, h3]
    simpa using this
  have h2' : Aside (w.heap[ch]? = some (.chan 0 #[] false s r false)) := h2
  have H : Aside (w.heap[f]? = some (.cells #[.slice (some ⟨g, off, none⟩) (x :: xs).length cap, .chan (some ch)] 53 (0, 0)) ∧ w.heap[g]? = some (.cells cur 3 (0, 0)) ∧ (x :: xs).length ≤ cap ∧ ∀ j, j < (x :: xs).length → cur[off + j]? = some (.int .i64 ((x :: xs).getD j 0))) := ⟨h1, h3, h4, h5⟩
  have hD : Aside (f ≠ ch ∧ f ≠ g ∧ ch ≠ g) := hd
  have hcp : xs.length + 1 ≤ cap := by simpa using h4
  clear h1 h2 h3 h4 h5 hd
  go_enter Try.func22, Try.ntmps22
  go_upto_region 2 with fail
  refine wp_sel_lit (c := ch) (z := .agg #[]) false rfl (by simp [go_sem, execOp, Conc.rcase, Act.eval]) h2'.out ?_
  have hp : (0 : Int) < ((xs.length + 1 : Nat) : Int) := by omega
  go_wp2
  go_region
  have eo : (if cap = 1 then some (⟨g, off, none⟩ : Addr) else some ⟨g, off + 1, none⟩) = some ⟨g, if cap = 1 then off else off + 1, none⟩ := by split <;> rfl
  rw [eo]
  have ho : xs = [] ∨ (if cap = 1 then off else off + 1) = off + 1 := by
    by_cases hc : cap = 1
    · left; exact List.eq_nil_of_length_eq_zero (by omega)
    · right; rw [if_neg hc]
  generalize (if cap = 1 then off else off + 1) = off' at ho ⊢
  clear eo hcell0 hfz hx hcell hp hcp
  generalize hW : (w.setCell ⟨f, 0, none⟩ (.slice (some ⟨g, off', none⟩) xs.length (cap - 1))).drew = W
  have F : Aside (W.heap[f]? = some (.cells #[.slice (some ⟨g, off', none⟩) xs.length (cap - 1), .chan (some ch)] 53 (0, 0)) ∧ W.heap[ch]? = some (.chan 0 #[] false s r false) ∧ W.heap[g]? = some (.cells cur 3 (0, 0)) ∧ xs.length ≤ cap - 1 ∧ (∀ j, j < xs.length → cur[off' + j]? = some (.int .i64 (xs.getD j 0))) ∧ W.heap.size = w.heap.size ∧ (∀ k, k ≠ f → W.heap[k]? = w.heap[k]?) ∧ W.os = w.os ∧ W.tape = w.tape ∧ W.output = w.output) := by
    obtain ⟨h1, h3, h4, h5⟩ := H.out
    obtain ⟨d1, d2, d3⟩ := hD.out
    have e : W.heap = (w.setCell ⟨f, 0, none⟩ (.slice (some ⟨g, off', none⟩) xs.length (cap - 1))).heap := by rw [← hW]; rfl
    refine ⟨?_, ?_, ?_, ?_, ?_, ?_, ?_, ?_, ?_, ?_⟩
    · rw [e, setCell_at w f 0 _ h1]; rfl
    · rw [e, setCell_other w f 0 ch _ (Ne.symm d1)]; exact h2'.out
    · rw [e, setCell_other w f 0 g _ (Ne.symm d2)]; exact h3
    · simp at h4; omega
    · intro j hj
      rcases ho with rfl | ho
      · simp at hj
      · rw [ho]
        have := h5 (j + 1) (by simp; omega)
        rw [show off + 1 + j = off + (j + 1) by omega]
        simpa using this
    · rw [e, setCell_size]
    · intro k hk; rw [e]; exact setCell_other w f 0 k _ hk
    · rw [← hW]; rfl
    · rw [← hW]; rfl
    · rw [← hW]; rfl
  have hcell : W.cell? ⟨f, 1, none⟩ = some (.chan (some ch)) := by simp [World.cell?, F.out.1]
  have hcell0 : W.cell? ⟨f, 0, none⟩ = some (.slice (some ⟨g, off', none⟩) xs.length (cap - 1)) := by simp [World.cell?, F.out.1]
  have hcl := fun ats ty => run_close_open (P := Try.prog) (w := W) ats ty F.out.2.1
  clear hW ho h2' H
  by_cases hn : xs.length = 0
  · have hd : ((xs.length : Int) == 0) = true := by simp [hn]
    have hn' : Aside (xs.length = 0) := hn
    clear hn
    go_wp2
    go_ret2
    obtain ⟨h1, h2, h3, h4, h5, h6, h7, h8, h9, h10⟩ := F.out
    obtain ⟨d1, d2, d3⟩ := hD.out
    have hs : ∀ k, k ≠ ch → (W.heap.setIfInBounds ch (.chan 0 #[] true s r false))[k]? = W.heap[k]? := fun k hk => Array.getElem?_setIfInBounds_ne (Ne.symm hk)
    refine ⟨rfl, ⟨off', cap - 1, cur, s, r, (hs f d1).trans h1, ?_, (hs g (Ne.symm d3)).trans h3, h4, h5⟩, ⟨h8, h9, h10, by simp; omega, fun k hk hn => (hs k (fun e => hn (.inr e))).trans (h7 k (fun e => hn (.inl e)))⟩, by simpa using h6⟩
    show (W.heap.setIfInBounds ch (.chan 0 #[] true s r false))[ch]? = _
    rw [Array.getElem?_setIfInBounds_self_of_lt (lt_of_some h2), List.eq_nil_of_length_eq_zero hn'.out]; rfl
  · have hd : ((xs.length : Int) == 0) = false := by simp; intro e; exact hn (by simp [e])
    have hn' : Aside (¬ xs.length = 0) := hn
    clear hn
    go_wp2
    go_ret2
    obtain ⟨h1, h2, h3, h4, h5, h6, h7, h8, h9, h10⟩ := F.out
    refine ⟨rfl, ⟨off', cap - 1, cur, s, r, h1, ?_, h3, h4, h5⟩, ⟨h8, h9, h10, by omega, fun k hk hn => h7 k (fun e => hn (.inl e))⟩, h6⟩
    rw [h2]
    cases xs with
    | nil => exact absurd rfl hn'.out
    | cons a l => rfl
end Go.Proofs.Ytmnfeljfemobkaa.feed
