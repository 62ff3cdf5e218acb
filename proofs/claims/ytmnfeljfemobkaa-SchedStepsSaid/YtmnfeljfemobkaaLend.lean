/- What gneisslaw0.CopyInts, LendInts, SpoilInts, SameInts, KeptInts answer: walks. -/
import Derived.Test.YtmnfeljfemobkaaProg
import Derived.WalkKit
import Derived.Deep.LoopGhost
import Derived.Deep.QuietTactic
import Derived.BigQuiet
import Derived.OwnWalk
import Derived.Lib.Walk
import Derived.Lib.SliceRun
import Derived.Maps.AppendAt
import Derived.Laws.OwnMore
namespace Go.Proofs.Ytmnfeljfemobkaa.lend
open Go Go.RowKit Go.Lib Go.Proofs
set_option linter.unusedVariables false
theorem info3 : (Try.prog.info? 3).map (fun i => (i.zero, i.size, i.bytes)) = some (some (.int .i64 0), 1, 8) := by kernel_rfl
section
variable {P : Program}
theorem append_any {ops : Array Oper} {rest : List Oper} {o : Oper} {a : Act} {Q : Exit → Act → World → Prop} {w : World} (hgd : o.guard = none) (s x : Operand) (t : TypeId)
    (ho : o.op = .call { callee := .builtin .append, args := #[s, x], argTypes := #[t, t] })
    (base : Nat) (e : TypeId) (i : TypeInfo) (z : Value) (bytes : Nat) (ht : P.underlying t = some (.slice e)) (hi : P.info? e = some i) (hz : i.zero = some z)
    (hsize : i.size = 1) (hby : i.bytes = bytes) (hzs : z.cells.size = 1)
    (v : Value) (n : Nat) (xs : List Value) (hs : a.eval s = v) (hown : w.ownsRow base e 1 v n xs)
    (A : Option Addr) (m c : Nat) (news : List Value) (hx : a.eval x = .slice A m c) (hA : A = none → m = 0) (hl : news.length = m) (hnews : ∀ ad, A = some ad → ∀ j u, news[j]? = some u → w.cell? (ad.add j) = some u) (h1 : ∀ u ∈ news, u.oneCell' = true)
    (h63 : n + m ≤ maxLen) (hbytes : (n + m) * bytes ≤ 140737488355328) (hbase : base ≤ w.heap.size)
    (h : ∀ v' w', w'.ownsRow base e 1 v' (n + m) (xs ++ news) → w.grownBy w' v.ownBlock → (v' = .slice none 0 0 → v = .slice none 0 0) → (v'.ownBlock = v.ownBlock ∨ v'.ownBlock = some w.heap.size) → wpList P ops Q rest (a.put o.dst v') w') : wpList P ops Q (o :: rest) a w := by
  have hrun : ∃ v' w', (Builtin.append_ #[t, t] o.type #[v, .slice A m c]).run P w = .ok v' w' ∧ w'.ownsRow base e 1 v' (n + m) (xs ++ news) ∧ w.grownBy w' v.ownBlock ∧ (v' = .slice none 0 0 → v = .slice none 0 0) ∧ (v'.ownBlock = v.ownBlock ∨ v'.ownBlock = some w.heap.size) := by
    rcases A with _ | ad
    · have h0 : m = 0 := hA rfl
      subst h0
      obtain rfl : news = [] := List.eq_nil_of_length_eq_zero hl
      refine ⟨v, w, ?_, by rw [List.append_nil]; exact hown, World.grownBy.refl w _, fun h => h, .inl rfl⟩
      rcases hown.2 with ⟨rfl, hn⟩ | ⟨g, cap, cur, rfl, _, _, hnc, _⟩
      · simp [Builtin.append_, run_underlying ht, sizeOf, typeInfo, hi, Builtin.lenOf, Builtin.firstCells]
      · simp [Builtin.append_, run_underlying ht, sizeOf, typeInfo, hi, Builtin.lenOf, Builtin.firstCells, hnc, storeCells]
    · obtain ⟨v1, w1, hrun, h2, hg, hnil, hat⟩ := run_append_own_at (P := P) w base t o.type e i z 1 bytes ht hi hz hsize hby hzs (by omega) v n xs hown ad m c news (by omega) (hnews ad rfl) h1 h63 hbytes hbase
      exact ⟨v1, w1, hrun, h2, hg, fun e => (hnil.1 e).1, hat⟩
  obtain ⟨v', w', hr, h2, h3, h4, h5⟩ := hrun
  refine wpList_plain hgd fun K hK => ?_
  unfold Oper.wp execOp
  simp only [ho, resolve, invoke, builtin, Sem.run_bind, Sem.run_pure, Result.andThen_ok, List.map_toArray, List.map_cons, List.map_nil, hs, hx, hr]
  exact hK _ _ (h v' w' h2 h3 h4 h5)
end
set_option maxHeartbeats 2000000 in
set_option maxRecDepth 100000 in
theorem copy (A : Option Addr) (n c : Nat) (zs : List Int) (w : World) (hA : A = none → n = 0) (hz : zs.length = n) (hbig : n * 8 ≤ 140737488355328) (hc : ∀ ad, A = some ad → ∀ j, j < n → w.cell? (ad.add j) = some (.int .i64 (zs.getD j 0))) :
    Calls Try.prog 23 #[.slice A n c] w fun e w' => ∃ v', e = .returned v' ∧ w'.ownsRow w.heap.size 3 1 v' n (zs.map (Value.int .i64)) ∧ v' ≠ .slice none 0 0 ∧ Below w.heap.size w w' := by
  have t22 := Try.underlying22
  obtain ⟨i0, hi, hz0, hz1, hz2⟩ := info_parts info3
  have B : Aside (A = none → n = 0) := hA
  have C : Aside (∀ ad, A = some ad → ∀ j, j < n → w.cell? (ad.add j) = some (.int .i64 (zs.getD j 0))) := hc
  have D : Aside (zs.length = n) := hz
  clear hc hA hz
  go_enter Try.func23, Try.ntmps23
  go_wp2_with (at_builtin; refine append_any rfl _ _ 22 rfl w.heap.size 3 i0 (.int .i64 0) 8 t22 hi hz0 hz1 hz2 rfl _ _ _ rfl (World.ownsRow_made w #[] 0 (Nat.le_refl _) (Nat.zero_le _) rfl) A n c (zs.map (Value.int .i64)) rfl B.out ?qc1 ?qc2 ?qc3 ?qc4 ?qc5 ?qc6 ?_)
  case qc1 => simpa using D.out
  case qc2 =>
    intro ad ha j u hj
    have hjn : j < zs.length := by
      have := (List.getElem?_eq_some_iff.1 hj).1
      simpa using this
    refine Lib.cell?_alloc_some _ ?_
    rw [C.out ad ha j (by have := D.out; omega)]
    have e : (zs.map (Value.int .i64))[j]? = some (Value.int .i64 (zs.getD j 0)) := by simp [List.getD, List.getElem?_eq_getElem hjn]
    rw [e] at hj
    exact hj
  case qc3 => intro u hu; obtain ⟨x, _, rfl⟩ := List.mem_map.1 hu; rfl
  case qc4 => unfold maxLen; omega
  case qc5 => omega
  case qc6 => simp
  intro v' w1 hown hgrow hnil hat
  go_wp2
  go_ret
  refine ⟨v', rfl, by simpa using hown, ?_, ?_⟩
  · intro e; cases hnil e
  · exact ((Below.refl _ w).alloc (Nat.le_refl _) _).grown hgrow (by simp) (by intro k hk; simp [Value.ownBlock] at hk; omega)
set_option maxHeartbeats 2000000 in
set_option maxRecDepth 100000 in
theorem lend (A : Option Addr) (n c : Nat) (zs : List Int) (w : World) (hA : A = none → n = 0) (hz : zs.length = n) (hbig : (n + 2) * 8 ≤ 140737488355328) (hc : ∀ ad, A = some ad → ∀ j, j < n → w.cell? (ad.add j) = some (.int .i64 (zs.getD j 0))) :
    Calls Try.prog 12 #[.slice A n c] w fun e w' => ∃ g cap cur, e = .returned (.slice (some ⟨g, 0, none⟩) n cap) ∧ w.heap.size ≤ g ∧ w'.heap[g]? = some (.cells cur 3 (0, 0)) ∧ n + 2 ≤ cap ∧ cur.size = cap ∧ cur.toList.take (n + 2) = zs.map (Value.int .i64) ++ [.int .i64 (-7777), .int .i64 (-8888)] ∧ Below w.heap.size w w' := by
  have t22 := Try.underlying22
  obtain ⟨i0, hi, hz0, hz1, hz2⟩ := info_parts info3
  have B : Aside (A = none → n = 0) := hA
  have C : Aside (∀ ad, A = some ad → ∀ j, j < n → w.cell? (ad.add j) = some (.int .i64 (zs.getD j 0))) := hc
  have D : Aside (zs.length = n) := hz
  clear hc hA hz
  go_enter Try.func12, Try.ntmps12
  go_wp2_with (first | (go_at_call 23; refine (copy A n c zs _ B.out D.out (by omega) C.out).mono ?_; rintro e w1 ⟨v1, rfl, hown, hne, hbl⟩; have E1 : Aside (w1.ownsRow w.heap.size 3 1 v1 n (zs.map (Value.int .i64))) := hown; have E2 : Aside (v1 ≠ .slice none 0 0) := hne; have E3 : Aside (Below w.heap.size w w1) := hbl; clear hown hne hbl) | (at_builtin; refine append_any rfl _ _ 22 rfl w.heap.size 3 i0 (.int .i64 0) 8 t22 hi hz0 hz1 hz2 rfl _ n (zs.map (Value.int .i64)) rfl ?qd1 (some ⟨w1.heap.size, 0, none⟩) 2 2 [.int .i64 (-7777), .int .i64 (-8888)] rfl ?qd2 rfl ?qd3 ?qd4 ?qd5 ?qd6 ?qd7 ?_))
  case qd1 => exact E1.out.alloc _
  case qd2 => intro h; cases h
  case qd3 =>
    intro ad ha j u hj
    cases ha
    have e : ∀ j, ((⟨w1.heap.size, 0, none⟩ : Addr).add j) = ⟨w1.heap.size, j, none⟩ := fun j => by
      unfold Addr.add
      split
      · simp_all
      · simp
    rw [e j]
    show (match (w1.alloc (.cells #[.int .i64 (-7777), .int .i64 (-8888)] 3)).heap[w1.heap.size]? with | some (.cells c _ _) => c[j]? | _ => none) = some u
    rw [heap_alloc_new]
    match j, hj with
    | 0, hj => exact hj
    | 1, hj => exact hj
  case qd4 => intro u hu; simp at hu; rcases hu with rfl | rfl <;> rfl
  case qd5 => unfold maxLen; omega
  case qd6 => omega
  case qd7 => exact Nat.le_trans E3.out.size (by simp)
  intro v2 w2 hown hgrow hnil hat
  obtain ⟨hl, hown⟩ := hown
  have hne : v2 ≠ .slice none 0 0 := fun e => E2.out (hnil e)
  rcases hown with ⟨e, _⟩ | ⟨g, cap, cur, rfl, h2, h3, h4, h5, h6, h7⟩
  · exact absurd e hne
  have F1 : Aside (w.heap.size ≤ g ∧ w2.heap[g]? = some (.cells cur 3 (0, 0)) ∧ n + 2 ≤ cap ∧ cur.size = cap ∧ cur.toList.take (n + 2) = zs.map (Value.int .i64) ++ [.int .i64 (-7777), .int .i64 (-8888)]) := ⟨h2, h3, h4, by omega, by simpa using h7⟩
  have F2 : Aside (Below w.heap.size w w2) := (E3.out.alloc E3.out.size _).grown hgrow (Nat.le_trans E3.out.size (by simp)) (by
    intro k hk
    rcases E1.out.2 with ⟨e, _⟩ | ⟨g, cap, cur, e, h2, _⟩
    · exact absurd e E2.out
    · rw [e] at hk; simp [Value.ownBlock] at hk; omega)
  have hcap : n ≤ cap := by omega
  clear hl hnil hat hgrow hne h2 h3 h4 h5 h6 h7
  go_wp2
  go_ret
  exact ⟨g, cap, cur, rfl, F1.out.1, F1.out.2.1, F1.out.2.2.1, F1.out.2.2.2.1, F1.out.2.2.2.2, F2.out⟩
theorem add_plain (b i j : Nat) : ((⟨b, i, none⟩ : Addr).add j) = ⟨b, i + j, none⟩ := by
  unfold Addr.add
  split
  · simp_all
  · rfl
theorem setCell_size (w : World) (a : Addr) (v : Value) : (w.setCell a v).heap.size = w.heap.size := by simp [World.setCell]
theorem setCell_other (w : World) (g i k : Nat) (v : Value) (hk : k ≠ g) : (w.setCell ⟨g, i, none⟩ v).heap[k]? = w.heap[k]? := by
  simp [World.setCell, Array.getElem?_modify]
  intro e; exact absurd e.symm hk
theorem setCell_at (w : World) (g i : Nat) (v : Value) {arr : Array Value} {ty : TypeId} {fz : Nat × Nat} (h : w.heap[g]? = some (.cells arr ty fz)) : (w.setCell ⟨g, i, none⟩ v).heap[g]? = some (.cells (arr.setIfInBounds i v) ty fz) := by
  simp [World.setCell, Array.getElem?_modify, h]
set_option maxHeartbeats 2000000 in
set_option maxRecDepth 100000 in
theorem spoil (g n cap : Nat) (cur : Array Value) (w0 w : World) (hb : w.heap[g]? = some (.cells cur 3 (0, 0))) (hn : n ≤ cur.size) (hi : ∀ j, j < n → ∃ x, cur[j]? = some (.int .i64 x)) (hbig : n * 8 ≤ 140737488355328) :
    Calls Try.prog 13 #[.slice (some ⟨g, 0, none⟩) n cap] w fun e w' => e = .returned (.tuple #[]) ∧ w.heap.size ≤ w'.heap.size ∧ ∀ k, k ≠ g → w'.heap[k]? = w.heap[k]? := by
  have t22 := Try.underlying22
  obtain ⟨i0, hi0, hz0, hz1, hz2⟩ := info_parts info3
  have B : Aside (w.heap[g]? = some (.cells cur 3 (0, 0)) ∧ n ≤ cur.size ∧ ∀ j, j < n → ∃ x, cur[j]? = some (.int .i64 x)) := ⟨hb, hn, hi⟩
  clear hb hn hi
  go_enter Try.func13, Try.ntmps13
  go_wp2
  go_loopg [2] n (fun k v2 w' => ∃ i : Nat, v2 = .int .i64 i ∧ Aside (i + k = n) ∧ Aside (w.heap.size ≤ w'.heap.size ∧ (∀ k, k ≠ g → w'.heap[k]? = w.heap[k]?) ∧ ∃ cur', w'.heap[g]? = some (.cells cur' 3 (0, 0)) ∧ n ≤ cur'.size ∧ ∀ j, j < n → ∃ x, cur'[j]? = some (.int .i64 x)))
  case atStart => exact ⟨0, rfl, by simp [Aside], Nat.le_refl _, fun _ _ => rfl, cur, B.out⟩
  case round =>
    obtain ⟨i, rfl, hk, hs⟩ := hrel
    obtain ⟨hs1, hs2, cur', hs3, hs4, hs5⟩ := hs.out
    clear hs
    by_cases hin : i < n
    · have hd : decide ((i : Int) < (n : Int)) = true := decide_eq_true (by omega)
      obtain ⟨x, hx⟩ := hs5 i hin
      have hc : wr.cell? ⟨g, i, none⟩ = some (.int .i64 x) := by simp [World.cell?, hs3, hx]
      have hf : wr.frozen? ⟨g, i, none⟩ = false := by simp [World.frozen?, hs3]
      have hp : (0 : Int) ≤ i := by omega
      have hp2 : (i : Int) < n := by omega
      have hin' := Aside.out (p := i < n) hin
      clear hin
      have S1 : Aside (w.heap.size ≤ wr.heap.size ∧ (∀ k, k ≠ g → wr.heap[k]? = w.heap[k]?) ∧ wr.heap[g]? = some (.cells cur' 3 (0, 0)) ∧ n ≤ cur'.size ∧ ∀ j, j < n → ∃ x, cur'[j]? = some (.int .i64 x)) := ⟨hs1, hs2, hs3, hs4, hs5⟩
      clear hs1 hs2 hs3 hs4 hs5 hx
      go_wp2
      go_roundg (gk - 1)
      case measure => have := hk.out; omega
      case rel =>
        have h0 := hk.out
        obtain ⟨h1, h2, h3, h4, h5⟩ := S1.out
        refine ⟨i + 1, by simp, by show i + 1 + (gk - 1) = n; omega, by rw [setCell_size]; exact h1, fun k hk => (setCell_other wr g i k _ hk).trans (h2 k hk), cur'.setIfInBounds i (.int .i64 (wrap64 (-9 - x))), setCell_at wr g i _ h3, by simpa using h4, fun j hj => ?_⟩
        by_cases e : i = j
        · subst e
          exact ⟨_, by simp [show i < cur'.size by omega]; rfl⟩
        · rw [Array.getElem?_setIfInBounds_ne e]; exact h5 j hj
    · have hd : decide ((i : Int) < (n : Int)) = false := decide_eq_false (by omega)
      have S1 : Aside (w.heap.size ≤ wr.heap.size ∧ (∀ k, k ≠ g → wr.heap[k]? = w.heap[k]?)) := ⟨hs1, hs2⟩
      clear hs1 hs2 hs3 hs4 hs5
      go_wp2
      go_end0
      exact ⟨rfl, S1.out.1, S1.out.2⟩
set_option maxHeartbeats 2000000 in
set_option maxRecDepth 100000 in
theorem same (A B : Option Addr) (n c c' : Nat) (zs : List Int) (w : World) (hbig : n * 8 ≤ 140737488355328) (hA : A = none → n = 0) (hB : B = none → n = 0) (hcA : ∀ ad, A = some ad → ∀ j, j < n → w.cell? (ad.add j) = some (.int .i64 (zs.getD j 0))) (hcB : ∀ ad, B = some ad → ∀ j, j < n → w.cell? (ad.add j) = some (.int .i64 (zs.getD j 0))) :
    Calls Try.prog 24 #[.slice A n c, .slice B n c'] w fun e w' => e = .returned (.bool true) ∧ ∃ m, w' = w.drewN m := by
  have D : Aside ((A = none → n = 0) ∧ (B = none → n = 0) ∧ (∀ ad, A = some ad → ∀ j, j < n → w.cell? (ad.add j) = some (.int .i64 (zs.getD j 0))) ∧ ∀ ad, B = some ad → ∀ j, j < n → w.cell? (ad.add j) = some (.int .i64 (zs.getD j 0))) := ⟨hA, hB, hcA, hcB⟩
  clear hA hB hcA hcB
  go_enter Try.func24, Try.ntmps24
  go_wp2
  repeat (go_quiet (fail); try go_wp2)
  go_loopg [5] n (fun k v5 w' => ∃ i : Nat, v5 = .int .i64 i ∧ Aside (i + k = n) ∧ ∃ m, w' = w.drewN m)
  case atStart => exact ⟨0, rfl, by simp [Aside], 0, rfl⟩
  case round =>
    obtain ⟨i, rfl, hk, m, rfl⟩ := hrel
    by_cases hin : i < n
    · have hd : decide ((i : Int) < (n : Int)) = true := decide_eq_true (by omega)
      obtain ⟨a, rfl⟩ : ∃ a, A = some a := by
        rcases A with _ | a
        · have := D.out.1 rfl; omega
        · exact ⟨a, rfl⟩
      obtain ⟨b, rfl⟩ : ∃ b, B = some b := by
        rcases B with _ | b
        · have := D.out.2.1 rfl; omega
        · exact ⟨b, rfl⟩
      have hx := D.out.2.2.1 a rfl i hin
      have hy := D.out.2.2.2 b rfl i hin
      have hp : (0 : Int) ≤ i := by omega
      have hp2 : (i : Int) < n := by omega
      clear hin
      go_wp2
      repeat (go_quiet (fail); try go_wp2)
      go_roundg (gk - 1)
      case measure => have := hk.out; omega
      case rel => exact ⟨i + 1, by simp, by show i + 1 + (gk - 1) = n; have := hk.out; omega, _, rfl⟩
    · have hd : decide ((i : Int) < (n : Int)) = false := decide_eq_false (by omega)
      go_wp2
      repeat (go_quiet (fail); try go_wp2)
      go_ret
      exact ⟨rfl, _, rfl⟩
set_option maxHeartbeats 2000000 in
set_option maxRecDepth 100000 in
theorem kept (g n cap c' : Nat) (B : Option Addr) (cur : Array Value) (zs : List Int) (w : World) (hbig : (n + 2) * 8 ≤ 140737488355328) (hcap : n + 2 ≤ cap) (hz : zs.length = n) (hb : w.heap[g]? = some (.cells cur 3 (0, 0))) (hcur : cur.toList.take (n + 2) = zs.map (Value.int .i64) ++ [.int .i64 (-7777), .int .i64 (-8888)])
    (hB : B = none → n = 0) (hcB : ∀ ad, B = some ad → ∀ j, j < n → w.cell? (ad.add j) = some (.int .i64 (zs.getD j 0))) :
    Calls Try.prog 19 #[.slice (some ⟨g, 0, none⟩) n cap, .slice B n c'] w fun e w' => e = .returned (.bool true) ∧ ∃ m, w' = w.drewN m := by
  have hat : ∀ j u, (zs.map (Value.int .i64) ++ [Value.int .i64 (-7777), .int .i64 (-8888)])[j]? = some u → w.cell? ⟨g, j, none⟩ = some u := by
    intro j u hj
    rw [← hcur, List.getElem?_take] at hj
    split at hj
    · simp [World.cell?, hb, ← hj]
    · cases hj
  have h1 : w.cell? ⟨g, n, none⟩ = some (.int .i64 (-7777)) := hat n _ (by rw [List.getElem?_append_right (by simp [hz])]; simp [hz])
  have h2 : w.cell? ⟨g, n + 1, none⟩ = some (.int .i64 (-8888)) := hat (n + 1) _ (by rw [List.getElem?_append_right (by simp [hz])]; simp [hz])
  have h0 : ∀ j, j < n → w.cell? ⟨g, j, none⟩ = some (.int .i64 (zs.getD j 0)) := fun j hj => hat j _ (by
    have hj' : j < zs.length := by omega
    rw [List.getElem?_append_left (by simpa using hj')]; simp [List.getD, List.getElem?_eq_getElem hj'])
  have t22 := Try.underlying22
  obtain ⟨i0, hi, hz0, hz1, hz2⟩ := info_parts info3
  have D : Aside ((∀ j, j < n → w.cell? ⟨g, j, none⟩ = some (.int .i64 (zs.getD j 0))) ∧ (B = none → n = 0) ∧ ∀ ad, B = some ad → ∀ j, j < n → w.cell? (ad.add j) = some (.int .i64 (zs.getD j 0))) := ⟨h0, hB, hcB⟩
  have hw : wrap64 ((n : Int) + 2) = ((n + 2 : Nat) : Int) := by unfold wrap64; omega
  have hw1 : wrap64 ((n : Int) + 1) = ((n + 1 : Nat) : Int) := by unfold wrap64; omega
  have hp : (0 : Int) ≤ (n : Int) := by omega
  have hp1 : (0 : Int) ≤ ((n + 1 : Nat) : Int) := by omega
  have hp2 : (0 : Int) ≤ ((n + 2 : Nat) : Int) := by omega
  have hq1 : (n : Int) < ((n + 2 : Nat) : Int) := by omega
  have hq2 : ((n + 1 : Nat) : Int) < ((n + 2 : Nat) : Int) := by omega
  have hq3 : ((n + 2 : Nat) : Int) ≤ (cap : Int) := by omega
  clear hat hcur hb hB hcB h0 hz
  go_enter Try.func19, Try.ntmps19
  go_wp2_with (go_at_call 24; refine (same (some ⟨g, 0, none⟩) B n cap c' zs _ (by omega) (fun h => by cases h) D.out.2.1 (fun ad ha j hj => by cases ha; rw [add_plain, Nat.zero_add]; exact D.out.1 j hj) D.out.2.2).mono ?_; rintro e w1 ⟨rfl, m, rfl⟩)
  go_ret
  exact ⟨rfl, m, rfl⟩
end Go.Proofs.Ytmnfeljfemobkaa.lend
