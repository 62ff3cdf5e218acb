/- What sched.New answers: a walk. -/
import Derived.Test.YtmnfeljfemobkaaMake
namespace Go.Proofs.Ytmnfeljfemobkaa.new
open Go Go.RowKit Go.Lib Go.Conc Go.Proofs Go.Proofs.Ytmnfeljfemobkaa.lend Go.Proofs.Ytmnfeljfemobkaa.feed Go.Proofs.Ytmnfeljfemobkaa.any
set_option linter.unusedVariables false
theorem wpOp_at {P : Program} {ops : Array Oper} {Q : Exit → Act → World → Prop} {i : Nat} {o : Oper} {a : Act} {w : World} {K : Act → World → Prop} (ho : ops[i]? = some o) (hw : Region.wanted o (yielded ops a.tmps) = true) (h : o.wp P a w K Q) : wpOp P ops Q i K a w := by
  unfold wpOp
  rw [ho]
  simp only
  rw [if_pos hw]
  exact .inl h
set_option maxHeartbeats 4000000 in
set_option maxRecDepth 100000 in
theorem new_bad (n : Int) (v1 v2 : Value) (w : World) (h : n < 1 ∨ 12 < n) : Calls Try.prog 8 #[.int .i64 n, v1, v2] w fun e w' => e = .returned (.tuple #[.pointer none, .int .i64 400]) ∧ w' = w := by
  by_cases h1 : n < 1
  · have hd : decide (n < 1) = true := decide_eq_true h1
    clear h
    go_enter Try.func8, Try.ntmps8
    go_wp2
    go_ret2
    exact ⟨rfl, rfl⟩
  · have hd : decide (n < 1) = false := decide_eq_false h1
    have hd2 : decide (n > 12) = true := decide_eq_true (by omega)
    clear h
    go_enter Try.func8, Try.ntmps8
    go_wp2
    go_ret2
    exact ⟨rfl, rfl⟩
set_option maxHeartbeats 100000000 in
set_option maxRecDepth 100000 in
set_option maxHeartbeats 4000000 in
set_option maxRecDepth 100000 in
theorem new (n : Nat) (x1 x2 : Addr) (n1 c1 n2 c2 : Nat) (sc inp : List Int) (w : World) (hn : 1 ≤ n ∧ n ≤ 12) (hs : sc.length = n1) (hi : inp.length = n2) (hb1 : n1 * 8 ≤ 140737488355328) (hb2 : n2 * 8 ≤ 140737488355328) (h1 : ∀ j, j < n1 → w.cell? (x1.add j) = some (.int .i64 (sc.getD j 0))) (h2 : ∀ j, j < n2 → w.cell? (x2.add j) = some (.int .i64 (inp.getD j 0))) :
    Calls Try.prog 8 #[.int .i64 n, .slice (some x1) n1 c1, .slice (some x2) n2 c2] w fun e w' => ∃ B : Blk, e = .returned (.tuple #[.pointer (some ⟨B.S, 0, none⟩), .int .i64 0]) ∧ Sched w' B (List.replicate n 0) (List.replicate n 0) sc inp 0 0 ∧ B.Ok ∧ (∀ b ∈ B.list, w.heap.size ≤ b) ∧ Below w.heap.size w w' := by
  have hd : decide ((n : Int) < 1) = false := decide_eq_false (by omega)
  have hd2 : decide ((n : Int) > 12) = false := decide_eq_false (by omega)
  have A : Aside (sc.length = n1 ∧ inp.length = n2 ∧ (∀ j, j < n1 → w.cell? (x1.add j) = some (.int .i64 (sc.getD j 0))) ∧ ∀ j, j < n2 → w.cell? (x2.add j) = some (.int .i64 (inp.getD j 0))) := ⟨hs, hi, h1, h2⟩
  clear hs hi h1 h2
  go_enter Try.func8, Try.ntmps8
  go_wp2_with fail
  obtain ⟨A', hA⟩ : ∃ A' : Arg, A' = ⟨n, x1, n1, c1, x2, n2, c2, sc, inp⟩ := ⟨_, rfl⟩
  refine wp_region_inv (by kernel_rfl) (Inv A' w) (by rfl) ?h0 ?hstep ?hend
  case h0 =>
    subst hA
    exact ⟨(Ext.refl w).drew, fun _ => 0, fun _ => 0, fun j => match j with | 10 => .pointer none | 11 => .int .i64 0 | _ => undef, rfl, fun j hj => by rw [Array.getD_eq_getD_getElem?, Array.getElem?_replicate] at hj; split at hj <;> simp at hj, fun j k hj => by rw [Array.getD_eq_getD_getElem?, Array.getElem?_replicate] at hj; split at hj <;> simp at hj⟩
  case hend =>
    rintro L a W hs ⟨hE, lo, hi, v, rfl, h1, h2⟩ hr
    have hall := all_of_ready (by kernel_rfl) hs hr
    have hs' : L.size = 12 := hs
    have e10 := (h1 10 (by rw [← getD_both (by omega)]; exact hall 10 (by decide))).2.2
    have e11 : v 11 = .int .i64 0 := (h1 11 (by rw [← getD_both (by omega)]; exact hall 11 (by decide))).2.2
    obtain ⟨B, e10, hS, hO, hB⟩ := e10
    have F : Aside (Ext w W ∧ Sched W B (List.replicate n 0) (List.replicate n 0) sc inp 0 0 ∧ B.Ok ∧ ∀ b ∈ B.list, w.heap.size ≤ b) := by subst hA; exact ⟨hE, hS, hO, hB⟩
    clear hall hS hO hB hE h1 h2 hr hs hs'
    simp only [frameN, e10, e11]
    go_wp2
    go_ret2
    exact ⟨B, rfl, F.out.2.1, F.out.2.2.1, F.out.2.2.2, F.out.1⟩
  case hstep =>
    rintro L a W hs ⟨hE, lo, hi, v, rfl, h1, h2⟩ i hi K hK
    have hs' : L.size = 12 := hs
    obtain ⟨hi12, hnot, hdep⟩ := ready_iff.1 hi
    have hi12 : i < 12 := hi12
    have fin : ∀ (x : Value) (W' : World), Ext W W' → Phi A' w.heap.size i W.heap.size W'.heap.size x W' → K ((frameN A' v).put (some (slot i)) x) W' := fun x W' he hx => hK _ _ (Inv.step hE h1 h2 hi12 hs' he hx)
    clear hK hi hnot
    subst hA
    match i, hi12 with
    | 0, _ =>
      refine wpOp_at rfl (by rfl) ?_
      simp only [frameN]
      go_simp
      exact fin (.int .i64 n) W (Ext.refl W) rfl
    | 1, _ =>
      have d0 : L.getD 0 false = true := by simpa [Region.binds] using hdep
      have e0 : v 0 = .int .i64 n := (h1 0 d0).2.2
      refine wpOp_at rfl (by rfl) ?_
      have hmk := make_run n hn.2
      simp only [frameN, e0]
      go_simp
      exact Eq.mp (by simp only [frameN, e0]; rfl) (fin (.slice (some ⟨W.heap.size, 0, none⟩) n n) (W.alloc (.cells (madeCells #[.int .i64 0] n) 3)) ((Ext.refl W).alloc _) ⟨W.heap.size, Nat.le_refl _, by rw [World.size_alloc]; omega, rfl, row_made W n⟩)
    | 2, _ =>
      refine wpOp_at rfl (by rfl) ?_
      simp only [frameN]
      go_simp
      exact fin (.int .i64 n) W (Ext.refl W) rfl
    | 3, _ =>
      have d0 : L.getD 2 false = true := by simpa [Region.binds] using hdep
      have e0 : v 2 = .int .i64 n := (h1 2 d0).2.2
      refine wpOp_at rfl (by rfl) ?_
      have hmk := make_run n hn.2
      simp only [frameN, e0]
      go_simp
      exact Eq.mp (by simp only [frameN, e0]; rfl) (fin (.slice (some ⟨W.heap.size, 0, none⟩) n n) (W.alloc (.cells (madeCells #[.int .i64 0] n) 3)) ((Ext.refl W).alloc _) ⟨W.heap.size, Nat.le_refl _, by rw [World.size_alloc]; omega, rfl, row_made W n⟩)
    | 4, _ =>
      refine wpOp_at rfl (by rfl) ?_
      simp only [frameN]
      go_simp
      exact fin (.slice (some x1) n1 c1) W (Ext.refl W) rfl
    | 5, _ =>
      have hd' : L.getD 4 false = true := by simpa [Region.binds] using hdep
      have e0 : v 4 = .slice (some x1) n1 c1 := (h1 4 hd').2.2
      refine wpOp_at rfl (by rfl) ?_
      simp only [frameN, e0]
      go_simp
      refine (feedOf x1 n1 c1 sc W A.out.1 hb1 (fun j hj => hE.cell (A.out.2.2.1 j hj))).mono ?_
      rintro e wa ⟨f, ch, g, rfl, F1, L1, D1, B1⟩
      have hl := Feed.lt F1
      exact Eq.mp (by simp only [frameN, e0]; rfl) (fin (.pointer (some ⟨f, 0, none⟩)) wa B1 ⟨f, ch, g, ⟨L1.1, hl.1, L1.2.1, hl.2.1, L1.2.2, hl.2.2⟩, D1, rfl, F1⟩)
    | 6, _ =>
      refine wpOp_at rfl (by rfl) ?_
      simp only [frameN]
      go_simp
      exact fin (.slice (some x2) n2 c2) W (Ext.refl W) rfl
    | 7, _ =>
      have hd' : L.getD 6 false = true ∧ L.getD 5 false = true := by simpa [Region.binds] using hdep
      have e0 : v 6 = .slice (some x2) n2 c2 := (h1 6 hd'.1).2.2
      refine wpOp_at rfl (by rfl) ?_
      simp only [frameN, e0]
      go_simp
      refine (feedOf x2 n2 c2 inp W A.out.2.1 hb2 (fun j hj => hE.cell (A.out.2.2.2 j hj))).mono ?_
      rintro e wa ⟨f, ch, g, rfl, F1, L1, D1, B1⟩
      have hl := Feed.lt F1
      exact Eq.mp (by simp only [frameN, e0]; rfl) (fin (.pointer (some ⟨f, 0, none⟩)) wa B1 ⟨f, ch, g, ⟨L1.1, hl.1, L1.2.1, hl.2.1, L1.2.2, hl.2.2⟩, D1, rfl, F1⟩)
    | 8, _ =>
      have hd' : L.getD 1 false = true ∧ L.getD 3 false = true ∧ L.getD 5 false = true ∧ L.getD 7 false = true := by simpa [Region.binds] using hdep
      obtain ⟨d1, d3, d5, d7⟩ := hd'
      obtain ⟨l1, u1, b1, p1, q1, e1, R1⟩ := h1 1 d1
      obtain ⟨l3, u3, b3, p3, q3, e3, R3⟩ := h1 3 d3
      obtain ⟨l5, u5, f5, ch5, g5, p5, q5, e5, F5⟩ := h1 5 d5
      obtain ⟨l7, u7, f7, ch7, g7, p7, q7, e7, F7⟩ := h1 7 d7
      have i13 := h2 1 3 d1 d3 (by decide)
      have i15 := h2 1 5 d1 d5 (by decide)
      have i17 := h2 1 7 d1 d7 (by decide)
      have i35 := h2 3 5 d3 d5 (by decide)
      have i37 := h2 3 7 d3 d7 (by decide)
      have i57 := h2 5 7 d5 d7 (by decide)
      refine wpOp_at rfl (by rfl) ?_
      have G : Aside (MadeAgg ⟨n, x1, n1, c1, x2, n2, c2, sc, inp⟩ w.heap.size (.agg #[.slice (some ⟨b1, 0, none⟩) n n, .slice (some ⟨b3, 0, none⟩) n n, .pointer (some ⟨f5, 0, none⟩), .pointer (some ⟨f7, 0, none⟩), .int .i64 0, .int .i64 0]) W) :=
        ⟨⟨0, b1, b3, f5, ch5, g5, f7, ch7, g7⟩, rfl, ⟨by refine ⟨?_, ?_, ?_, ?_, ?_, ?_, ?_⟩ <;> show ¬ _ = _ <;> simp only [] <;> omega, by refine ⟨?_, ?_, ?_, ?_, ?_, ?_⟩ <;> show ¬ _ = _ <;> simp only [] <;> omega, by refine ⟨q5, ?_, ?_, ?_, ?_, ?_, ?_, ?_, ?_, ?_⟩ <;> show ¬ _ = _ <;> simp only [] <;> omega, q7⟩, by refine ⟨?_, ?_, ?_, ?_, ?_, ?_, ?_, ?_⟩ <;> show _ ≤ _ <;> simp only [] <;> omega, R1, R3, F5, F7⟩
      clear i13 i15 i17 i35 i37 i57 p1 q1 p3 q3 p5 q5 p7 q7 R1 R3 F5 F7 l1 u1 l3 u3 l5 u5 l7 u7 h1 h2
      simp only [frameN, e1, e3, e5, e7]
      go_simp
      exact Eq.mp (by simp only [frameN, e1, e3, e5, e7]; rfl) (fin _ W (Ext.refl W) G.out)
    | 9, _ =>
      have d8 : L.getD 8 false = true := by simpa [Region.binds] using hdep
      obtain ⟨l8, u8, B, e8, hP, hge, R1, R3, F5, F7⟩ := h1 8 d8
      have G : Aside (Ext W (W.alloc (.cells #[.slice (some ⟨B.bs, 0, none⟩) n n, .slice (some ⟨B.bp, 0, none⟩) n n, .pointer (some ⟨B.f1, 0, none⟩), .pointer (some ⟨B.f2, 0, none⟩), .int .i64 0, .int .i64 0] 50)) ∧ MadeSched ⟨n, x1, n1, c1, x2, n2, c2, sc, inp⟩ w.heap.size (.pointer (some ⟨W.heap.size, 0, none⟩)) (W.alloc (.cells #[.slice (some ⟨B.bs, 0, none⟩) n n, .slice (some ⟨B.bp, 0, none⟩) n n, .pointer (some ⟨B.f1, 0, none⟩), .pointer (some ⟨B.f2, 0, none⟩), .int .i64 0, .int .i64 0] 50))) := by
        have hx := (Ext.refl W).alloc (.cells #[.slice (some ⟨B.bs, 0, none⟩) n n, .slice (some ⟨B.bp, 0, none⟩) n n, .pointer (some ⟨B.f1, 0, none⟩), .pointer (some ⟨B.f2, 0, none⟩), .int .i64 0, .int .i64 0] 50)
        have l5 := Feed.lt F5
        have l7 := Feed.lt F7
        have l1 : B.bs < W.heap.size := by obtain ⟨c, e, _⟩ := R1; exact lt_of_some e
        have l3 : B.bp < W.heap.size := by obtain ⟨c, e, _⟩ := R3; exact lt_of_some e
        have hz : w.heap.size ≤ W.heap.size := hE.size
        refine ⟨hx, ⟨W.heap.size, B.bs, B.bp, B.f1, B.ch1, B.g1, B.f2, B.ch2, B.g2⟩, rfl, ⟨by simp only [List.length_replicate]; exact heap_alloc_new _ _, hx.row R1, hx.row R3, hx.feed F5, hx.feed F7⟩, ⟨?_, hP.bs, hP.bp, hP.f1, hP.f2⟩, ?_⟩
        · refine ⟨?_, ?_, ?_, ?_, ?_, ?_, ?_, ?_⟩ <;> show ¬ _ = _ <;> simp only [] <;> omega
        · intro b hb
          simp only [Blk.list, List.mem_cons, List.not_mem_nil, or_false] at hb
          obtain ⟨g1, g2, g3, g4, g5, g6, g7, g8⟩ := hge
          rcases hb with rfl | rfl | rfl | rfl | rfl | rfl | rfl | rfl | rfl <;> assumption
      clear l8 u8 hP hge R1 R3 F5 F7 h1 h2
      refine wpOp_at rfl (by rfl) ?_
      simp only [frameN, e8]
      go_simp
      exact Eq.mp (by simp only [frameN, e8]; rfl) (fin _ _ G.out.1 G.out.2)
    | 10, _ =>
      have d9 : L.getD 9 false = true := by simp [Region.binds] at hdep; first | exact hdep.1 | simpa using hdep.1 | (simp; exact hdep.1)
      refine wpOp_at rfl (by rfl) ?_
      have G : Aside (MadeSched ⟨n, x1, n1, c1, x2, n2, c2, sc, inp⟩ w.heap.size (v 9) W) := (h1 9 d9).2.2
      clear h1 h2 hdep d9
      simp only [frameN]
      go_simp
      exact fin (v 9) W (Ext.refl W) G.out
    | 11, _ =>
      refine wpOp_at rfl (by rfl) ?_
      simp only [frameN]
      go_simp
      exact fin (.int .i64 0) W (Ext.refl W) rfl
end Go.Proofs.Ytmnfeljfemobkaa.new
