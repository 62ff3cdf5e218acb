/- What code.Text answers: walks. -/
import Derived.Test.YtnegdimhejldfaaGreatDoorEv
import Derived.Lib.ItoaLen
namespace Go.Proofs.YtnegdimhejldfaaGreatDoor.cw
open Go Go.RowKit Go.Lib Go.Proofs Go.Joins Go.Proofs.YtnegdimhejldfaaGreatDoor.dec
set_option linter.unusedVariables false
set_option maxRecDepth 100000
variable {w : World}
theorem of_is (T : TabOk) (h : Ev w) (op : Nat) (hop : op < 47) (x y : Int) (hx : (ka op : Nat) = x) (hy : (kb op : Nat) = y) : Calls Tryz.prog 20 #[.int .i64 op] w fun e w' => e = .returned (.tuple #[.agg #[.string (bs (nm op)), .int .i64 x, .int .i64 y], .bool true]) ∧ Ext w w' := by
  subst hx hy
  exact of_ok T h op hop
set_option maxHeartbeats 4000000 in
theorem text_0 (T : TabOk) (h : Ev w) (op : Nat) (hop : op < 47) (A B y : Int) (hx : ka op = 0) (hy : (kb op : Nat) = y) : Calls Tryz.prog 6 #[.agg #[.int .i64 op, .int .i64 A, .int .i64 B]] w fun e w' => e = .returned (.tuple #[.string (bs (nm op)), .int .i64 0]) ∧ Ext w w' := by
  have H : Aside (Ev w ∧ op < 47 ∧ ((ka op : Nat) : Int) = 0 ∧ ((kb op : Nat) : Int) = y) := ⟨h, hop, by rw [hx]; rfl, hy⟩
  clear h hop hx hy
  go_enter Tryz.func6, Tryz.ntmps6
  go_wp2_with (go_at_call 20; refine (of_is T (H.out.1.ext ((Ext.refl w).alloc _)) op H.out.2.1 0 y H.out.2.2.1 H.out.2.2.2).mono ?_; rintro e w1 ⟨rfl, h4⟩; have K : Aside (Ext w w1) := ((Ext.refl w).alloc _).trans h4; obtain ⟨e1, e2⟩ := bcell h4; clear h4)
  go_ret2
  exact ⟨rfl, K.out.alloc _⟩
theorem mixed : Tryz.prog.follows .mixedOrders = true := by kernel_rfl
theorem nm_len : ∀ op, op < 47 → (nm op).length ≤ 11 := by decide
theorem bs_size (l : List UInt8) : (bs l).size = l.length := by simp [ByteArray.size]
theorem new_cell (w : World) (cs : Array Value) (t i : Nat) : (w.alloc (.cells cs t)).cell? ⟨w.heap.size, i, none⟩ = cs[i]? := by
  unfold World.cell?
  rw [heap_alloc_new]
  rfl
theorem bs_app (a b : List UInt8) : bs a ++ bs b = bs (a ++ b) := by
  apply ByteArray.ext
  simp [bs]
theorem itoa_len (A : Int) (hA : -9223372036854775808 ≤ A ∧ A ≤ 9223372036854775807) : (itoa A).length ≤ 21 := itoa_length_le A hA.1 hA.2
set_option maxHeartbeats 8000000 in
theorem text_1 (T : TabOk) (h : Ev w) (op : Nat) (hop : op < 47) (A B x : Int) (hA : -9223372036854775808 ≤ A ∧ A ≤ 9223372036854775807) (hx : (ka op : Nat) = x) (hx0 : (x == 0) = false) (hx3 : (x == 3) = false) (hy : kb op = 0) : Calls Tryz.prog 6 #[.agg #[.int .i64 op, .int .i64 A, .int .i64 B]] w fun e w' => e = .returned (.tuple #[.string (bs (nm op ++ 32 :: itoa A)), .int .i64 0]) ∧ Ext w w' := by
  have H : Aside (Ev w ∧ op < 47 ∧ ((ka op : Nat) : Int) = x ∧ ((kb op : Nat) : Int) = 0 ∧ -9223372036854775808 ≤ A ∧ A ≤ 9223372036854775807) := ⟨h, hop, hx, by rw [hy]; rfl, hA⟩
  obtain ⟨S, hS⟩ : ∃ S, S = bs (nm op) := ⟨_, rfl⟩
  obtain ⟨I, hI⟩ : ∃ I, I = bs (itoa A) := ⟨_, rfl⟩
  have zS : S.size ≤ 11 := by rw [hS, bs_size]; exact nm_len op hop
  have zI : I.size ≤ 21 := by rw [hI, bs_size]; exact itoa_len A hA
  have n1 : ¬ 9223372036854775807 < S.size + 1 := by omega
  have n2 : ¬ 9223372036854775807 < S.size + 1 + I.size := by omega
  have T20 : Aside (∀ w, Ev w → Calls Tryz.prog 20 #[.int .i64 op] w fun e w' => e = .returned (.tuple #[.agg #[.string S, .int .i64 x, .int .i64 0], .bool true]) ∧ Ext w w') := fun w h => by rw [hS]; exact of_is T h op H.out.2.1 x 0 H.out.2.2.1 H.out.2.2.2.1
  have T22 : Aside (∀ w, Ev w → Calls Tryz.prog 22 #[.int .i64 A] w fun e w' => e = .returned (.string I) ∧ Ext w w') := fun w h => by rw [hI]; exact itoa_ok h A H.out.2.2.2.2.1 H.out.2.2.2.2.2
  have F : Aside (S = bs (nm op) ∧ I = bs (itoa A)) := ⟨hS, hI⟩
  clear h hop hx hy hA hS hI zS zI
  go_enter Tryz.func6, Tryz.ntmps6
  go_wp2_with (go_at_call 20; refine (T20.out _ (H.out.1.ext ((Ext.refl w).alloc _))).mono ?_; rintro e w1 ⟨rfl, h4⟩; have K : Aside (Ext w w1) := ((Ext.refl w).alloc _).trans h4; obtain ⟨e1, e2⟩ := bcell h4; clear h4)
  have c1 : (w1.alloc (.cells #[.string S, .int .i64 x, .int .i64 0] 44)).cell? ⟨w1.heap.size, 0, none⟩ = some (.string S) := new_cell ..
  have c2 : (w1.alloc (.cells #[.string S, .int .i64 x, .int .i64 0] 44)).cell? ⟨w.heap.size, 1, none⟩ = some (.int .i64 A) := by
    rw [((Ext.refl w1).alloc _).cell (v := .int .i64 A) (by rw [e1 _ _ (by simp)]; exact new_cell ..)]
  obtain ⟨W, hW⟩ : ∃ W, W = w1.alloc (.cells #[.string S, .int .i64 x, .int .i64 0] 44) := ⟨_, rfl⟩
  rw [← hW] at c1 c2 ⊢
  have KW : Aside (Ext w W) := by rw [hW]; exact K.out.alloc _
  clear hW e1 e2
  have k1 := cell_regrown c1
  have k2 := cell_regrown c2
  have cI : ∀ d os, Calls Tryz.prog 22 #[.int .i64 A] (Sort.grow (redrawn W d) os) fun e w'' => e = .returned (.string I) ∧ ∃ p : Regrown, w'' = Sort.grow (redrawn W p.d) p.os := fun d os => Calls.regrown_of (T22.out _ (H.out.1.ext (KW.out.trans (below_regrown W d os))))
  clear c1 c2
  refine wp_region_quiet_below mixed (by kernel_rfl) ?_
  repeat (quiet_step (exact cI _ _))
  refine wpQuiet_nil ?_
  intro _ hw'
  obtain ⟨⟨dq, osq⟩, hw''⟩ := hw'
  subst hw''
  go_wp2_with fail
  go_ret2
  have f : S ++ ⟨#[32]⟩ ++ I = bs (nm op ++ 32 :: itoa A) := by rw [F.out.1, F.out.2, show (⟨#[32]⟩ : ByteArray) = bs [32] from rfl, bs_app, bs_app]; simp
  exact ⟨by show Ending.returned (.tuple #[.string (S ++ ⟨#[32]⟩ ++ I), .int .i64 0]) = _; rw [f], KW.out.trans (below_regrown W dq osq)⟩
set_option maxHeartbeats 8000000 in
theorem text_2 (T : TabOk) (h : Ev w) (op : Nat) (hop : op < 47) (A B x y : Int) (hA : -9223372036854775808 ≤ A ∧ A ≤ 9223372036854775807) (hB : -9223372036854775808 ≤ B ∧ B ≤ 9223372036854775807) (hx : (ka op : Nat) = x) (hx0 : (x == 0) = false) (hx3 : (x == 3) = false) (hy : (kb op : Nat) = y) (hy0 : (y == 0) = false) : Calls Tryz.prog 6 #[.agg #[.int .i64 op, .int .i64 A, .int .i64 B]] w fun e w' => e = .returned (.tuple #[.string (bs (nm op ++ 32 :: (itoa A ++ 32 :: itoa B))), .int .i64 0]) ∧ Ext w w' := by
  have H : Aside (Ev w ∧ op < 47 ∧ ((ka op : Nat) : Int) = x ∧ ((kb op : Nat) : Int) = y ∧ (-9223372036854775808 ≤ A ∧ A ≤ 9223372036854775807) ∧ -9223372036854775808 ≤ B ∧ B ≤ 9223372036854775807) := ⟨h, hop, hx, hy, hA, hB⟩
  obtain ⟨S, hS⟩ : ∃ S, S = bs (nm op) := ⟨_, rfl⟩
  obtain ⟨I, hI⟩ : ∃ I, I = bs (itoa A) := ⟨_, rfl⟩
  obtain ⟨J, hJ⟩ : ∃ J, J = bs (itoa B) := ⟨_, rfl⟩
  have zS : S.size ≤ 11 := by rw [hS, bs_size]; exact nm_len op hop
  have zI : I.size ≤ 21 := by rw [hI, bs_size]; exact itoa_len A hA
  have zJ : J.size ≤ 21 := by rw [hJ, bs_size]; exact itoa_len B hB
  have n1 : ¬ 9223372036854775807 < S.size + 1 := by omega
  have n2 : ¬ 9223372036854775807 < S.size + 1 + I.size := by omega
  have n3 : ¬ 9223372036854775807 < S.size + 1 + I.size + 1 := by omega
  have n4 : ¬ 9223372036854775807 < S.size + 1 + I.size + 1 + J.size := by omega
  have T20 : Aside (∀ w, Ev w → Calls Tryz.prog 20 #[.int .i64 op] w fun e w' => e = .returned (.tuple #[.agg #[.string S, .int .i64 x, .int .i64 y], .bool true]) ∧ Ext w w') := fun w h => by rw [hS]; exact of_is T h op H.out.2.1 x y H.out.2.2.1 H.out.2.2.2.1
  have T22 : Aside (∀ w, Ev w → Calls Tryz.prog 22 #[.int .i64 A] w fun e w' => e = .returned (.string I) ∧ Ext w w') := fun w h => by rw [hI]; exact itoa_ok h A H.out.2.2.2.2.1.1 H.out.2.2.2.2.1.2
  have T23 : Aside (∀ w, Ev w → Calls Tryz.prog 22 #[.int .i64 B] w fun e w' => e = .returned (.string J) ∧ Ext w w') := fun w h => by rw [hJ]; exact itoa_ok h B H.out.2.2.2.2.2.1 H.out.2.2.2.2.2.2
  have F : Aside (S = bs (nm op) ∧ I = bs (itoa A) ∧ J = bs (itoa B)) := ⟨hS, hI, hJ⟩
  clear h hop hx hy hA hB hS hI hJ zS zI zJ
  go_enter Tryz.func6, Tryz.ntmps6
  go_wp2_with (go_at_call 20; refine (T20.out _ (H.out.1.ext ((Ext.refl w).alloc _))).mono ?_; rintro e w1 ⟨rfl, h4⟩; have K : Aside (Ext w w1) := ((Ext.refl w).alloc _).trans h4; obtain ⟨e1, e2⟩ := bcell h4; clear h4)
  have c1 : (w1.alloc (.cells #[.string S, .int .i64 x, .int .i64 y] 44)).cell? ⟨w1.heap.size, 0, none⟩ = some (.string S) := new_cell ..
  have c2 : (w1.alloc (.cells #[.string S, .int .i64 x, .int .i64 y] 44)).cell? ⟨w.heap.size, 1, none⟩ = some (.int .i64 A) := by
    rw [((Ext.refl w1).alloc _).cell (v := .int .i64 A) (by rw [e1 _ _ (by simp)]; exact new_cell ..)]
  have c3 : (w1.alloc (.cells #[.string S, .int .i64 x, .int .i64 y] 44)).cell? ⟨w.heap.size, 2, none⟩ = some (.int .i64 B) := by
    rw [((Ext.refl w1).alloc _).cell (v := .int .i64 B) (by rw [e1 _ _ (by simp)]; exact new_cell ..)]
  obtain ⟨W, hW⟩ : ∃ W, W = w1.alloc (.cells #[.string S, .int .i64 x, .int .i64 y] 44) := ⟨_, rfl⟩
  rw [← hW] at c1 c2 c3 ⊢
  have KW : Aside (Ext w W) := by rw [hW]; exact K.out.alloc _
  clear hW e1 e2
  have k1 := cell_regrown c1
  have k2 := cell_regrown c2
  have k3 := cell_regrown c3
  have cI : ∀ d os, Calls Tryz.prog 22 #[.int .i64 A] (Sort.grow (redrawn W d) os) fun e w'' => e = .returned (.string I) ∧ ∃ p : Regrown, w'' = Sort.grow (redrawn W p.d) p.os := fun d os => Calls.regrown_of (T22.out _ (H.out.1.ext (KW.out.trans (below_regrown W d os))))
  have cJ : ∀ d os, Calls Tryz.prog 22 #[.int .i64 B] (Sort.grow (redrawn W d) os) fun e w'' => e = .returned (.string J) ∧ ∃ p : Regrown, w'' = Sort.grow (redrawn W p.d) p.os := fun d os => Calls.regrown_of (T23.out _ (H.out.1.ext (KW.out.trans (below_regrown W d os))))
  clear c1 c2 c3
  refine wp_region_quiet_below mixed (by kernel_rfl) ?_
  repeat (quiet_step (first | exact cI _ _ | exact cJ _ _))
  refine wpQuiet_nil ?_
  intro _ hw'
  obtain ⟨⟨dq, osq⟩, hw''⟩ := hw'
  subst hw''
  go_wp2_with fail
  go_ret2
  have f : S ++ ⟨#[32]⟩ ++ I ++ ⟨#[32]⟩ ++ J = bs (nm op ++ 32 :: (itoa A ++ 32 :: itoa B)) := by rw [F.out.1, F.out.2.1, F.out.2.2, show (⟨#[32]⟩ : ByteArray) = bs [32] from rfl, bs_app, bs_app, bs_app, bs_app]; simp
  exact ⟨by show Ending.returned (.tuple #[.string (S ++ ⟨#[32]⟩ ++ I ++ ⟨#[32]⟩ ++ J), .int .i64 0]) = _; rw [f], KW.out.trans (below_regrown W dq osq)⟩
theorem opers_len : ∀ i, i < 12 → (opers.getD i []).length ≤ 4 := by decide
set_option maxHeartbeats 8000000 in
theorem text_3 (T : TabOk) (h : Ev w) (op : Nat) (hop : op < 47) (i : Nat) (hi : i < 12) (B y : Int) (hx : ka op = 3) (hy : (kb op : Nat) = y) : Calls Tryz.prog 6 #[.agg #[.int .i64 op, .int .i64 i, .int .i64 B]] w fun e w' => e = .returned (.tuple #[.string (bs (nm op ++ 32 :: opers.getD i [])), .int .i64 0]) ∧ Ext w w' := by
  have H : Aside (Ev w ∧ op < 47 ∧ ((ka op : Nat) : Int) = 3 ∧ ((kb op : Nat) : Int) = y ∧ i < 12) := ⟨h, hop, by rw [hx]; rfl, hy, hi⟩
  obtain ⟨S, hS⟩ : ∃ S, S = bs (nm op) := ⟨_, rfl⟩
  obtain ⟨I, hI⟩ : ∃ I, I = bs (opers.getD i []) := ⟨_, rfl⟩
  have zS : S.size ≤ 11 := by rw [hS, bs_size]; exact nm_len op hop
  have zI : I.size ≤ 4 := by rw [hI, bs_size]; exact opers_len i hi
  have n1 : ¬ 9223372036854775807 < S.size + 1 := by omega
  have n2 : ¬ 9223372036854775807 < S.size + 1 + I.size := by omega
  have d1 : decide ((i : Int) < 0) = false := decide_eq_false (by omega)
  have d2 : decide ((i : Int) ≥ 12) = false := decide_eq_false (by omega)
  have d3 : decide ((12 : Int) ≤ (i : Int)) = false := decide_eq_false (by omega)
  have q1 : (0 : Int) ≤ i := by omega
  have q2 : (i : Int) < 12 := by omega
  have T20 : Aside (∀ w, Ev w → Calls Tryz.prog 20 #[.int .i64 op] w fun e w' => e = .returned (.tuple #[.agg #[.string S, .int .i64 3, .int .i64 y], .bool true]) ∧ Ext w w') := fun w h => by rw [hS]; exact of_is T h op H.out.2.1 3 y H.out.2.2.1 H.out.2.2.2.1
  have F : Aside (S = bs (nm op) ∧ I = bs (opers.getD i [])) := ⟨hS, hI⟩
  clear h hop hx hy hi hS hI zS zI
  go_enter Tryz.func6, Tryz.ntmps6
  go_wp2_with (first
    | (go_at_call 20; refine (T20.out _ (H.out.1.ext ((Ext.refl w).alloc _))).mono ?_; rintro e w1 ⟨rfl, h4⟩; have K : Aside (Ext w w1) := ((Ext.refl w).alloc _).trans h4; obtain ⟨e1, e2⟩ := bcell h4; clear h4)
    | (go_at_call 21; refine (opers_ok (H.out.1.ext (K.out.alloc _))).mono ?_; rintro e w2 ⟨g, rfl, h1, h2, h3⟩; have K2 : Aside (Ext w w2) := (K.out.alloc _).trans h3; have b0 : w2.cell? ⟨w1.heap.size, 0, none⟩ = some (.string S) := h3.cell (new_cell ..); have b1 : w2.cell? ⟨w.heap.size, 1, none⟩ = some (.int .i64 i) := h3.cell (((Ext.refl w1).alloc _).cell (by rw [e1 _ _ (by simp)]; exact new_cell ..)); have b2 := h2.cell H.out.2.2.2.2; rw [← F.out.2] at b2; clear h1 h2 h3 e1 e2))
  go_quiet (fail)
  go_wp2_with fail
  go_ret2
  have f : S ++ ⟨#[32]⟩ ++ I = bs (nm op ++ 32 :: opers.getD i []) := by rw [F.out.1, F.out.2, show (⟨#[32]⟩ : ByteArray) = bs [32] from rfl, bs_app, bs_app]; simp
  exact ⟨by show Ending.returned (.tuple #[.string (S ++ ⟨#[32]⟩ ++ I), .int .i64 0]) = _; rw [f], K2.out.drewN _⟩
set_option maxHeartbeats 8000000 in
theorem text_3b (T : TabOk) (h : Ev w) (op : Nat) (hop : op < 47) (A B y : Int) (hA : A < 0 ∨ 12 ≤ A) (hx : ka op = 3) (hy : (kb op : Nat) = y) : Calls Tryz.prog 6 #[.agg #[.int .i64 op, .int .i64 A, .int .i64 B]] w fun e w' => e = .returned (.tuple #[.string ⟨#[]⟩, .int .i64 1602]) ∧ Ext w w' := by
  have H : Aside (Ev w ∧ op < 47 ∧ ((ka op : Nat) : Int) = 3 ∧ ((kb op : Nat) : Int) = y) := ⟨h, hop, by rw [hx]; rfl, hy⟩
  have T20 : Aside (∀ w, Ev w → Calls Tryz.prog 20 #[.int .i64 op] w fun e w' => e = .returned (.tuple #[.agg #[.string (bs (nm op)), .int .i64 3, .int .i64 y], .bool true]) ∧ Ext w w') := fun w h => of_is T h op H.out.2.1 3 y H.out.2.2.1 H.out.2.2.2
  clear h hop hx hy
  by_cases h0 : A < 0
  · have d1 : decide (A < 0) = true := decide_eq_true h0
    clear hA h0
    go_enter Tryz.func6, Tryz.ntmps6
    go_wp2_with (first
      | (go_at_call 20; refine (T20.out _ (H.out.1.ext ((Ext.refl w).alloc _))).mono ?_; rintro e w1 ⟨rfl, h4⟩; have K : Aside (Ext w w1) := ((Ext.refl w).alloc _).trans h4; obtain ⟨e1, e2⟩ := bcell h4; clear h4)
      | (go_at_call 21; refine (opers_ok (H.out.1.ext (K.out.alloc _))).mono ?_; rintro e w2 ⟨g, rfl, h1, h2, h3⟩; have K2 : Aside (Ext w w2) := (K.out.alloc _).trans h3; have b1 : w2.cell? ⟨w.heap.size, 1, none⟩ = some (.int .i64 A) := h3.cell (((Ext.refl w1).alloc _).cell (by rw [e1 _ _ (by simp)]; exact new_cell ..)); clear h1 h2 h3 e1 e2))
    go_ret2
    exact ⟨rfl, K2.out⟩
  · have d1 : decide (A < 0) = false := decide_eq_false h0
    have d2 : decide (A ≥ 12) = true := decide_eq_true (by omega)
    have d3 : decide (12 ≤ A) = true := decide_eq_true (by omega)
    clear hA h0
    go_enter Tryz.func6, Tryz.ntmps6
    go_wp2_with (first
      | (go_at_call 20; refine (T20.out _ (H.out.1.ext ((Ext.refl w).alloc _))).mono ?_; rintro e w1 ⟨rfl, h4⟩; have K : Aside (Ext w w1) := ((Ext.refl w).alloc _).trans h4; obtain ⟨e1, e2⟩ := bcell h4; clear h4)
      | (go_at_call 21; refine (opers_ok (H.out.1.ext (K.out.alloc _))).mono ?_; rintro e w2 ⟨g, rfl, h1, h2, h3⟩; have K2 : Aside (Ext w w2) := (K.out.alloc _).trans h3; have b1 : w2.cell? ⟨w.heap.size, 1, none⟩ = some (.int .i64 A) := h3.cell (((Ext.refl w1).alloc _).cell (by rw [e1 _ _ (by simp)]; exact new_cell ..)); clear h1 h2 h3 e1 e2))
    go_ret2
    exact ⟨rfl, K2.out⟩
theorem kb_cases : ∀ op, op < 47 → ka op ≠ 0 → ka op ≠ 3 → kb op ≠ 0 → kb op = 12 := by decide
theorem ka_le : ∀ op, op < 47 → ka op ≤ 12 ∧ kb op ≤ 12 := by decide
/-- an instruction's words -/
theorem text_ok (T : TabOk) (h : Ev w) (op : Nat) (hop : op < 47) (A B : Int) (hA : -9223372036854775808 ≤ A ∧ A ≤ 9223372036854775807) (hB : -9223372036854775808 ≤ B ∧ B ≤ 9223372036854775807) : Calls Tryz.prog 6 #[.agg #[.int .i64 op, .int .i64 A, .int .i64 B]] w fun e w' => e = .returned (match txt op A B with | some s => .tuple #[.string (bs s), .int .i64 0] | none => .tuple #[.string ⟨#[]⟩, .int .i64 1602]) ∧ Ext w w' := by
  by_cases k0 : ka op = 0
  · rw [show txt op A B = some (nm op) by unfold txt; rw [if_pos k0]]
    exact text_0 T h op hop A B _ k0 rfl
  · by_cases k3 : ka op = 3
    · by_cases hi : 0 ≤ A ∧ A < 12
      · rw [show txt op A B = some (nm op ++ 32 :: opw A) by unfold txt; rw [if_neg k0, if_pos k3, if_pos hi]]
        obtain ⟨i, rfl⟩ : ∃ i : Nat, A = i := ⟨A.toNat, by omega⟩
        exact text_3 T h op hop i (by omega) B _ k3 rfl
      · rw [show txt op A B = none by unfold txt; rw [if_neg k0, if_pos k3, if_neg hi]]
        exact text_3b T h op hop A B _ (by omega) k3 rfl
    · have x0 : ((((ka op : Nat) : Int)) == 0) = false := by simpa using k0
      have x3 : ((((ka op : Nat) : Int)) == 3) = false := by rw [beq_eq_false_iff_ne]; omega
      by_cases kb0 : kb op = 0
      · rw [show txt op A B = some (nm op ++ 32 :: itoa A) by unfold txt; rw [if_neg k0, if_neg k3, if_pos kb0]]
        exact text_1 T h op hop A B _ hA rfl x0 x3 kb0
      · rw [show txt op A B = some (nm op ++ 32 :: (itoa A ++ 32 :: itoa B)) by unfold txt; rw [if_neg k0, if_neg k3, if_neg kb0]]
        exact text_2 T h op hop A B _ _ hA hB rfl x0 x3 rfl (by simpa using kb0)
end Go.Proofs.YtnegdimhejldfaaGreatDoor.cw
