/- What gneissref16.Text answers: the walk. -/
import Derived.Test.YtnegdimhejldfaaGreatDoorMu
import Derived.Test.YtnegdimhejldfaaGreatDoorWh
import Derived.Test.YtnegdimhejldfaaGreatDoorBk
namespace Go.Proofs.YtnegdimhejldfaaGreatDoor.cw
open Go Go.RowKit Go.Lib Go.Proofs Go.Joins Go.Proofs.YtnegdimhejldfaaGreatDoor.dec
set_option linter.unusedVariables false
set_option maxRecDepth 100000
variable {w : World}
theorem ins_cells {w W : World} {x y z : Value} (h : Ext (w.alloc (.cells #[x, y, z] 23)) W) : W.cell? ⟨w.heap.size, 0, none⟩ = some x ∧ W.cell? ⟨w.heap.size, 1, none⟩ = some y ∧ W.cell? ⟨w.heap.size, 2, none⟩ = some z := by
  obtain ⟨h1, h2, h3⟩ := cells3 (new_cell3 w x y z)
  exact ⟨h.cell h1, h.cell h2, h.cell h3⟩
theorem ext_in {w W : World} {o : Obj} (h : Ext (w.alloc o) W) : Ext w W := ((Ext.refl w).alloc o).trans h
theorem rtext_out (o a b : Int) (ho : o < 0 ∨ 46 < o) : Calls Tryz.prog 7 #[.agg #[.int .i64 o, .int .i64 a, .int .i64 b]] w fun e w' => e = .returned (.tuple #[.string ⟨#[]⟩, .int .i64 1600]) ∧ Ext w w' := by
  rcases Decidable.em (o < 0) with h | h
  · have d1 : decide (o < 0) = true := decide_eq_true h
    clear ho
    go_enter Tryz.func7, Tryz.ntmps7
    go_wp2_with fail
    go_ret2
    exact ⟨rfl, (Ext.refl w).alloc _⟩
  · have d1 : decide (o < 0) = false := decide_eq_false h
    have d2 : decide ((46 : Int) < o) = true := decide_eq_true (by omega)
    clear ho
    go_enter Tryz.func7, Tryz.ntmps7
    go_wp2_with fail
    go_ret2
    exact ⟨rfl, (Ext.refl w).alloc _⟩
theorem texts_cell {W : World} {g : Nat} (h : Texts W g words) {q : Nat} (hq : q < 47) : W.cell? ⟨g, q, none⟩ = some (.string (bs (nm q))) := h.cell hq
set_option maxHeartbeats 8000000 in
theorem rtext_0 (q : Nat) (hq : q < 47) (a b : Int) (h8 : q ≠ 8) (har : ar q = 0) : Calls Tryz.prog 7 #[.agg #[.int .i64 q, .int .i64 a, .int .i64 b]] w fun e w' => e = .returned (.tuple #[.string (bs (nm q)), .int .i64 0]) ∧ Ext w w' := by
  have q1 : (0 : Int) ≤ q := by omega
  have q2 : (q : Int) < 47 := by omega
  have q3 : decide ((q : Int) < 0) = false := decide_eq_false (by omega)
  have q4 : decide ((46 : Int) < q) = false := decide_eq_false (by omega)
  obtain ⟨S, hS⟩ : ∃ S, S = bs (nm q) := ⟨_, rfl⟩
  have zS : S.size ≤ 11 := by rw [hS, bs_size]; exact nm_len q hq
  have T14 : Aside (∀ w, Calls Tryz.prog 14 #[] w fun e w' => ∃ g c, e = .returned (.slice (some ⟨g, 0, none⟩) 47 c) ∧ 47 ≤ c ∧ w.heap.size ≤ g ∧ w'.cell? ⟨g, q, none⟩ = some (.string S) ∧ Ext w w') := fun w => (mt.texts_run w 14 words mt.names14 (by decide) mt.words_small).mono fun e w' ⟨g, c, h1, h2, h3, h4, h5, h6⟩ => ⟨g, c, h1, h2, h3, by rw [hS]; exact texts_cell h4 hq, h6⟩
  have b8 : ((q : Int) == 8) = false := beq_eq_false_iff_ne.2 (by omega)
  have T24 : Aside (∀ w, Calls Tryz.prog 24 #[.int .i64 q] w fun e w' => e = .returned (.int .i64 0) ∧ Ext w w') := fun w => by
    have := mt.operands_ok w q hq
    rw [har] at this
    exact this
  have F : Aside (S = bs (nm q)) := hS
  clear hS zS har h8
  go_enter Tryz.func7, Tryz.ntmps7
  go_wp2_with fail
  go_cut [4] (fun s4 wx => s4 = .string S ∧ Aside (Ext (w.alloc (.cells #[.int .i64 q, .int .i64 a, .int .i64 b] 23)) wx))
  case first =>
    have E : Aside (Ext (w.alloc (.cells #[.int .i64 q, .int .i64 a, .int .i64 b] 23)) (w.alloc (.cells #[.int .i64 q, .int .i64 a, .int .i64 b] 23))) := Ext.refl _
    obtain ⟨c0, c1, c2⟩ := ins_cells E.out
    go_region_with (go_at_call 14; refine (T14.out _).mono ?_; rintro e w1 ⟨g, c, rfl, h1, h2, h3, h4⟩; obtain ⟨k0, k1, k2⟩ := ins_cells (E.out.drew.trans h4); have E1 : Aside (47 ≤ c ∧ Ext (w.alloc (.cells #[.int .i64 q, .int .i64 a, .int .i64 b] 23)) w1) := ⟨h1, E.out.drew.trans h4⟩; clear h4 h2 h1)
    all_goals (go_wp2_with fail; go_meet; exact ⟨rfl, E1.out.2⟩)
  case rest =>
    obtain ⟨rfl, hcut⟩ := hcut
    obtain ⟨c0, c1, c2⟩ := ins_cells hcut.out
    go_wp2_with (first | (go_at_call 24; (with_reducible refine (T24.out wc).mono ?_); rintro e w2 ⟨rfl, h4⟩; have E2 : Aside (Ext (w.alloc (.cells #[.int .i64 q, .int .i64 a, .int .i64 b] 23)) w2) := hcut.out.trans h4; obtain ⟨k0, k1, k2⟩ := ins_cells E2.out; clear h4) | (go_at_call 24; (with_reducible refine (T24.out w2).mono ?_); rintro e w3 ⟨rfl, h4⟩; have E3 : Aside (Ext (w.alloc (.cells #[.int .i64 q, .int .i64 a, .int .i64 b] 23)) w3) := E2.out.trans h4; obtain ⟨l0, l1, l2⟩ := ins_cells E3.out; clear h4))
    go_ret2
    exact ⟨by rw [← F.out]; rfl, ext_in E3.out⟩
set_option maxHeartbeats 8000000 in
theorem rtext_1 (q : Nat) (hq : q < 47) (a b : Int) (ha : -9223372036854775808 ≤ a ∧ a ≤ 9223372036854775807) (h8 : q ≠ 8) (har : ar q = 1) : Calls Tryz.prog 7 #[.agg #[.int .i64 q, .int .i64 a, .int .i64 b]] w fun e w' => e = .returned (.tuple #[.string (bs (nm q ++ 32 :: itoa a)), .int .i64 0]) ∧ Ext w w' := by
  have q1 : (0 : Int) ≤ q := by omega
  have q2 : (q : Int) < 47 := by omega
  have q3 : decide ((q : Int) < 0) = false := decide_eq_false (by omega)
  have q4 : decide ((46 : Int) < q) = false := decide_eq_false (by omega)
  obtain ⟨S, hS⟩ : ∃ S, S = bs (nm q) := ⟨_, rfl⟩
  have zS : S.size ≤ 11 := by rw [hS, bs_size]; exact nm_len q hq
  have T14 : Aside (∀ w, Calls Tryz.prog 14 #[] w fun e w' => ∃ g c, e = .returned (.slice (some ⟨g, 0, none⟩) 47 c) ∧ 47 ≤ c ∧ w.heap.size ≤ g ∧ w'.cell? ⟨g, q, none⟩ = some (.string S) ∧ Ext w w') := fun w => (mt.texts_run w 14 words mt.names14 (by decide) mt.words_small).mono fun e w' ⟨g, c, h1, h2, h3, h4, h5, h6⟩ => ⟨g, c, h1, h2, h3, by rw [hS]; exact texts_cell h4 hq, h6⟩
  have b8 : ((q : Int) == 8) = false := beq_eq_false_iff_ne.2 (by omega)
  obtain ⟨I, hI⟩ : ∃ I, I = bs (itoa a) := ⟨_, rfl⟩
  have zI : I.size ≤ 21 := by rw [hI, bs_size]; exact itoa_len a ha
  have n1 : ¬ 9223372036854775807 < S.size + 1 := by omega
  have n2 : ¬ 9223372036854775807 < S.size + 1 + I.size := by omega
  have TA : Aside (∀ w, Calls Tryz.prog 25 #[.int .i64 a] w fun e w' => e = .returned (.string I) ∧ Ext w w') := fun w => by rw [hI]; exact decimal_ok a ha.1 ha.2
  have T24 : Aside (∀ w, Calls Tryz.prog 24 #[.int .i64 q] w fun e w' => e = .returned (.int .i64 1) ∧ Ext w w') := fun w => by
    have := mt.operands_ok w q hq
    rw [har] at this
    exact this
  have F : Aside (S = bs (nm q) ∧ I = bs (itoa a)) := ⟨hS, hI⟩
  clear hS zS har h8 hI zI ha
  go_enter Tryz.func7, Tryz.ntmps7
  go_wp2_with fail
  go_cut [4] (fun s4 wx => s4 = .string S ∧ Aside (Ext (w.alloc (.cells #[.int .i64 q, .int .i64 a, .int .i64 b] 23)) wx))
  case first =>
    have E : Aside (Ext (w.alloc (.cells #[.int .i64 q, .int .i64 a, .int .i64 b] 23)) (w.alloc (.cells #[.int .i64 q, .int .i64 a, .int .i64 b] 23))) := Ext.refl _
    obtain ⟨c0, c1, c2⟩ := ins_cells E.out
    go_region_with (go_at_call 14; refine (T14.out _).mono ?_; rintro e w1 ⟨g, c, rfl, h1, h2, h3, h4⟩; obtain ⟨k0, k1, k2⟩ := ins_cells (E.out.drew.trans h4); have E1 : Aside (47 ≤ c ∧ Ext (w.alloc (.cells #[.int .i64 q, .int .i64 a, .int .i64 b] 23)) w1) := ⟨h1, E.out.drew.trans h4⟩; clear h4 h2 h1)
    all_goals (go_wp2_with fail; go_meet; exact ⟨rfl, E1.out.2⟩)
  case rest =>
    obtain ⟨rfl, hcut⟩ := hcut
    obtain ⟨c0, c1, c2⟩ := ins_cells hcut.out
    go_wp2_with (first | (go_at_call 24; (with_reducible refine (T24.out wc).mono ?_); rintro e w2 ⟨rfl, h4⟩; have E2 : Aside (Ext (w.alloc (.cells #[.int .i64 q, .int .i64 a, .int .i64 b] 23)) w2) := hcut.out.trans h4; obtain ⟨k0, k1, k2⟩ := ins_cells E2.out; clear h4) | (go_at_call 25; (with_reducible refine (TA.out w2).mono ?_); rintro e w4 ⟨rfl, h4⟩; have E4 : Aside (Ext (w.alloc (.cells #[.int .i64 q, .int .i64 a, .int .i64 b] 23)) w4) := E2.out.trans h4; obtain ⟨m0, m1, m2⟩ := ins_cells E4.out; clear h4) | (go_at_call 24; (with_reducible refine (T24.out w4).mono ?_); rintro e w3 ⟨rfl, h4⟩; have E3 : Aside (Ext (w.alloc (.cells #[.int .i64 q, .int .i64 a, .int .i64 b] 23)) w3) := E4.out.trans h4; obtain ⟨l0, l1, l2⟩ := ins_cells E3.out; clear h4))
    go_ret2
    have f : S ++ ⟨#[32]⟩ ++ I = bs (nm q ++ 32 :: itoa a) := by rw [F.out.1, F.out.2, show (⟨#[32]⟩ : ByteArray) = bs [32] from rfl, bs_app, bs_app]; simp
    exact ⟨by show Ending.returned (.tuple #[.string (S ++ ⟨#[32]⟩ ++ I), .int .i64 0]) = _; rw [f], ext_in E3.out⟩
set_option maxHeartbeats 8000000 in
theorem rtext_2 (q : Nat) (hq : q < 47) (a b : Int) (ha : -9223372036854775808 ≤ a ∧ a ≤ 9223372036854775807) (hb : -9223372036854775808 ≤ b ∧ b ≤ 9223372036854775807) (h8 : q ≠ 8) (har : ar q = 2) : Calls Tryz.prog 7 #[.agg #[.int .i64 q, .int .i64 a, .int .i64 b]] w fun e w' => e = .returned (.tuple #[.string (bs (nm q ++ 32 :: (itoa a ++ 32 :: itoa b))), .int .i64 0]) ∧ Ext w w' := by
  have q1 : (0 : Int) ≤ q := by omega
  have q2 : (q : Int) < 47 := by omega
  have q3 : decide ((q : Int) < 0) = false := decide_eq_false (by omega)
  have q4 : decide ((46 : Int) < q) = false := decide_eq_false (by omega)
  obtain ⟨S, hS⟩ : ∃ S, S = bs (nm q) := ⟨_, rfl⟩
  have zS : S.size ≤ 11 := by rw [hS, bs_size]; exact nm_len q hq
  have T14 : Aside (∀ w, Calls Tryz.prog 14 #[] w fun e w' => ∃ g c, e = .returned (.slice (some ⟨g, 0, none⟩) 47 c) ∧ 47 ≤ c ∧ w.heap.size ≤ g ∧ w'.cell? ⟨g, q, none⟩ = some (.string S) ∧ Ext w w') := fun w => (mt.texts_run w 14 words mt.names14 (by decide) mt.words_small).mono fun e w' ⟨g, c, h1, h2, h3, h4, h5, h6⟩ => ⟨g, c, h1, h2, h3, by rw [hS]; exact texts_cell h4 hq, h6⟩
  have b8 : ((q : Int) == 8) = false := beq_eq_false_iff_ne.2 (by omega)
  obtain ⟨I, hI⟩ : ∃ I, I = bs (itoa a) := ⟨_, rfl⟩
  obtain ⟨J, hJ⟩ : ∃ J, J = bs (itoa b) := ⟨_, rfl⟩
  have zI : I.size ≤ 21 := by rw [hI, bs_size]; exact itoa_len a ha
  have zJ : J.size ≤ 21 := by rw [hJ, bs_size]; exact itoa_len b hb
  have n1 : ¬ 9223372036854775807 < S.size + 1 := by omega
  have n2 : ¬ 9223372036854775807 < S.size + 1 + I.size := by omega
  have n3 : ¬ 9223372036854775807 < S.size + 1 + I.size + 1 := by omega
  have n4 : ¬ 9223372036854775807 < S.size + 1 + I.size + 1 + J.size := by omega
  have TA : Aside (∀ w, Calls Tryz.prog 25 #[.int .i64 a] w fun e w' => e = .returned (.string I) ∧ Ext w w') := fun w => by rw [hI]; exact decimal_ok a ha.1 ha.2
  have TB : Aside (∀ w, Calls Tryz.prog 25 #[.int .i64 b] w fun e w' => e = .returned (.string J) ∧ Ext w w') := fun w => by rw [hJ]; exact decimal_ok b hb.1 hb.2
  have T24 : Aside (∀ w, Calls Tryz.prog 24 #[.int .i64 q] w fun e w' => e = .returned (.int .i64 2) ∧ Ext w w') := fun w => by
    have := mt.operands_ok w q hq
    rw [har] at this
    exact this
  have F : Aside (S = bs (nm q) ∧ I = bs (itoa a) ∧ J = bs (itoa b)) := ⟨hS, hI, hJ⟩
  clear hS zS har h8 hI zI ha hJ zJ hb
  go_enter Tryz.func7, Tryz.ntmps7
  go_wp2_with fail
  go_cut [4] (fun s4 wx => s4 = .string S ∧ Aside (Ext (w.alloc (.cells #[.int .i64 q, .int .i64 a, .int .i64 b] 23)) wx))
  case first =>
    have E : Aside (Ext (w.alloc (.cells #[.int .i64 q, .int .i64 a, .int .i64 b] 23)) (w.alloc (.cells #[.int .i64 q, .int .i64 a, .int .i64 b] 23))) := Ext.refl _
    obtain ⟨c0, c1, c2⟩ := ins_cells E.out
    go_region_with (go_at_call 14; refine (T14.out _).mono ?_; rintro e w1 ⟨g, c, rfl, h1, h2, h3, h4⟩; obtain ⟨k0, k1, k2⟩ := ins_cells (E.out.drew.trans h4); have E1 : Aside (47 ≤ c ∧ Ext (w.alloc (.cells #[.int .i64 q, .int .i64 a, .int .i64 b] 23)) w1) := ⟨h1, E.out.drew.trans h4⟩; clear h4 h2 h1)
    all_goals (go_wp2_with fail; go_meet; exact ⟨rfl, E1.out.2⟩)
  case rest =>
    obtain ⟨rfl, hcut⟩ := hcut
    obtain ⟨c0, c1, c2⟩ := ins_cells hcut.out
    go_wp2_with (first | (go_at_call 24; (with_reducible refine (T24.out wc).mono ?_); rintro e w2 ⟨rfl, h4⟩; have E2 : Aside (Ext (w.alloc (.cells #[.int .i64 q, .int .i64 a, .int .i64 b] 23)) w2) := hcut.out.trans h4; obtain ⟨k0, k1, k2⟩ := ins_cells E2.out; clear h4) | (go_at_call 25; (with_reducible refine (TA.out w2).mono ?_); rintro e w4 ⟨rfl, h4⟩; have E4 : Aside (Ext (w.alloc (.cells #[.int .i64 q, .int .i64 a, .int .i64 b] 23)) w4) := E2.out.trans h4; obtain ⟨m0, m1, m2⟩ := ins_cells E4.out; clear h4) | (go_at_call 24; (with_reducible refine (T24.out w4).mono ?_); rintro e w3 ⟨rfl, h4⟩; have E3 : Aside (Ext (w.alloc (.cells #[.int .i64 q, .int .i64 a, .int .i64 b] 23)) w3) := E4.out.trans h4; obtain ⟨l0, l1, l2⟩ := ins_cells E3.out; clear h4) | (go_at_call 25; (with_reducible refine (TB.out w3).mono ?_); rintro e w5 ⟨rfl, h4⟩; have E5 : Aside (Ext (w.alloc (.cells #[.int .i64 q, .int .i64 a, .int .i64 b] 23)) w5) := E3.out.trans h4; clear h4))
    go_ret2
    have f : S ++ ⟨#[32]⟩ ++ I ++ ⟨#[32]⟩ ++ J = bs (nm q ++ 32 :: (itoa a ++ 32 :: itoa b)) := by rw [F.out.1, F.out.2.1, F.out.2.2, show (⟨#[32]⟩ : ByteArray) = bs [32] from rfl, bs_app, bs_app, bs_app, bs_app]; simp
    exact ⟨by show Ending.returned (.tuple #[.string (S ++ ⟨#[32]⟩ ++ I ++ ⟨#[32]⟩ ++ J), .int .i64 0]) = _; rw [f], ext_in E5.out⟩
set_option maxHeartbeats 8000000 in
theorem rtext_8b (q : Nat) (hq : q < 47) (h8 : q = 8) (a b : Int) (hA : a < 0 ∨ 11 < a) : Calls Tryz.prog 7 #[.agg #[.int .i64 q, .int .i64 a, .int .i64 b]] w fun e w' => e = .returned (.tuple #[.string ⟨#[]⟩, .int .i64 1602]) ∧ Ext w w' := by
  have q1 : (0 : Int) ≤ q := by omega
  have q2 : (q : Int) < 47 := by omega
  have q3 : decide ((q : Int) < 0) = false := decide_eq_false (by omega)
  have q4 : decide ((46 : Int) < q) = false := decide_eq_false (by omega)
  obtain ⟨S, hS⟩ : ∃ S, S = bs (nm q) := ⟨_, rfl⟩
  have zS : S.size ≤ 11 := by rw [hS, bs_size]; exact nm_len q hq
  have T14 : Aside (∀ w, Calls Tryz.prog 14 #[] w fun e w' => ∃ g c, e = .returned (.slice (some ⟨g, 0, none⟩) 47 c) ∧ 47 ≤ c ∧ w.heap.size ≤ g ∧ w'.cell? ⟨g, q, none⟩ = some (.string S) ∧ Ext w w') := fun w => (mt.texts_run w 14 words mt.names14 (by decide) mt.words_small).mono fun e w' ⟨g, c, h1, h2, h3, h4, h5, h6⟩ => ⟨g, c, h1, h2, h3, by rw [hS]; exact texts_cell h4 hq, h6⟩
  have b8 : ((q : Int) == 8) = true := beq_iff_eq.2 (by omega)
  clear hS zS h8
  by_cases h0 : a < 0
  · have d1 : decide (a < 0) = true := decide_eq_true h0
    clear hA h0
    go_enter Tryz.func7, Tryz.ntmps7
    go_wp2_with fail
    go_cut [4] (fun s4 wx => s4 = .string S ∧ Aside (Ext (w.alloc (.cells #[.int .i64 q, .int .i64 a, .int .i64 b] 23)) wx))
    case first =>
      have E : Aside (Ext (w.alloc (.cells #[.int .i64 q, .int .i64 a, .int .i64 b] 23)) (w.alloc (.cells #[.int .i64 q, .int .i64 a, .int .i64 b] 23))) := Ext.refl _
      obtain ⟨c0, c1, c2⟩ := ins_cells E.out
      go_region_with (go_at_call 14; refine (T14.out _).mono ?_; rintro e w1 ⟨g, c, rfl, h1, h2, h3, h4⟩; obtain ⟨k0, k1, k2⟩ := ins_cells (E.out.drew.trans h4); have E1 : Aside (47 ≤ c ∧ Ext (w.alloc (.cells #[.int .i64 q, .int .i64 a, .int .i64 b] 23)) w1) := ⟨h1, E.out.drew.trans h4⟩; clear h4 h2 h1)
      all_goals (go_wp2_with fail; go_meet; exact ⟨rfl, E1.out.2⟩)
    case rest =>
      obtain ⟨rfl, hcut⟩ := hcut
      obtain ⟨c0, c1, c2⟩ := ins_cells hcut.out
      go_wp2_with fail
      go_ret2
      exact ⟨rfl, ext_in hcut.out⟩
  · have d1 : decide (a < 0) = false := decide_eq_false h0
    have d2 : decide ((11 : Int) < a) = true := decide_eq_true (by omega)
    clear hA h0
    go_enter Tryz.func7, Tryz.ntmps7
    go_wp2_with fail
    go_cut [4] (fun s4 wx => s4 = .string S ∧ Aside (Ext (w.alloc (.cells #[.int .i64 q, .int .i64 a, .int .i64 b] 23)) wx))
    case first =>
      have E : Aside (Ext (w.alloc (.cells #[.int .i64 q, .int .i64 a, .int .i64 b] 23)) (w.alloc (.cells #[.int .i64 q, .int .i64 a, .int .i64 b] 23))) := Ext.refl _
      obtain ⟨c0, c1, c2⟩ := ins_cells E.out
      go_region_with (go_at_call 14; refine (T14.out _).mono ?_; rintro e w1 ⟨g, c, rfl, h1, h2, h3, h4⟩; obtain ⟨k0, k1, k2⟩ := ins_cells (E.out.drew.trans h4); have E1 : Aside (47 ≤ c ∧ Ext (w.alloc (.cells #[.int .i64 q, .int .i64 a, .int .i64 b] 23)) w1) := ⟨h1, E.out.drew.trans h4⟩; clear h4 h2 h1)
      all_goals (go_wp2_with fail; go_meet; exact ⟨rfl, E1.out.2⟩)
    case rest =>
      obtain ⟨rfl, hcut⟩ := hcut
      obtain ⟨c0, c1, c2⟩ := ins_cells hcut.out
      go_wp2_with fail
      go_ret2
      exact ⟨rfl, ext_in hcut.out⟩
end Go.Proofs.YtnegdimhejldfaaGreatDoor.cw
