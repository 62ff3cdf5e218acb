/- What gneissref16.Text answers at arith. -/
import Derived.Test.YtnegdimhejldfaaGreatDoorRt
namespace Go.Proofs.YtnegdimhejldfaaGreatDoor.cw
open Go Go.RowKit Go.Lib Go.Proofs Go.Joins Go.Proofs.YtnegdimhejldfaaGreatDoor.dec
set_option linter.unusedVariables false
set_option maxRecDepth 100000
variable {w : World}
set_option maxHeartbeats 8000000 in
theorem rtext_8a (q : Nat) (hq : q < 47) (h8 : q = 8) (i : Nat) (hi : i < 12) (a b : Int) (ha : a = i) : Calls Tryz.prog 7 #[.agg #[.int .i64 q, .int .i64 a, .int .i64 b]] w fun e w' => e = .returned (.tuple #[.string (bs (nm q ++ 32 :: opers.getD i [])), .int .i64 0]) ∧ Ext w w' := by
  subst ha
  have q1 : (0 : Int) ≤ q := by omega
  have q2 : (q : Int) < 47 := by omega
  have q3 : decide ((q : Int) < 0) = false := decide_eq_false (by omega)
  have q4 : decide ((46 : Int) < q) = false := decide_eq_false (by omega)
  obtain ⟨S, hS⟩ : ∃ S, S = bs (nm q) := ⟨_, rfl⟩
  have zS : S.size ≤ 11 := by rw [hS, bs_size]; exact nm_len q hq
  have T14 : Aside (∀ w, Calls Tryz.prog 14 #[] w fun e w' => ∃ g c, e = .returned (.slice (some ⟨g, 0, none⟩) 47 c) ∧ 47 ≤ c ∧ w.heap.size ≤ g ∧ w'.cell? ⟨g, q, none⟩ = some (.string S) ∧ Ext w w') := fun w => (mt.texts_run w 14 words mt.names14 (by decide) mt.words_small).mono fun e w' ⟨g, c, h1, h2, h3, h4, h5, h6⟩ => ⟨g, c, h1, h2, h3, by rw [hS]; exact texts_cell h4 hq, h6⟩
  have b8 : ((q : Int) == 8) = true := beq_iff_eq.2 (by omega)
  have d1 : decide ((i : Int) < 0) = false := decide_eq_false (by omega)
  have d2 : decide ((11 : Int) < i) = false := decide_eq_false (by omega)
  have q5 : (0 : Int) ≤ i := by omega
  have q6 : (i : Int) < 12 := by omega
  obtain ⟨J, hJ⟩ : ∃ J, J = bs (opers.getD i []) := ⟨_, rfl⟩
  have zJ : J.size ≤ 4 := by rw [hJ, bs_size]; exact opers_len i hi
  have n1 : ¬ 9223372036854775807 < S.size + 1 := by omega
  have n2 : ¬ 9223372036854775807 < S.size + 1 + J.size := by omega
  have T23 : Aside (∀ w, Calls Tryz.prog 23 #[] w fun e w' => ∃ g c, e = .returned (.slice (some ⟨g, 0, none⟩) 12 c) ∧ 12 ≤ c ∧ w.heap.size ≤ g ∧ w'.cell? ⟨g, i, none⟩ = some (.string J) ∧ Ext w w') := fun w => (mt.texts_run w 23 opers mt.ariths23 (by decide) mt.opers_small).mono fun e w' ⟨g, c, h1, h2, h3, h4, h5, h6⟩ => ⟨g, c, h1, h2, h3, by rw [hJ]; exact h4.cell hi, h6⟩
  have F : Aside (S = bs (nm q) ∧ J = bs (opers.getD i [])) := ⟨hS, hJ⟩
  clear hS zS h8 hJ zJ hi
  go_enter Tryz.func7, Tryz.ntmps7
  go_wp2_with fail
  go_cut [4] (fun s4 wx => s4 = .string S ∧ Aside (Ext (w.alloc (.cells #[.int .i64 q, .int .i64 i, .int .i64 b] 23)) wx))
  case first =>
    have E : Aside (Ext (w.alloc (.cells #[.int .i64 q, .int .i64 i, .int .i64 b] 23)) (w.alloc (.cells #[.int .i64 q, .int .i64 i, .int .i64 b] 23))) := Ext.refl _
    obtain ⟨c0, c1, c2⟩ := ins_cells E.out
    go_region_with (go_at_call 14; refine (T14.out _).mono ?_; rintro e w1 ⟨g, c, rfl, h1, h2, h3, h4⟩; obtain ⟨k0, k1, k2⟩ := ins_cells (E.out.drew.trans h4); have E1 : Aside (47 ≤ c ∧ Ext (w.alloc (.cells #[.int .i64 q, .int .i64 i, .int .i64 b] 23)) w1) := ⟨h1, E.out.drew.trans h4⟩; clear h4 h2 h1)
    all_goals (go_wp2_with fail; go_meet; exact ⟨rfl, E1.out.2⟩)
  case rest =>
    obtain ⟨rfl, hcut⟩ := hcut
    obtain ⟨c0, c1, c2⟩ := ins_cells hcut.out
    go_wp2_with fail
    go_region_with (go_at_call 23; refine (T23.out _).mono ?_; rintro e w1 ⟨g, c, rfl, h1, h2, h3, h4⟩; obtain ⟨k0, k1, k2⟩ := ins_cells (hcut.out.drew.trans h4); have E1 : Aside (12 ≤ c ∧ Ext (w.alloc (.cells #[.int .i64 q, .int .i64 i, .int .i64 b] 23)) w1) := ⟨h1, hcut.out.drew.trans h4⟩; clear h4 h2 h1)
    all_goals (go_wp2_with fail; go_ret2; have f : S ++ ⟨#[32]⟩ ++ J = bs (nm q ++ 32 :: opers.getD i []) := (by rw [F.out.1, F.out.2, show (⟨#[32]⟩ : ByteArray) = bs [32] from rfl, bs_app, bs_app]; simp); exact ⟨by show Ending.returned (.tuple #[.string (S ++ ⟨#[32]⟩ ++ J), .int .i64 0]) = _; rw [f], ext_in E1.out.2⟩)
end Go.Proofs.YtnegdimhejldfaaGreatDoor.cw
