/- code.Text where there is no such instruction; both texts agree. -/
import Derived.Test.YtnegdimhejldfaaGreatDoorRt
namespace Go.Proofs.YtnegdimhejldfaaGreatDoor.cw
open Go Go.RowKit Go.Lib Go.Proofs Go.Joins Go.Proofs.YtnegdimhejldfaaGreatDoor.dec
set_option linter.unusedVariables false
set_option maxRecDepth 100000
variable {w : World}
theorem of_out (T : TabOk) (h : Ev w) (o : Int) (ho : o < 0 ∨ 46 < o) : Calls Tryz.prog 20 #[.int .i64 o] w fun e w' => e = .returned (.tuple #[.agg #[.string ⟨#[]⟩, .int .i64 0, .int .i64 0], .bool false]) ∧ Ext w w' := by
  have H : Aside (Ev w) := h
  clear h
  rcases Decidable.em (o < 0) with h0 | h0
  · have d1 : decide (o < 0) = true := decide_eq_true h0
    clear ho
    go_enter Tryz.func20, Tryz.ntmps20
    go_wp2_with (go_at_call 27; refine (T _ (H.out.ext ((Ext.refl w).alloc _))).mono ?_; rintro e w1 ⟨g, c, rfl, h1, h2, h3, h4⟩; have K : Aside (Ext w w1) := ((Ext.refl w).alloc _).trans h4; obtain ⟨e1, e2⟩ := bcell h4; clear h1 h2 h3 h4)
    refine bodyPost_ret (v := .tuple #[.agg #[.string ⟨#[]⟩, .int .i64 0, .int .i64 0], .bool false]) ?_ rfl ⟨rfl, ((K.out.set _ _ (Nat.le_refl _)).set _ _ (Nat.le_refl _)).set _ _ (Nat.le_refl _)⟩
    simp [results, Tryz.results20, go_sem, e1]
  · have d1 : decide (o < 0) = false := decide_eq_false h0
    have d2 : decide (o ≥ 47) = true := decide_eq_true (by omega)
    have d3 : decide ((47 : Int) ≤ o) = true := decide_eq_true (by omega)
    clear ho
    go_enter Tryz.func20, Tryz.ntmps20
    go_wp2_with (go_at_call 27; refine (T _ (H.out.ext ((Ext.refl w).alloc _))).mono ?_; rintro e w1 ⟨g, c, rfl, h1, h2, h3, h4⟩; have K : Aside (Ext w w1) := ((Ext.refl w).alloc _).trans h4; obtain ⟨e1, e2⟩ := bcell h4; clear h1 h2 h3 h4)
    refine bodyPost_ret (v := .tuple #[.agg #[.string ⟨#[]⟩, .int .i64 0, .int .i64 0], .bool false]) ?_ rfl ⟨rfl, ((K.out.set _ _ (Nat.le_refl _)).set _ _ (Nat.le_refl _)).set _ _ (Nat.le_refl _)⟩
    simp [results, Tryz.results20, go_sem, e1]
theorem text_out (T : TabOk) (h : Ev w) (o a b : Int) (ho : o < 0 ∨ 46 < o) : Calls Tryz.prog 6 #[.agg #[.int .i64 o, .int .i64 a, .int .i64 b]] w fun e w' => e = .returned (.tuple #[.string ⟨#[]⟩, .int .i64 1600]) ∧ Ext w w' := by
  have H : Aside (Ev w ∧ (o < 0 ∨ 46 < o)) := ⟨h, ho⟩
  clear h ho
  go_enter Tryz.func6, Tryz.ntmps6
  go_wp2_with (go_at_call 20; refine (of_out T (H.out.1.ext ((Ext.refl w).alloc _)) o H.out.2).mono ?_; rintro e w1 ⟨rfl, h4⟩; have K : Aside (Ext w w1) := ((Ext.refl w).alloc _).trans h4; obtain ⟨e1, e2⟩ := bcell h4; clear h4)
  go_ret2
  exact ⟨rfl, K.out.alloc _⟩
end Go.Proofs.YtnegdimhejldfaaGreatDoor.cw
