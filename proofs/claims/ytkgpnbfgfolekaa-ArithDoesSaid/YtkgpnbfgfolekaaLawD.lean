/- gneisslaw1.ArithDoes answers true: the whole. -/
import Derived.Test.YtkgpnbfgfolekaaLawD0
namespace Go.Proofs.Ytkgpnbfgfolekaa.Arith
open Go.RowKit
theorem does_core {W : World} {op a b v : Int} {ok : Bool} (h7 : E7 W op a b v ok) (h8 : E8 W op a b v ok) : Calls Try.prog 3 #[.int .i64 op, .int .i64 a, .int .i64 b] W fun e w' => e = .returned (.bool true) ∧ Grown W w' := by
  have AW := awake_any W
  have hg := Grown.refl W
  go_enter Try.func3, Try.ntmps3
  go_wp2_with (first
    | (go_at_call 7; (with_reducible refine (h7.go ‹_›).mono ?_); rintro e w1 ⟨rfl, hg1⟩)
    | (go_at_call 8; (with_reducible refine (h8.go ‹_›).mono ?_); rintro e w1 ⟨rfl, hg1⟩)
    | (go_at_call 9; (with_reducible refine (AW.go ‹_›).mono ?_); rintro e w1 ⟨rfl, hg1⟩))
  go_ret
  exact ⟨rfl, by assumption⟩
theorem does_at (op a b : Int) (W : World) : Calls Try.prog 3 #[.int .i64 op, .int .i64 a, .int .i64 b] W fun e w' => e = .returned (.bool true) ∧ Grown W w' := by
  by_cases h : op < 0 ∨ 11 < op ∨ ¬ In32 a ∨ ¬ In32 b
  · exact does_core (e_no h) (r_no h)
  · have h1 : ¬ op < 0 := fun e => h (.inl e)
    have h2 : ¬ 11 < op := fun e => h (.inr (.inl e))
    have ha : In32 a := Classical.byContradiction fun e => h (.inr (.inr (.inl e)))
    have hb : In32 b := Classical.byContradiction fun e => h (.inr (.inr (.inr e)))
    clear h
    have hop : op = 0 ∨ op = 1 ∨ op = 2 ∨ op = 3 ∨ op = 4 ∨ op = 5 ∨ op = 6 ∨ op = 7 ∨ op = 8 ∨ op = 9 ∨ op = 10 ∨ op = 11 := by omega
    rcases hop with rfl | rfl | rfl | rfl | rfl | rfl | rfl | rfl | rfl | rfl | rfl | rfl
    · exact does_core (e_add ha hb) (r_add ha hb)
    · exact does_core (e_sub ha hb) (r_sub ha hb)
    · exact does_core (e_mul ha hb) (r_mul ha hb)
    · by_cases h0 : b = 0
      · subst h0; exact does_core (e_div0 ha) (r_div0 ha)
      · exact does_core (e_div ha hb h0) (r_div ha hb h0)
    · by_cases h0 : b = 0
      · subst h0; exact does_core (e_rem0 ha) (r_rem0 ha)
      · exact does_core (e_rem ha hb h0) (r_rem ha hb h0)
    · exact does_core (e_neg ha hb) (r_neg ha hb)
    · exact does_core (e_and ha hb) (r_and ha hb)
    · exact does_core (e_or ha hb) (r_or ha hb)
    · exact does_core (e_xor ha hb) (r_xor ha hb)
    · exact does_core (e_shl ha hb) (r_shl ha hb)
    · exact does_core (e_shr ha hb) (r_shr ha hb)
    · exact does_core (e_ushr ha hb) (r_ushr ha hb)
end Go.Proofs.Ytkgpnbfgfolekaa.Arith
