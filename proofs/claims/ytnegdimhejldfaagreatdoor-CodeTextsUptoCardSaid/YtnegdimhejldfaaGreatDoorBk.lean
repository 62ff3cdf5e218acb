/- gneisslaw16.CodeBack: the walk. -/
import Derived.Test.YtnegdimhejldfaaGreatDoorPs
namespace Go.Proofs.YtnegdimhejldfaaGreatDoor.cw
open Go Go.RowKit Go.Lib Go.Proofs Go.Joins Go.Proofs.YtnegdimhejldfaaGreatDoor.dec
set_option linter.unusedVariables false
set_option maxRecDepth 100000
variable {w : World}
theorem num_ok (e : Int) : Calls Tryz.prog 12 #[.int .i64 e] w fun en w' => en = .returned (.int .i64 e) ∧ w' = w := by
  go_enter Tryz.func12, Tryz.ntmps12
  go_wp2_with fail
  go_ret
  exact ⟨rfl, rfl⟩
/-- what awake answers (shown by the machine) -/
def AwOk (w : World) : Prop := Calls Tryz.prog 19 #[] w fun e w' => e = .returned (.bool true) ∧ Ext w w'
theorem opw_len (A : Int) (h0 : 0 ≤ A) (h1 : A < 12) : (opw A).length ≤ 4 := by
  have h : ∀ i, i < 12 → (opers.getD i []).length ≤ 4 := by decide
  exact h _ (by omega)
theorem txt_len {op : Nat} (hop : op < 47) {A B : Int} (hA : -9223372036854775808 ≤ A ∧ A ≤ 9223372036854775807) (hB : -9223372036854775808 ≤ B ∧ B ≤ 9223372036854775807) {t : List UInt8} (h : txt op A B = some t) : t.length ≤ 60 := by
  have h1 := nm_len op hop
  have h2 := itoa_len A hA
  have h3 := itoa_len B hB
  unfold txt at h
  split at h
  · obtain rfl := Option.some.inj h; omega
  · split at h
    · split at h
      · rename_i hc
        have h4 := opw_len A hc.1 hc.2
        obtain rfl := Option.some.inj h; simp; omega
      · cases h
    · split at h
      · obtain rfl := Option.some.inj h; simp; omega
      · obtain rfl := Option.some.inj h; simp; omega
theorem ka3 : ∀ op, op < 47 → ka op = 3 → op = 8 := by decide
theorem txt_no {op : Nat} (hop : op < 47) {A B : Int} (h : txt op A B = none) : op = 8 := by
  unfold txt at h
  split at h
  · cases h
  · split at h
    · exact ka3 op hop (by assumption)
    · split at h <;> cases h
def code (o : Int) : Int := wrap64 ((IntKind.u64.wrap o).tmod 47)
theorem code_is (o : Int) : ∃ q : Nat, q < 47 ∧ wrap64 ((IntKind.u64.wrap o).tmod 47) = (q : Int) := by
  have hw : 0 ≤ IntKind.wrap .u64 o := by
    rw [IntKind.wrap_u64]
    omega
  have h1 : (IntKind.wrap .u64 o).tmod 47 < 47 := Int.tmod_lt_of_pos _ (by omega)
  have h2 : 0 ≤ (IntKind.wrap .u64 o).tmod 47 := Int.tmod_nonneg _ hw
  refine ⟨((IntKind.wrap .u64 o).tmod 47).toNat, by omega, ?_⟩
  have : wrap64 ((IntKind.wrap .u64 o).tmod 47) = (IntKind.wrap .u64 o).tmod 47 := by
    unfold wrap64
    omega
  rw [this]
  omega
set_option maxHeartbeats 8000000 in
theorem law_none (T : TabOk) (AW : AwOk w) (h : Ev w) (o a b : Int) (hq : wrap64 ((IntKind.u64.wrap o).tmod 47) = 8)
    (T6 : ∀ w, Ev w → Calls Tryz.prog 6 #[.agg #[.int .i64 8, .int .i64 a, .int .i64 b]] w fun e w' => e = .returned (.tuple #[.string ⟨#[]⟩, .int .i64 1602]) ∧ Ext w w') : Calls Tryz.prog 4 #[.int .i64 o, .int .i64 a, .int .i64 b] w fun e w' => e = .returned (.bool true) ∧ Ext w w' := by
  have H : Aside (Ev w ∧ AwOk w ∧ ∀ w, Ev w → Calls Tryz.prog 6 #[.agg #[.int .i64 8, .int .i64 a, .int .i64 b]] w fun e w' => e = .returned (.tuple #[.string ⟨#[]⟩, .int .i64 1602]) ∧ Ext w w') := ⟨h, AW, T6⟩
  clear h T6 AW
  go_enter Tryz.func4, Tryz.ntmps4
  go_wp2_with (first
    | (go_at_call 19; refine H.out.2.1.mono ?_; rintro e w1 ⟨rfl, h1⟩; have K1 : Aside (Ext w w1) := h1; clear h1)
    | (go_at_call 6; refine (H.out.2.2 _ (H.out.1.ext (K1.out.alloc _))).mono ?_; rintro e w2 ⟨rfl, h1⟩; obtain ⟨e1, e2⟩ := bcell h1; have K2 : Aside (Ext w w2) := (K1.out.alloc _).trans h1; clear h1)
    | (go_at_call 12; refine (num_ok 1602).mono ?_; rintro e w3 ⟨rfl, h1⟩; obtain rfl : w2 = w3 := h1.symm))
  go_ret
  exact ⟨rfl, K2.out⟩
theorem new_cell3 (w : World) (x y z : Value) : (w.alloc (.cells #[x, y, z] 23)).heap[w.heap.size]? = some (.cells #[x, y, z] 23 (0, 0)) := heap_alloc_new _ _
theorem cells3 {w : World} {k : Nat} {x y z : Value} (h : w.heap[k]? = some (.cells #[x, y, z] 23 (0, 0))) : w.cell? ⟨k, 0, none⟩ = some x ∧ w.cell? ⟨k, 1, none⟩ = some y ∧ w.cell? ⟨k, 2, none⟩ = some z := by
  refine ⟨?_, ?_, ?_⟩ <;> (simp only [World.cell?, h]; rfl)
set_option maxHeartbeats 8000000 in
theorem law_some (T : TabOk) (AW : AwOk w) (h : Ev w) (o a b : Int) (q : Nat) (hq : wrap64 ((IntKind.u64.wrap o).tmod 47) = (q : Int)) (S : ByteArray) (zS : S.size ≤ 60) (A B : Int) (hA : A = a ∨ A = 0) (hB : B = b ∨ B = 0)
    (T6 : ∀ w, Ev w → Calls Tryz.prog 6 #[.agg #[.int .i64 q, .int .i64 a, .int .i64 b]] w fun e w' => e = .returned (.tuple #[.string S, .int .i64 0]) ∧ Ext w w')
    (P1 : ∀ w, Ev w → Calls Tryz.prog 8 #[.string S] w fun e w' => e = .returned (.tuple #[.agg #[.int .i64 q, .int .i64 A, .int .i64 B], .int .i64 0]) ∧ Ext w w')
    (P2 : ∀ w, Ev w → Calls Tryz.prog 8 #[.string (S ++ ⟨#[32, 49]⟩)] w fun e w' => e = .returned (.tuple #[.agg #[.int .i64 0, .int .i64 0, .int .i64 0], .int .i64 1602]) ∧ Ext w w') : Calls Tryz.prog 4 #[.int .i64 o, .int .i64 a, .int .i64 b] w fun e w' => e = .returned (.bool true) ∧ Ext w w' := by
  have H : Aside (Ev w ∧ AwOk w) := ⟨h, AW⟩
  have T6' : Aside (∀ w, Ev w → Calls Tryz.prog 6 #[.agg #[.int .i64 q, .int .i64 a, .int .i64 b]] w fun e w' => e = .returned (.tuple #[.string S, .int .i64 0]) ∧ Ext w w') := T6
  have P1' : Aside (∀ w, Ev w → Calls Tryz.prog 8 #[.string S] w fun e w' => e = .returned (.tuple #[.agg #[.int .i64 q, .int .i64 A, .int .i64 B], .int .i64 0]) ∧ Ext w w') := P1
  have P2' : Aside (∀ w, Ev w → Calls Tryz.prog 8 #[.string (S ++ ⟨#[32, 49]⟩)] w fun e w' => e = .returned (.tuple #[.agg #[.int .i64 0, .int .i64 0, .int .i64 0], .int .i64 1602]) ∧ Ext w w') := P2
  have n1 : ¬ 9223372036854775807 < S.size + 2 := by omega
  clear h T6 AW P1 P2
  go_enter Tryz.func4, Tryz.ntmps4
  go_wp2_with (first
    | (go_at_call 19; refine H.out.2.mono ?_; rintro e w1 ⟨rfl, h1⟩; have K1 : Aside (Ext w w1) := h1; clear h1)
    | (go_at_call 6; refine (T6'.out _ (H.out.1.ext (K1.out.alloc _))).mono ?_; rintro e w2 ⟨rfl, h1⟩; have I2 : Aside (w2.heap[w1.heap.size]? = some (.cells #[.int .i64 q, .int .i64 a, .int .i64 b] 23 (0, 0))) := h1.at (new_cell3 w1 _ _ _); have K2 : Aside (Ext w w2) := (K1.out.alloc _).trans h1; clear h1)
    | (go_at_call 12; (with_reducible refine (num_ok _).mono ?_); rintro e w3 ⟨rfl, h1⟩; first | (obtain rfl : w2 = w3 := h1.symm) | (obtain rfl : w5 = w3 := h1.symm) | subst h1)
    | (go_at_call 8; (with_reducible refine (P1'.out _ (H.out.1.ext (K2.out))).mono ?_); rintro e w4 ⟨rfl, h1⟩; have I4 : Aside (w4.heap[w1.heap.size]? = some (.cells #[.int .i64 q, .int .i64 a, .int .i64 b] 23 (0, 0))) := h1.at I2.out; have K4 : Aside (Ext w w4) := K2.out.trans h1; clear h1)
    | (go_at_call 8; (with_reducible refine (P2'.out _ (H.out.1.ext (K4.out.alloc _))).mono ?_); rintro e w5 ⟨rfl, h1⟩; have K5 : Aside (Ext w w5) := (K4.out.alloc _).trans h1; have I6 : Aside ((w5.alloc (.cells #[.int .i64 0, .int .i64 0, .int .i64 0] 23)).heap[w1.heap.size]? = some (.cells #[.int .i64 q, .int .i64 a, .int .i64 b] 23 (0, 0))) := ((Ext.refl w5).alloc _).at (h1.at (((Ext.refl w4).alloc _).at I4.out)); have X6 : Aside ((w5.alloc (.cells #[.int .i64 0, .int .i64 0, .int .i64 0] 23)).heap[w4.heap.size]? = some (.cells #[.int .i64 q, .int .i64 A, .int .i64 B] 23 (0, 0))) := ((Ext.refl w5).alloc _).at (h1.at (new_cell3 w4 _ _ _)); obtain ⟨c1, c2, c3⟩ := cells3 I6.out; obtain ⟨d1, d2, d3⟩ := cells3 X6.out; obtain ⟨y1, y2, y3⟩ := cells3 (new_cell3 w5 (.int .i64 0) (.int .i64 0) (.int .i64 0)); clear h1))
  all_goals (go_ret; exact ⟨rfl, K5.out.alloc _⟩)
theorem law_ok (T : TabOk) (AW : AwOk w) (h : Ev w) (o a b : Int) (ha : -9223372036854775808 ≤ a ∧ a ≤ 9223372036854775807) (hb : -9223372036854775808 ≤ b ∧ b ≤ 9223372036854775807) : Calls Tryz.prog 4 #[.int .i64 o, .int .i64 a, .int .i64 b] w fun e w' => e = .returned (.bool true) ∧ Ext w w' := by
  obtain ⟨q, hq, hc⟩ := code_is o
  cases ht : txt q a b with
  | none =>
    obtain rfl := txt_no hq ht
    refine law_none T AW h o a b hc fun w h => ?_
    have := text_ok T h 8 hq a b ha hb
    rw [ht] at this
    exact this
  | some t =>
    have hl := txt_len hq ha hb ht
    obtain ⟨⟨A, B, h1, hA, hB⟩, h2⟩ := back q hq a b ha hb t ht
    refine law_some T AW h o a b q hc (bs t) (by rw [bs_size]; exact hl) A B hA hB (fun w h => ?_) (fun w h => ?_) (fun w h => ?_)
    · have := text_ok T h q hq a b ha hb
      rw [ht] at this
      exact this
    · have := parse_ok T h (bs t) (by rw [bs_size]; omega)
      rw [show (bs t).data.toList = t from by simp, h1] at this
      exact this
    · have := parse_ok T h (bs t ++ ⟨#[32, 49]⟩) (by rw [show (⟨#[32, 49]⟩ : ByteArray) = bs [32, 49] from rfl, bs_app, bs_size, List.length_append]; simp; omega)
      rw [show (bs t ++ ⟨#[32, 49]⟩).data.toList = t ++ [32, 49] from by rw [show (⟨#[32, 49]⟩ : ByteArray) = bs [32, 49] from rfl, bs_app], h2] at this
      exact this
end Go.Proofs.YtnegdimhejldfaaGreatDoor.cw
