/- What gneissref0.Decimal answers: the walk. -/
import Derived.Test.YtnegdimhejldfaaGreatDoorEv
import Derived.Laws.AppendOwnNone
import Derived.Laws.IdiomStrings
import Derived.OwnWalk
namespace Go.Proofs.YtnegdimhejldfaaGreatDoor.cw
open Go Go.RowKit Go.Lib Go.Proofs Go.Joins Go.Proofs.YtnegdimhejldfaaGreatDoor.dec
set_option linter.unusedVariables false
set_option maxRecDepth 100000
variable {w : World}
theorem info5 : (Tryz.prog.info? 5).map (fun i => (i.zero, i.size, i.bytes)) = some (some (.int .u8 0), 1, 1) := by kernel_rfl
def bv (l : List UInt8) : List Value := l.map fun b => .int .u8 (b.toNat : Int)
/-- the digits that are left -/
def decs (n : Nat) : List UInt8 := if n = 0 then [] else decDigits n
theorem decs_step (n : Nat) (h : 0 < n) : decs (n / 10) ++ [UInt8.ofNat (48 + n % 10)] = decs n := by
  unfold decs
  rw [if_neg (by omega : ¬ n = 0)]
  conv => rhs; rw [decDigits]
  split
  · rw [dif_pos (by omega)]
    simp
    rw [Nat.mod_eq_of_lt (by omega)]
  · rw [dif_neg (by omega)]
theorem dig_int (n : Nat) : (48 + (n : Int) % 10) = ((UInt8.ofNat (48 + n % 10)).toNat : Int) := by
  simp only [UInt8.toNat_ofNat']
  omega
theorem own_at {w : World} {B g cap : Nat} {l : List UInt8} (h : w.ownsRow B 5 1 (.slice (some ⟨g, 0, none⟩) l.length cap) l.length (bv l)) {j : Nat} (hj : j < l.length) : w.cell? ((⟨g, 0, none⟩ : Addr).add j) = some (.int .u8 (l[j].toNat : Int)) :=
  h.cells (g := g) rfl j _ (by simp [bv, hj])
theorem own_cells {w : World} {B g cap : Nat} {l : List UInt8} (h : w.ownsRow B 5 1 (.slice (some ⟨g, 0, none⟩) l.length cap) l.length (bv l)) : ∀ j u, (bv l)[j]? = some u → w.cell? ((⟨g, 0, none⟩ : Addr).add j) = some u := h.cells (g := g) rfl
theorem bv_one (l : List UInt8) : ∀ u ∈ bv l, u.oneCell' = true := by
  intro u hu
  obtain ⟨b, _, rfl⟩ := List.mem_map.1 hu
  rfl
theorem own_new2 (w : World) (z : Int) (c : UInt8) (h : z = (c.toNat : Int)) : (w.alloc (.cells #[.int .u8 z] 5)).ownsRow w.heap.size 5 1 (.slice (some ⟨w.heap.size, 0, none⟩) 1 1) 1 (bv [c]) := by
  subst h
  exact ⟨rfl, .inr ⟨w.heap.size, 1, _, rfl, Nat.le_refl _, heap_alloc_new w _, Nat.le_refl _, by decide, rfl, rfl⟩⟩
theorem own_new3 {B : Nat} (w : World) (z : Int) (c : UInt8) (h : z = (c.toNat : Int)) (hB : B ≤ w.heap.size) : (w.alloc (.cells #[.int .u8 z] 5)).ownsRow B 5 1 (.slice (some ⟨w.heap.size, 0, none⟩) 1 1) 1 (bv [c]) := by
  subst h
  exact ⟨rfl, .inr ⟨w.heap.size, 1, _, rfl, hB, heap_alloc_new w _, Nat.le_refl _, by decide, rfl, rfl⟩⟩
theorem own_form {w : World} {B n : Nat} {v : Value} {xs : List Value} (h : w.ownsRow B 5 1 v n xs) (hn : 0 < n) : ∃ g cap, v = .slice (some ⟨g, 0, none⟩) n cap := by
  rcases h.2 with ⟨_, h⟩ | ⟨g, cap, _, h, _⟩
  · omega
  · exact ⟨g, cap, h⟩
theorem own_new (w : World) (c : UInt8) : (w.alloc (.cells #[.int .u8 (c.toNat : Int)] 5)).ownsRow w.heap.size 5 1 (.slice (some ⟨w.heap.size, 0, none⟩) 1 1) 1 (bv [c]) :=
  ⟨rfl, .inr ⟨w.heap.size, 1, _, rfl, Nat.le_refl _, heap_alloc_new w _, Nat.le_refl _, by decide, rfl, rfl⟩⟩
set_option maxHeartbeats 8000000 in
theorem decimal_pos (x : Int) (h0 : 0 ≤ x) (h1 : x ≤ 9223372036854775807) : Calls Tryz.prog 25 #[.int .i64 x] w fun e w' => e = .returned (.string (bs (itoa x))) ∧ Ext w w' := by
  obtain ⟨i0, hi, hz0, hz1, hz2⟩ := info_parts info5
  obtain ⟨M, rfl⟩ : ∃ M : Nat, x = M := ⟨x.toNat, by omega⟩
  have L : Aside ((M : Int) ≤ 9223372036854775807) := h1
  have e1 : IntKind.u64.wrap (M : Int) = M := by rw [IntKind.wrap_u64]; omega
  have d1 : decide ((M : Int) < 0) = false := decide_eq_false (by omega)
  clear h0 h1
  go_enter Tryz.func25, Tryz.ntmps25
  go_wp2_with (fail)
  go_loopg [3, 4] (M + 2) (fun k s3 s4 wr => (s3 = .int .u64 M ∧ s4 = .slice none 0 0 ∧ Aside (k = M + 2 ∧ wr = w)) ∨
    ∃ (n : Nat) (l : List UInt8) (g cap : Nat), s3 = .int .u64 n ∧ s4 = .slice (some ⟨g, 0, none⟩) l.length cap ∧ Aside (k = n + 1 ∧ l ≠ [] ∧ decs n ++ l = decDigits M ∧ wr.ownsRow w.heap.size 5 1 (.slice (some ⟨g, 0, none⟩) l.length cap) l.length (bv l) ∧ Ext w wr ∧ n ≤ M))
  case atStart => exact .inl ⟨rfl, rfl, rfl, rfl⟩
  case round =>
    rcases hrel with ⟨rfl, rfl, hk⟩ | ⟨n, l, g, cap, rfl, rfl, hk⟩
    · obtain ⟨hk1, rfl⟩ := hk
      by_cases hM : M = 0
      · subst hM
        go_wp2_with fail
        go_roundg 1
        · exact .inr ⟨0, [48], wr.heap.size, 1, rfl, rfl, rfl, by simp, by unfold decs; rw [decDigits]; rfl, own_new wr 48, (Ext.refl wr).alloc _, Nat.le_refl _⟩
        · rw [hk1]; omega
      · have q1 : (0 : Int) < M := by omega
        have q2 : decide ((M : Int) > 0) = true := decide_eq_true (by omega)
        have e2 : IntKind.u64.wrap ((M : Int) / 10) = ((M / 10 : Nat) : Int) := by have := L.out; rw [IntKind.wrap_u64]; omega
        go_wp2_with fail
        go_roundg (M / 10 + 1)
        · refine .inr ⟨M / 10, [UInt8.ofNat (48 + M % 10)], wr.heap.size, 1, rfl, rfl, rfl, by simp, ?_, own_new2 wr _ _ (dig_int M), (Ext.refl wr).alloc _, by omega⟩
          rw [decs_step M (by omega)]
          unfold decs
          rw [if_neg hM]
        · rw [hk1]; omega
    · obtain ⟨hk1, hk2, hk3, hk4, hk5, hk6⟩ := hk.out
      by_cases hn : n = 0
      · subst hn
        have A : Aside (l = decDigits M ∧ wr.ownsRow w.heap.size 5 1 (.slice (some ⟨g, 0, none⟩) l.length cap) l.length (bv l) ∧ Ext w wr) := ⟨by simpa [decs] using hk3, hk4, hk5⟩
        have q3 : 0 < l.length := List.length_pos_iff.2 hk2
        have hcv := run_convert_bytes_back (P := Tryz.prog) wr 65 9 5 ⟨g, 0, none⟩ cap l Tryz.underlying65 Tryz.underlying5 Tryz.underlying9 (fun j hj => own_at hk4 hj)
        clear hk hk1 hk2 hk3 hk4 hk5 hk6
        go_wp2_with fail
        go_ret
        exact ⟨by rw [A.out.1, itoa, if_neg (by omega), Int.toNat_natCast]; rfl, A.out.2.2⟩
      · have q1 : (0 : Int) < n := by omega
        have q2 : decide ((n : Int) > 0) = true := decide_eq_true (by omega)
        have A : Aside (gk = n + 1 ∧ l ≠ [] ∧ decs n ++ l = decDigits M ∧ wr.ownsRow w.heap.size 5 1 (.slice (some ⟨g, 0, none⟩) l.length cap) l.length (bv l) ∧ Ext w wr ∧ n ≤ M) := hk.out
        have e2 : IntKind.u64.wrap ((n : Int) / 10) = ((n / 10 : Nat) : Int) := by have := L.out; rw [IntKind.wrap_u64]; omega
        have q4 : l.length ≤ 20 := by
          have h1 := dec_len 20 M (by have := L.out; omega) (by omega)
          rw [← hk3, List.length_append] at h1
          omega
        clear hk hk1 hk2 hk3 hk4 hk5 hk6
        go_wp2_with (at_builtin; refine wpList_append_own _ rfl (.tmp 25) (.tmp 26) 65 rfl w.heap.size 5 i0 (.int .u8 0) 1 1 Tryz.underlying65 hi hz0 hz1 hz2 rfl (by decide) _ _ _ rfl (own_new3 wr _ _ (dig_int n) A.out.2.2.2.2.1.size) ⟨g, 0, none⟩ l.length cap (bv l) rfl (by simp [bv]) (own_cells (A.out.2.2.2.1.alloc _)) (bv_one l) (by unfold maxLen; omega) (by omega) (by rw [World.size_alloc]; have := A.out.2.2.2.2.1.size; omega) ?_; intro v' w1 hown' hgrow hnil)
        obtain ⟨g', cap', rfl⟩ := own_form hown' (by omega)
        have hl : 1 + l.length = (UInt8.ofNat (48 + n % 10) :: l).length := by simp; omega
        rw [hl] at hown' ⊢
        have B : Aside (w1.ownsRow w.heap.size 5 1 (.slice (some ⟨g', 0, none⟩) (UInt8.ofNat (48 + n % 10) :: l).length cap') (UInt8.ofNat (48 + n % 10) :: l).length (bv (UInt8.ofNat (48 + n % 10) :: l)) ∧ Ext w w1) :=
          ⟨hown', (A.out.2.2.2.2.1.alloc _).grown hgrow (by rw [World.size_alloc]; have := A.out.2.2.2.2.1.size; omega) (fun k hk => by cases hk; exact A.out.2.2.2.2.1.size)⟩
        clear hown' hgrow hnil hl
        go_roundg (n / 10 + 1)
        · refine .inr ⟨n / 10, UInt8.ofNat (48 + n % 10) :: l, g', cap', rfl, rfl, rfl, by simp, ?_, B.out.1, B.out.2, by have := A.out.2.2.2.2.2; omega⟩
          have := A.out.2.2.1
          rw [← decs_step n (by omega)] at this
          simpa using this
        · rw [A.out.1]; omega
set_option maxHeartbeats 8000000 in
theorem decimal_neg (x : Int) (h0 : x < 0) (h1 : -9223372036854775808 ≤ x) : Calls Tryz.prog 25 #[.int .i64 x] w fun e w' => e = .returned (.string (bs (itoa x))) ∧ Ext w w' := by
  obtain ⟨i0, hi, hz0, hz1, hz2⟩ := info_parts info5
  obtain ⟨M, hM, q0⟩ : ∃ M : Nat, x = -(M : Int) ∧ 0 < M := ⟨x.natAbs, by omega, by omega⟩
  subst hM
  have L : Aside ((M : Int) ≤ 9223372036854775808) := by show (M : Int) ≤ _; omega
  have e1 : IntKind.u64.wrap (IntKind.u64.wrap (wrap64 (-wrap64 (-(M : Int) + 1))) + 1) = M := by
    simp only [IntKind.wrap_u64]
    unfold wrap64
    omega
  clear h0 h1
  go_enter Tryz.func25, Tryz.ntmps25
  go_wp2_with (fail)
  go_loopg [3, 4] (M + 2) (fun k s3 s4 wr => (s3 = .int .u64 M ∧ s4 = .slice none 0 0 ∧ Aside (k = M + 2 ∧ wr = w)) ∨
    ∃ (n : Nat) (l : List UInt8) (g cap : Nat), s3 = .int .u64 n ∧ s4 = .slice (some ⟨g, 0, none⟩) l.length cap ∧ Aside (k = n + 1 ∧ l ≠ [] ∧ decs n ++ l = decDigits M ∧ wr.ownsRow w.heap.size 5 1 (.slice (some ⟨g, 0, none⟩) l.length cap) l.length (bv l) ∧ Ext w wr ∧ n ≤ M))
  case atStart => exact .inl ⟨rfl, rfl, rfl, rfl⟩
  case round =>
    rcases hrel with ⟨rfl, rfl, hk⟩ | ⟨n, l, g, cap, rfl, rfl, hk⟩
    · obtain ⟨hk1, rfl⟩ := hk
      · have q1 : (0 : Int) < M := by omega
        have q2 : decide ((M : Int) > 0) = true := decide_eq_true (by omega)
        have e2 : IntKind.u64.wrap ((M : Int) / 10) = ((M / 10 : Nat) : Int) := by have := L.out; rw [IntKind.wrap_u64]; omega
        go_wp2_with fail
        go_roundg (M / 10 + 1)
        · refine .inr ⟨M / 10, [UInt8.ofNat (48 + M % 10)], wr.heap.size, 1, rfl, rfl, rfl, by simp, ?_, own_new2 wr _ _ (dig_int M), (Ext.refl wr).alloc _, by omega⟩
          rw [decs_step M (by omega)]
          unfold decs
          rw [if_neg (by omega)]
        · rw [hk1]; omega
    · obtain ⟨hk1, hk2, hk3, hk4, hk5, hk6⟩ := hk.out
      by_cases hn : n = 0
      · subst hn
        have A : Aside (l = decDigits M ∧ wr.ownsRow w.heap.size 5 1 (.slice (some ⟨g, 0, none⟩) l.length cap) l.length (bv l) ∧ Ext w wr) := ⟨by simpa [decs] using hk3, hk4, hk5⟩
        have q3 : 0 < l.length := List.length_pos_iff.2 hk2
        have q4 : l.length ≤ 20 := by
          have h1 := dec_len 20 M (by have := L.out; omega) (by omega)
          rw [← hk3, List.length_append] at h1
          omega
        clear hk hk1 hk2 hk3 hk4 hk5 hk6
        go_wp2_with (at_builtin; refine wpList_append_own _ rfl (.tmp 32) (.tmp 33) 65 rfl w.heap.size 5 i0 (.int .u8 0) 1 1 Tryz.underlying65 hi hz0 hz1 hz2 rfl (by decide) _ _ _ rfl (own_new3 wr 45 45 rfl A.out.2.2.size) ⟨g, 0, none⟩ l.length cap (bv l) rfl (by simp [bv]) (own_cells (A.out.2.1.alloc _)) (bv_one l) (by unfold maxLen; omega) (by omega) (by rw [World.size_alloc]; have := A.out.2.2.size; omega) ?_; intro v' w1 hown' hgrow hnil; obtain ⟨g', cap', rfl⟩ := own_form hown' (by omega); have hl : 1 + l.length = ((45 : UInt8) :: l).length := (by simp; omega); rw [hl] at hown' ⊢; have B : Aside (w1.ownsRow w.heap.size 5 1 (.slice (some ⟨g', 0, none⟩) ((45 : UInt8) :: l).length cap') ((45 : UInt8) :: l).length (bv (45 :: l)) ∧ Ext w w1) := ⟨hown', (A.out.2.2.alloc _).grown hgrow (by rw [World.size_alloc]; have := A.out.2.2.size; omega) (fun k hk => by cases hk; exact A.out.2.2.size)⟩; clear hown' hgrow hnil hl; have hcv := run_convert_bytes_back (P := Tryz.prog) w1 65 9 5 ⟨g', 0, none⟩ cap' (45 :: l) Tryz.underlying65 Tryz.underlying5 Tryz.underlying9 (fun j hj => own_at B.out.1 hj); rw [List.length_cons] at hcv)
        go_ret
        exact ⟨by rw [A.out.1, itoa, if_pos (by omega), Int.natAbs_neg, Int.natAbs_natCast]; rfl, B.out.2⟩
      · have q1 : (0 : Int) < n := by omega
        have q2 : decide ((n : Int) > 0) = true := decide_eq_true (by omega)
        have A : Aside (gk = n + 1 ∧ l ≠ [] ∧ decs n ++ l = decDigits M ∧ wr.ownsRow w.heap.size 5 1 (.slice (some ⟨g, 0, none⟩) l.length cap) l.length (bv l) ∧ Ext w wr ∧ n ≤ M) := hk.out
        have e2 : IntKind.u64.wrap ((n : Int) / 10) = ((n / 10 : Nat) : Int) := by have := L.out; rw [IntKind.wrap_u64]; omega
        have q4 : l.length ≤ 20 := by
          have h1 := dec_len 20 M (by have := L.out; omega) (by omega)
          rw [← hk3, List.length_append] at h1
          omega
        clear hk hk1 hk2 hk3 hk4 hk5 hk6
        go_wp2_with (at_builtin; refine wpList_append_own _ rfl (.tmp 25) (.tmp 26) 65 rfl w.heap.size 5 i0 (.int .u8 0) 1 1 Tryz.underlying65 hi hz0 hz1 hz2 rfl (by decide) _ _ _ rfl (own_new3 wr _ _ (dig_int n) A.out.2.2.2.2.1.size) ⟨g, 0, none⟩ l.length cap (bv l) rfl (by simp [bv]) (own_cells (A.out.2.2.2.1.alloc _)) (bv_one l) (by unfold maxLen; omega) (by omega) (by rw [World.size_alloc]; have := A.out.2.2.2.2.1.size; omega) ?_; intro v' w1 hown' hgrow hnil)
        obtain ⟨g', cap', rfl⟩ := own_form hown' (by omega)
        have hl : 1 + l.length = (UInt8.ofNat (48 + n % 10) :: l).length := by simp; omega
        rw [hl] at hown' ⊢
        have B : Aside (w1.ownsRow w.heap.size 5 1 (.slice (some ⟨g', 0, none⟩) (UInt8.ofNat (48 + n % 10) :: l).length cap') (UInt8.ofNat (48 + n % 10) :: l).length (bv (UInt8.ofNat (48 + n % 10) :: l)) ∧ Ext w w1) :=
          ⟨hown', (A.out.2.2.2.2.1.alloc _).grown hgrow (by rw [World.size_alloc]; have := A.out.2.2.2.2.1.size; omega) (fun k hk => by cases hk; exact A.out.2.2.2.2.1.size)⟩
        clear hown' hgrow hnil hl
        go_roundg (n / 10 + 1)
        · refine .inr ⟨n / 10, UInt8.ofNat (48 + n % 10) :: l, g', cap', rfl, rfl, rfl, by simp, ?_, B.out.1, B.out.2, by have := A.out.2.2.2.2.2; omega⟩
          have := A.out.2.2.1
          rw [← decs_step n (by omega)] at this
          simpa using this
        · rw [A.out.1]; omega
theorem decimal_ok (x : Int) (h0 : -9223372036854775808 ≤ x) (h1 : x ≤ 9223372036854775807) : Calls Tryz.prog 25 #[.int .i64 x] w fun e w' => e = .returned (.string (bs (itoa x))) ∧ Ext w w' := by
  by_cases h : x < 0
  · exact decimal_neg x h h0
  · exact decimal_pos x (by omega) h1
end Go.Proofs.YtnegdimhejldfaaGreatDoor.cw
