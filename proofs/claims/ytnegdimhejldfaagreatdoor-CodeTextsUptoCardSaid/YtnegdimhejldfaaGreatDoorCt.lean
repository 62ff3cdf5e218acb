/- gneisslaw16.CodeTexts: the walk. -/
import Derived.Test.YtnegdimhejldfaaGreatDoorRp
import Derived.Test.YtnegdimhejldfaaGreatDoorRa
import Derived.Test.YtnegdimhejldfaaGreatDoorTo
namespace Go.Proofs.YtnegdimhejldfaaGreatDoor.cw
open Go Go.RowKit Go.Lib Go.Proofs Go.Joins Go.Proofs.YtnegdimhejldfaaGreatDoor.dec
set_option linter.unusedVariables false
set_option maxRecDepth 100000
variable {w : World}
theorem Ext.but {w w8 w9 : World} {g : Nat} (h : Ext w w8) (b : But w8 w9 g) (hg : w.heap.size ≤ g) : Ext w w9 :=
  ⟨b.os.trans h.os, b.tape.trans h.tape, b.output.trans h.output, by rw [b.size]; exact h.size, fun i hi => (b.block i (by omega)).trans (h.block i hi)⟩
/-- three cells -/
def Tri (w : World) (b : Nat) (x y z : Int) : Prop := w.heap[b]? = some (.cells #[.int .i64 x, .int .i64 y, .int .i64 z] 23 (0, 0))
theorem Tri.cells {w : World} {b : Nat} {x y z : Int} (h : Tri w b x y z) : w.cell? ⟨b, 0, none⟩ = some (.int .i64 x) ∧ w.cell? ⟨b, 1, none⟩ = some (.int .i64 y) ∧ w.cell? ⟨b, 2, none⟩ = some (.int .i64 z) := cells3 h
theorem texts_agree (T : TabOk) (o a b : Int) (ha : -9223372036854775808 ≤ a ∧ a ≤ 9223372036854775807) (hb : -9223372036854775808 ≤ b ∧ b ≤ 9223372036854775807) : ∃ tS tE,
    (∀ w, Ev w → Calls Tryz.prog 6 #[.agg #[.int .i64 o, .int .i64 a, .int .i64 b]] w fun e w' => e = .returned (.tuple #[.string tS, .int .i64 tE]) ∧ Ext w w') ∧
    (∀ w, Calls Tryz.prog 7 #[.agg #[.int .i64 o, .int .i64 a, .int .i64 b]] w fun e w' => e = .returned (.tuple #[.string tS, .int .i64 tE]) ∧ Ext w w') := by
  by_cases ho : o < 0 ∨ 46 < o
  · exact ⟨_, _, fun w h => text_out T h o a b ho, fun w => rtext_out o a b ho⟩
  · obtain ⟨q, rfl⟩ : ∃ q : Nat, o = q := ⟨o.toNat, by omega⟩
    have hq : q < 47 := by omega
    by_cases k0 : ka q = 0
    · have e : txt q a b = some (nm q) := by unfold txt; rw [if_pos k0]
      have h8 : q ≠ 8 := fun e => by subst e; exact absurd k0 (by decide)
      have har : ar q = 0 := by unfold ar; rw [if_pos k0]
      exact ⟨bs (nm q), 0, fun w h => by have := text_ok T h q hq a b ha hb; rw [e] at this; exact this, fun w => rtext_0 q hq a b h8 har⟩
    · by_cases k3 : ka q = 3
      · have h8 := ka3 q hq k3
        by_cases hA : 0 ≤ a ∧ a < 12
        · obtain ⟨i, rfl⟩ : ∃ i : Nat, a = i := ⟨a.toNat, by omega⟩
          have e : txt q i b = some (nm q ++ 32 :: opers.getD i []) := by unfold txt opw; rw [if_neg k0, if_pos k3, if_pos hA, Int.toNat_natCast]
          exact ⟨bs (nm q ++ 32 :: opers.getD i []), 0, fun w h => by have := text_ok T h q hq i b ha hb; rw [e] at this; exact this, fun w => rtext_8a q hq h8 i (by omega) i b rfl⟩
        · have e : txt q a b = none := by unfold txt; rw [if_neg k0, if_pos k3, if_neg hA]
          exact ⟨⟨#[]⟩, 1602, fun w h => by have := text_ok T h q hq a b ha hb; rw [e] at this; exact this, fun w => rtext_8b q hq h8 a b (by omega)⟩
      · have h8 : q ≠ 8 := fun e => by subst e; exact k3 (by decide)
        by_cases kb0 : kb q = 0
        · have e : txt q a b = some (nm q ++ 32 :: itoa a) := by unfold txt; rw [if_neg k0, if_neg k3, if_pos kb0]
          have har : ar q = 1 := by unfold ar; rw [if_neg k0, if_pos kb0]
          exact ⟨bs (nm q ++ 32 :: itoa a), 0, fun w h => by have := text_ok T h q hq a b ha hb; rw [e] at this; exact this, fun w => rtext_1 q hq a b ha h8 har⟩
        · have e : txt q a b = some (nm q ++ 32 :: (itoa a ++ 32 :: itoa b)) := by unfold txt; rw [if_neg k0, if_neg k3, if_neg kb0]
          have har : ar q = 2 := by unfold ar; rw [if_neg k0, if_neg kb0]
          exact ⟨bs (nm q ++ 32 :: (itoa a ++ 32 :: itoa b)), 0, fun w h => by have := text_ok T h q hq a b ha hb; rw [e] at this; exact this, fun w => rtext_2 q hq a b ha hb h8 har⟩
theorem parse_agree (T : TabOk) (s : ByteArray) (hs : s.size ≤ 1048576) : ∃ P0 P1 P2 PC,
    (∀ w, Ev w → Calls Tryz.prog 8 #[.string s] w fun e w' => e = .returned (.tuple #[.agg #[.int .i64 P0, .int .i64 P1, .int .i64 P2], .int .i64 PC]) ∧ Ext w w') ∧
    (∀ w, Calls Tryz.prog 9 #[.string s] w fun e w' => e = .returned (.tuple #[.agg #[.int .i64 P0, .int .i64 P1, .int .i64 P2], .int .i64 PC]) ∧ Ext w w') := by
  obtain ⟨P0, P1, P2, PC, h⟩ : ∃ P0 P1 P2 PC, ans (parse s.data.toList) = .tuple #[.agg #[.int .i64 P0, .int .i64 P1, .int .i64 P2], .int .i64 PC] := by
    cases parse s.data.toList <;> exact ⟨_, _, _, _, rfl⟩
  refine ⟨P0, P1, P2, PC, fun w hw => ?_, fun w => ?_⟩
  · have := parse_ok T hw s (by omega)
    rw [h] at this
    exact this
  · have := rparse_ok (w := w) s hs
    rw [refParse_eq, h] at this
    exact this
theorem nm10 (w : World) : Calls Tryz.prog 10 #[] w fun e w' => ∃ g c, e = .returned (.slice (some ⟨g, 0, none⟩) 47 c) ∧ 47 ≤ c ∧ w.heap.size ≤ g ∧ Texts w' g words ∧ Row w' g 47 0 ∧ Ext w w' := mt.texts_run w 10 words mt.names10 (by decide) mt.words_small
theorem nm14 (w : World) : Calls Tryz.prog 14 #[] w fun e w' => ∃ g c, e = .returned (.slice (some ⟨g, 0, none⟩) 47 c) ∧ 47 ≤ c ∧ w.heap.size ≤ g ∧ Texts w' g words ∧ Row w' g 47 0 ∧ Ext w w' := mt.texts_run w 14 words mt.names14 (by decide) mt.words_small
theorem same47 (w : World) (g g' c c' : Nat) (hc : 47 ≤ c) (hc' : 47 ≤ c') (h : Texts w g words) (h' : Texts w g' words) : Calls Tryz.prog 13 #[.slice (some ⟨g, 0, none⟩) 47 c, .slice (some ⟨g', 0, none⟩) 47 c'] w fun e w' => e = .returned (.bool true) ∧ Ext w w' := same_ok words g g' c c' (by decide) hc hc' h h'
structure Al (w wx : World) (o a b P0 P1 P2 : Int) (x y : Nat) : Prop where
  ext : Ext w wx
  i : Tri wx w.heap.size o a b
  x : Tri wx x P0 P1 P2
  y : Tri wx y P0 P1 P2
theorem Al.step {w wx wy : World} {o a b P0 P1 P2 : Int} {x y : Nat} (h : Al w wx o a b P0 P1 P2 x y) (e : Ext wx wy) : Al w wy o a b P0 P1 P2 x y := ⟨h.ext.trans e, e.at h.i, e.at h.x, e.at h.y⟩
theorem Al.but {w wx wy : World} {o a b P0 P1 P2 : Int} {x y g : Nat} (h : Al w wx o a b P0 P1 P2 x y) (e : But wx wy g) (h1 : w.heap.size < g) (h2 : x ≠ g) (h3 : y ≠ g) : Al w wy o a b P0 P1 P2 x y :=
  ⟨h.ext.but e (Nat.le_of_lt h1), (e.block _ (Nat.ne_of_lt h1)).trans h.i, (e.block _ h2).trans h.x, (e.block _ h3).trans h.y⟩
theorem Row.ext {w w' : World} {g n i : Nat} (h : Row w g n i) (e : Ext w w') : Row w' g n i := by
  obtain ⟨arr, ty, fz, h1, h2, h3⟩ := h
  exact ⟨arr, ty, fz, e.at h1, h2, h3⟩
theorem Row.lt {w : World} {g n i : Nat} (h : Row w g n i) : g < w.heap.size := by
  obtain ⟨arr, ty, fz, h1, h2, h3⟩ := h
  exact lt_of_some h1
theorem Texts.but {w w' : World} {g k : Nat} {xs : List (List UInt8)} (h : Texts w k xs) (e : But w w' g) (hk : k ≠ g) : Texts w' k xs := by
  obtain ⟨arr, ty, fz, h1, h2⟩ := h
  exact ⟨arr, ty, fz, (e.block _ hk).trans h1, h2⟩
theorem SS {w wx w' : World} {o a b P0 P1 P2 : Int} {x y : Nat} (h : Al w wx o a b P0 P1 P2 x y) (e : Ext wx w') : w'.cell? ⟨w.heap.size, 0, none⟩ = some (.int .i64 o) ∧ w'.cell? ⟨x, 0, none⟩ = some (.int .i64 P0) ∧ w'.cell? ⟨x, 1, none⟩ = some (.int .i64 P1) ∧ w'.cell? ⟨x, 2, none⟩ = some (.int .i64 P2) ∧ w'.cell? ⟨y, 0, none⟩ = some (.int .i64 P0) ∧ w'.cell? ⟨y, 1, none⟩ = some (.int .i64 P1) ∧ w'.cell? ⟨y, 2, none⟩ = some (.int .i64 P2) := by
  have k := h.step e
  exact ⟨k.i.cells.1, k.x.cells.1, k.x.cells.2.1, k.x.cells.2.2, k.y.cells.1, k.y.cells.2.1, k.y.cells.2.2⟩
set_option maxHeartbeats 16000000 in
theorem law3_ok (T : TabOk) (AW : ∀ w', Ext w w' → AwOk w') (h : Ev w) (o a b : Int) (ha : -9223372036854775808 ≤ a ∧ a ≤ 9223372036854775807) (hb : -9223372036854775808 ≤ b ∧ b ≤ 9223372036854775807) (s : ByteArray) (hs : s.size ≤ 1048576) :
    Calls Tryz.prog 3 #[.agg #[.int .i64 o, .int .i64 a, .int .i64 b], .string s] w fun e w' => e = .returned (.bool true) ∧ Ext w w' := by
  obtain ⟨tS, tE, t6, t7⟩ := texts_agree T o a b ha hb
  obtain ⟨P0, P1, P2, PC, p8, p9⟩ := parse_agree T s hs
  have H : Aside (Ev w ∧ ∀ w', Ext w w' → AwOk w') := ⟨h, AW⟩
  have C6 : Aside (∀ w, Ev w → Calls Tryz.prog 6 #[.agg #[.int .i64 o, .int .i64 a, .int .i64 b]] w fun e w' => e = .returned (.tuple #[.string tS, .int .i64 tE]) ∧ Ext w w') := t6
  have C7 : Aside (∀ w, Calls Tryz.prog 7 #[.agg #[.int .i64 o, .int .i64 a, .int .i64 b]] w fun e w' => e = .returned (.tuple #[.string tS, .int .i64 tE]) ∧ Ext w w') := t7
  have C8 : Aside (∀ w, Ev w → Calls Tryz.prog 8 #[.string s] w fun e w' => e = .returned (.tuple #[.agg #[.int .i64 P0, .int .i64 P1, .int .i64 P2], .int .i64 PC]) ∧ Ext w w') := p8
  have C9 : Aside (∀ w, Calls Tryz.prog 9 #[.string s] w fun e w' => e = .returned (.tuple #[.agg #[.int .i64 P0, .int .i64 P1, .int .i64 P2], .int .i64 PC]) ∧ Ext w w') := p9
  clear t6 t7 p8 p9 h AW ha hb hs
  go_enter Tryz.func3, Tryz.ntmps3
  go_wp2_with (first
    | (go_at_call 6; refine (C6.out _ (H.out.1.ext ((Ext.refl w).alloc _))).mono ?_; rintro e w1 ⟨rfl, h1⟩; have E1 : Aside (Ext w w1 ∧ Tri w1 w.heap.size o a b) := ⟨ext_in h1, h1.at (new_cell3 w _ _ _)⟩; obtain ⟨a1, a2, a3⟩ := E1.out.2.cells; clear h1)
    | (go_at_call 7; refine (C7.out _).mono ?_; rintro e w2 ⟨rfl, h1⟩; have E2 : Aside (Ext w w2 ∧ Tri w2 w.heap.size o a b) := ⟨E1.out.1.trans h1, h1.at E1.out.2⟩; clear h1)
    | (go_at_call 8; refine (C8.out _ (H.out.1.ext E2.out.1)).mono ?_; rintro e w3 ⟨rfl, h1⟩; have E3 : Aside (Ext w (w3.alloc (.cells #[.int .i64 P0, .int .i64 P1, .int .i64 P2] 23)) ∧ Tri (w3.alloc (.cells #[.int .i64 P0, .int .i64 P1, .int .i64 P2] 23)) w.heap.size o a b ∧ Tri (w3.alloc (.cells #[.int .i64 P0, .int .i64 P1, .int .i64 P2] 23)) w3.heap.size P0 P1 P2) := ⟨(E2.out.1.trans h1).alloc _, ((Ext.refl w3).alloc _).at (h1.at E2.out.2), new_cell3 w3 _ _ _⟩; clear h1)
    | (go_at_call 9; refine (C9.out _).mono ?_; rintro e w4 ⟨rfl, h1⟩; have E4 : Aside (Ext w (w4.alloc (.cells #[.int .i64 P0, .int .i64 P1, .int .i64 P2] 23)) ∧ Tri (w4.alloc (.cells #[.int .i64 P0, .int .i64 P1, .int .i64 P2] 23)) w.heap.size o a b ∧ Tri (w4.alloc (.cells #[.int .i64 P0, .int .i64 P1, .int .i64 P2] 23)) w3.heap.size P0 P1 P2 ∧ Tri (w4.alloc (.cells #[.int .i64 P0, .int .i64 P1, .int .i64 P2] 23)) w4.heap.size P0 P1 P2) := ⟨(E3.out.1.trans h1).alloc _, ((Ext.refl w4).alloc _).at (h1.at E3.out.2.1), ((Ext.refl w4).alloc _).at (h1.at E3.out.2.2), new_cell3 w4 _ _ _⟩; clear h1)
    | (go_at_call 10; (with_reducible refine (nm10 (w4.alloc (.cells #[.int .i64 P0, .int .i64 P1, .int .i64 P2] 23))).mono ?_); rintro e w5 ⟨ga, ca, rfl, h1, h2, h3, h4, h5⟩; have A5 : Aside (Al w w5 o a b P0 P1 P2 w3.heap.size w4.heap.size ∧ 47 ≤ ca ∧ (w4.alloc (.cells #[.int .i64 P0, .int .i64 P1, .int .i64 P2] 23)).heap.size ≤ ga ∧ Row w5 ga 47 0) := ⟨Al.step ⟨E4.out.1, E4.out.2.1, E4.out.2.2.1, E4.out.2.2.2⟩ h5, h1, h2, h4⟩; clear h1 h2 h3 h4 h5)
    | (go_at_call 10; (with_reducible refine (nm10 w5).mono ?_); rintro e w6 ⟨gb, cb, rfl, h1, h2, h3, h4, h5⟩; have A6 : Aside (Al w w6 o a b P0 P1 P2 w3.heap.size w4.heap.size ∧ Row w6 ga 47 0 ∧ 47 ≤ cb ∧ w5.heap.size ≤ gb ∧ Texts w6 gb words) := ⟨A5.out.1.step h5, A5.out.2.2.2.ext h5, h1, h2, h3⟩; clear h1 h2 h3 h4 h5)
    | (go_at_call 11; refine (spoil_ok ga 47 ca (by omega) A5.out.2.1 A6.out.2.1).mono ?_; rintro e w7 ⟨⟨v, rfl⟩, h1⟩; have A7 : Aside (Al w w7 o a b P0 P1 P2 w3.heap.size w4.heap.size ∧ Texts w7 gb words ∧ 47 ≤ cb) := ⟨A6.out.1.but h1 (Nat.lt_of_lt_of_le (lt_of_some E4.out.2.1) A5.out.2.2.1) (Nat.ne_of_lt (Nat.lt_of_lt_of_le (lt_of_some E4.out.2.2.1) A5.out.2.2.1)) (Nat.ne_of_lt (Nat.lt_of_lt_of_le (lt_of_some E4.out.2.2.2) A5.out.2.2.1)), A6.out.2.2.2.2.but h1 (Nat.ne_of_gt (Nat.lt_of_lt_of_le A5.out.2.2.2.lt A6.out.2.2.2.1)), A6.out.2.2.1⟩; clear h1))
  have F0 : Aside (Al w w7 o a b P0 P1 P2 w3.heap.size w4.heap.size) := A7.out.1
  go_region_held3 (fun w' => w'.cell? ⟨w.heap.size, 0, none⟩ = some (.int .i64 o) ∧ w'.cell? ⟨w3.heap.size, 0, none⟩ = some (.int .i64 P0) ∧ w'.cell? ⟨w3.heap.size, 1, none⟩ = some (.int .i64 P1) ∧ w'.cell? ⟨w3.heap.size, 2, none⟩ = some (.int .i64 P2) ∧ w'.cell? ⟨w4.heap.size, 0, none⟩ = some (.int .i64 P0) ∧ w'.cell? ⟨w4.heap.size, 1, none⟩ = some (.int .i64 P1) ∧ w'.cell? ⟨w4.heap.size, 2, none⟩ = some (.int .i64 P2))
    (first
      | exact SS F0.out AE.out
      | exact SS F0.out AD.out
      | exact SS F0.out AC.out
      | exact SS F0.out AB.out
      | exact SS F0.out AA.out
      | exact SS F0.out A9.out
      | exact SS F0.out A8.out.1
      | exact SS F0.out (Ext.refl w7).drew)
    (first
      | (go_at_call 12; refine (num_ok _).mono ?_; rintro e w' ⟨rfl, rfl⟩)
      | (go_at_call 14; refine (nm14 _).mono ?_; rintro e w8 ⟨gc, cc, rfl, h1, h2, h3, h4, h5⟩; have A8 : Aside (Ext w7 w8 ∧ Texts w8 gc words ∧ Texts w8 gb words ∧ 47 ≤ cc) := ⟨(Ext.refl w7).drew.trans h5, h3, A7.out.2.1.ext ((Ext.refl w7).drew.trans h5), h1⟩; clear h1 h2 h3 h4 h5)
      | (go_at_call 13; refine (same47 _ gb gc cb cc A7.out.2.2 A8.out.2.2.2 A8.out.2.2.1 A8.out.2.1).mono ?_; rintro e w9 ⟨rfl, h1⟩; have A9 : Aside (Ext w7 w9) := A8.out.1.trans h1; clear h1)
      | (go_at_call 15; refine (ends15 o).mono ?_; rintro e wA ⟨rfl, h1⟩; have AA : Aside (Ext w7 wA) := A9.out.trans h1; clear h1)
      | (go_at_call 16; refine (ends16 o).mono ?_; rintro e wB ⟨rfl, h1⟩; have AB : Aside (Ext w7 wB) := AA.out.trans h1; clear h1)
      | (go_at_call 17; refine (jumps17 o).mono ?_; rintro e wC ⟨rfl, h1⟩; have AC : Aside (Ext w7 wC) := AB.out.trans h1; clear h1)
      | (go_at_call 18; refine (jumps18 o).mono ?_; rintro e wD ⟨rfl, h1⟩; have AD : Aside (Ext w7 wD) := AC.out.trans h1; clear h1)
      | (go_at_call 19; refine (H.out.2 _ (F0.out.ext.trans AD.out)).mono ?_; rintro e wE ⟨rfl, h1⟩; have AE : Aside (Ext w7 wE) := AD.out.trans h1; clear h1))
  all_goals (go_wp2_with fail; go_ret; exact ⟨rfl, F0.out.ext.trans AE.out⟩)
end Go.Proofs.YtnegdimhejldfaaGreatDoor.cw
