/- What gneissref16.Parse answers: the walk. -/
import Derived.Test.YtnegdimhejldfaaGreatDoorRt
namespace Go.Proofs.YtnegdimhejldfaaGreatDoor.cw
open Go Go.RowKit Go.Lib Go.Proofs Go.Joins Go.Proofs.YtnegdimhejldfaaGreatDoor.dec
set_option linter.unusedVariables false
set_option maxRecDepth 100000
variable {w : World}
theorem words_len : ∀ s : List UInt8, ∀ x ∈ wordsOf s, x.length ≤ s.length
  | [], x, h => by
    simp [wordsOf] at h
    subst h
    exact Nat.le_refl _
  | c :: r, x, h => by
    simp only [wordsOf] at h
    split at h
    · rcases List.mem_cons.1 h with rfl | h
      · exact Nat.zero_le _
      · exact Nat.le_succ_of_le (words_len r x h)
    · split at h
      · rename_i e
        exact absurd e (wordsOf_ne r)
      · rename_i y ys e
        have ih := words_len r
        rw [e] at ih
        rcases List.mem_cons.1 h with rfl | h
        · exact Nat.succ_le_succ (ih y (List.mem_cons_self ..))
        · exact Nat.le_succ_of_le (ih x (List.mem_cons_of_mem _ h))
theorem getD_len (s : List UInt8) (j : Nat) (hj : j < (wordsOf s).length) : ((wordsOf s).getD j []).length ≤ s.length := words_len s _ (by rw [List.getD_eq_getElem?_getD, List.getElem?_eq_getElem hj]; exact List.getElem_mem hj)
abbrev zz (w : World) : World := w.alloc (.cells #[.int .i64 0, .int .i64 0, .int .i64 0] 23)
theorem zz_0 (w : World) : Z0 (zz w) w.heap.size := new_cell3 w _ _ _
theorem texts_0 {w : World} {g : Nat} {W : List (List UInt8)} (h : Texts w g W) (j : Nat) (hj : j < W.length) : w.cell? ⟨g, j, none⟩ = some (.string (bs (W.getD j []))) := h.cell hj
theorem place_words (x : List UInt8) (w : World) (g c : Nat) (hc : 47 ≤ c) (h : Texts w g words) : Calls Tryz.prog 30 #[.slice (some ⟨g, 0, none⟩) 47 c, .string (bs x)] w fun e w' => e = .returned (.int .i64 (place words x)) ∧ Ext w w' := place_ok words x g c (by decide) hc h
theorem place_opers (x : List UInt8) (w : World) (g c : Nat) (hc : 12 ≤ c) (h : Texts w g opers) : Calls Tryz.prog 30 #[.slice (some ⟨g, 0, none⟩) 12 c, .string (bs x)] w fun e w' => e = .returned (.int .i64 (place opers x)) ∧ Ext w w' := place_ok opers x g c (by decide) hc h
theorem refAt_ne {W : List (List UInt8)} {q : Nat} (h : W.length ≠ 1 + ar q) : refAt W q = .args := if_pos h
theorem refAt_8 {W : List (List UInt8)} (h : W.length = 2) : refAt W 8 = match opers.idxOf? (W.getD 1 []) with | some i => .ok 8 (i : Nat) 0 | none => .args := by
  unfold refAt
  rw [if_neg (fun e => e (by rw [h]; rfl)), if_pos rfl]
  cases opers.idxOf? (W.getD 1 []) <;> rfl
theorem refAt_0 {W : List (List UInt8)} {q : Nat} (h : W.length = 1) (ha : ar q = 0) (h8 : q ≠ 8) : refAt W q = .ok q 0 0 := by
  unfold refAt
  rw [if_neg (fun e => e (by rw [h, ha])), if_neg h8, if_pos ⟨fun e => absurd e (by omega), fun e => absurd e (by omega)⟩, if_neg (by omega), if_neg (by omega)]
theorem refAt_1 {W : List (List UInt8)} {q : Nat} (h : W.length = 2) (ha : ar q = 1) (h8 : q ≠ 8) : refAt W q = if (whole (W.getD 1 [])).2 = true then .ok q (whole (W.getD 1 [])).1 0 else .args := by
  unfold refAt
  rw [if_neg (fun e => e (by rw [h, ha])), if_neg h8, if_pos (by omega : 1 < W.length), if_neg (by omega : ¬ 2 < W.length)]
  by_cases hk : (whole (W.getD 1 [])).2 = true
  · rw [if_pos hk, if_pos ⟨fun _ => hk, fun e => absurd e (by omega)⟩]
  · rw [if_neg hk, if_neg (fun e => hk (e.1 (by omega)))]
theorem refAt_2 {W : List (List UInt8)} {q : Nat} (h : W.length = 3) (ha : ar q = 2) (h8 : q ≠ 8) : refAt W q = if (whole (W.getD 1 [])).2 = true ∧ (whole (W.getD 2 [])).2 = true then .ok q (whole (W.getD 1 [])).1 (whole (W.getD 2 [])).1 else .args := by
  unfold refAt
  rw [if_neg (fun e => e (by rw [h, ha])), if_neg h8, if_pos (by omega : 1 < W.length), if_pos (by omega : 2 < W.length)]
  by_cases hk : (whole (W.getD 1 [])).2 = true ∧ (whole (W.getD 2 [])).2 = true
  · rw [if_pos hk, if_pos ⟨fun _ => hk.1, fun _ => hk.2⟩]
  · rw [if_neg hk, if_neg (fun e => hk ⟨e.1 (by omega), e.2 (by omega)⟩)]
theorem ar_le : ∀ q, q < 47 → ar q ≤ 2 := by decide
def Oz (w : World) (b : Nat) (q A B : Int) : Prop := w.heap[b]? = some (.cells #[.int .i64 q, .int .i64 A, .int .i64 B] 23 (0, 0))
theorem Oz.setA {w : World} {b : Nat} {q A B : Int} (h : Oz w b q A B) (x : Int) : Oz (w.setCell ⟨b, 1, none⟩ (.int .i64 x)) b q x B := set_at w b 1 _ h
theorem Oz.setB {w : World} {b : Nat} {q A B : Int} (h : Oz w b q A B) (x : Int) : Oz (w.setCell ⟨b, 2, none⟩ (.int .i64 x)) b q A x := set_at w b 2 _ h
theorem Oz.cells {w : World} {b : Nat} {q A B : Int} (h : Oz w b q A B) : w.cell? ⟨b, 0, none⟩ = some (.int .i64 q) ∧ w.cell? ⟨b, 1, none⟩ = some (.int .i64 A) ∧ w.cell? ⟨b, 2, none⟩ = some (.int .i64 B) ∧ w.frozen? ⟨b, 1, none⟩ = false ∧ w.frozen? ⟨b, 2, none⟩ = false := by
  unfold Oz at h
  refine ⟨?_, ?_, ?_, ?_, ?_⟩ <;> first | (simp only [World.cell?, h]; rfl) | (simp only [World.frozen?, h]; rfl)
structure St (w wx : World) (g : Nat) (W : List (List UInt8)) (b : Nat) (q A B : Int) : Prop where
  ext : Ext w wx
  z : Z0 wx w.heap.size
  t : Texts wx g W
  o : Oz wx b q A B
  lt : w.heap.size < b
  gb : g < b
theorem Texts.set {w : World} {g b i : Nat} {xs : List (List UInt8)} {v : Value} (h : Texts w g xs) (hb : g ≠ b) : Texts (w.setCell ⟨b, i, none⟩ v) g xs := by
  obtain ⟨arr, ty, fz, h1, h2⟩ := h
  exact ⟨arr, ty, fz, (set_other _ _ _ _ _ hb).trans h1, h2⟩
theorem St.new {w w4 : World} {g : Nat} {W : List (List UInt8)} (h : Ext w w4) (z : Z0 w4 w.heap.size) (t : Texts w4 g W) (q : Int) : St w (w4.alloc (.cells #[.int .i64 q, .int .i64 0, .int .i64 0] 23)) g W w4.heap.size q 0 0 :=
  ⟨h.alloc _, ((Ext.refl w4).alloc _).at z, t.ext ((Ext.refl w4).alloc _), new_cell3 w4 _ _ _, lt_of_some z, let ⟨_, _, _, h1, _⟩ := t; lt_of_some h1⟩
theorem St.step {w wx wy : World} {g : Nat} {W : List (List UInt8)} {b : Nat} {q A B : Int} (h : St w wx g W b q A B) (e : Ext wx wy) : St w wy g W b q A B := ⟨h.ext.trans e, e.at h.z, h.t.ext e, e.at h.o, h.lt, h.gb⟩
theorem St.setA {w wx : World} {g : Nat} {W : List (List UInt8)} {b : Nat} {q A B : Int} (h : St w wx g W b q A B) (x : Int) : St w (wx.setCell ⟨b, 1, none⟩ (.int .i64 x)) g W b q x B :=
  ⟨h.ext.set _ _ (Nat.le_of_lt h.lt), h.z.set (Nat.ne_of_lt h.lt), h.t.set (Nat.ne_of_lt h.gb), h.o.setA x, h.lt, h.gb⟩
theorem St.setB {w wx : World} {g : Nat} {W : List (List UInt8)} {b : Nat} {q A B : Int} (h : St w wx g W b q A B) (x : Int) : St w (wx.setCell ⟨b, 2, none⟩ (.int .i64 x)) g W b q A x :=
  ⟨h.ext.set _ _ (Nat.le_of_lt h.lt), h.z.set (Nat.ne_of_lt h.lt), h.t.set (Nat.ne_of_lt h.gb), h.o.setB x, h.lt, h.gb⟩
set_option maxHeartbeats 8000000 in
theorem rparse_ok (s : ByteArray) (hs : s.size ≤ 1048576) : Calls Tryz.prog 9 #[.string s] w fun e w' => e = .returned (ans (refParse s.data.toList)) ∧ Ext w w' := by
  obtain ⟨W, hW⟩ : ∃ W, W = wordsOf s.data.toList := ⟨_, rfl⟩
  obtain ⟨n, hn⟩ : ∃ n, n = W.length := ⟨_, rfl⟩
  have n0 : 0 < n := by rw [hn, hW]; exact List.length_pos_iff.2 (wordsOf_ne _)
  have C29 : Aside (∀ w, Calls Tryz.prog 29 #[.string s] w fun e w' => ∃ g c, e = .returned (.slice (some ⟨g, 0, none⟩) n c) ∧ n ≤ c ∧ w.heap.size ≤ g ∧ Texts w' g W ∧ Ext w w') := fun w => by
    rw [hn, hW]; exact words_ok s hs
  have RP : Aside (refParse s.data.toList = match words.idxOf? (W.getD 0 []) with | none => .op | some op => refAt W op) := by rw [hW]; rfl
  have WL : Aside (n = W.length ∧ ∀ j, j < n → (bs (W.getD j [])).size ≤ 1048576) := ⟨hn, fun j hj => by
    rw [bs_size, hW]
    have := getD_len s.data.toList j (by rw [← hW, ← hn]; exact hj)
    have h2 : s.size = s.data.toList.length := rfl
    omega⟩
  obtain ⟨x0, hx0⟩ : ∃ x0, x0 = W.getD 0 [] := ⟨_, rfl⟩
  rw [← hx0] at RP
  have X0 : Aside (x0 = W.getD 0 []) := hx0
  clear hW hn hs hx0
  have p1 : (0 : Int) < n := by omega
  go_enter Tryz.func9, Tryz.ntmps9
  go_wp2_with (go_at_call 29; refine (C29.out _).mono ?_; rintro e w1 ⟨g, c, rfl, h1, h2, h3, h4⟩; have A : Aside (n ≤ c ∧ Texts w1 g W ∧ Ext w w1 ∧ Z0 w1 w.heap.size) := ⟨h1, h3, ext_in h4, h4.at (zz_0 w)⟩; clear h1 h2 h3 h4)
  go_cut [5] (fun s5 wx => s5 = .int .i64 (place words x0) ∧ Aside (Ext w1 wx))
  case first =>
    have c0 : w1.cell? ⟨g, 0, none⟩ = some (.string (bs x0)) := by rw [X0.out]; exact A.out.2.1.cell (by have := WL.out.1; omega)
    go_region_with (first
      | (go_at_call 14; refine (mt.texts_run _ 14 words mt.names14 (by decide) mt.words_small).mono ?_; rintro e w2 ⟨g2, c2, rfl, h1, h2, h3, h4, h5⟩; have k0 := ((Ext.refl w1).drew.trans h5).cell c0; have B : Aside (47 ≤ c2 ∧ Texts w2 g2 words ∧ Ext w1 w2) := ⟨h1, h3, (Ext.refl w1).drew.trans h5⟩; clear h1 h2 h3 h4 h5)
      | (go_at_call 30; refine (place_words x0 _ g2 c2 B.out.1 B.out.2.1).mono ?_; rintro e w3 ⟨rfl, h1⟩; have D : Aside (Ext w1 w3) := B.out.2.2.trans h1; clear h1))
    all_goals (go_wp2_with fail; go_meet; exact ⟨rfl, D.out⟩)
  case rest =>
    obtain ⟨rfl, hcut⟩ := hcut
    have E : Aside (Ext w wc ∧ Z0 wc w.heap.size ∧ Texts wc g W) := ⟨A.out.2.2.1.trans hcut.out, hcut.out.at A.out.2.2.2, A.out.2.1.ext hcut.out⟩
    obtain ⟨z0, z1, z2, y0, y1, y2⟩ := E.out.2.1.cells
    clear hcut
    cases hx : words.idxOf? x0 with
    | none =>
      have hp : place words x0 = -1 := by unfold place; rw [hx]
      have R : Aside (refParse s.data.toList = .op) := by have := RP.out; rw [hx] at this; exact this
      rw [hp]
      clear hp hx
      go_wp2_with fail
      refine bodyPost_ret (v := .tuple #[.agg #[.int .i64 0, .int .i64 0, .int .i64 0], .int .i64 1600]) ?_ rfl ⟨?_, ((E.out.1.set _ _ (Nat.le_refl _)).set _ _ (Nat.le_refl _)).set _ _ (Nat.le_refl _)⟩
      · simp [results, Tryz.results9, go_sem, z0, z1, z2]
      · rw [show refParse s.data.toList = .op from R.out]; rfl
    | some q =>
      have hp : place words x0 = q := by unfold place; rw [hx]
      have R : Aside (refParse s.data.toList = refAt W q) := by have := RP.out; rw [hx] at this; exact this
      have hq := (find_some hx).1
      have Q : Aside (q < 47) := hq
      rw [hp]
      clear hp hx
      have q1 : (0 : Int) ≤ q := by omega
      have q3 : decide ((q : Int) < 0) = false := decide_eq_false (by omega)
      obtain ⟨m, hm⟩ : ∃ m, m = ar q := ⟨_, rfl⟩
      have m2 : m ≤ 2 := by rw [hm]; exact ar_le q hq
      have T24 : Aside (∀ w, Calls Tryz.prog 24 #[.int .i64 q] w fun e w' => e = .returned (.int .i64 m) ∧ Ext w w') := fun w => by rw [hm]; exact mt.operands_ok w q Q.out
      have M : Aside (m = ar q) := hm
      clear hm hq
      by_cases hn : n = 1 + m
      · skip
        by_cases h8 : q = 8
        · have b8 : ((q : Int) == 8) = true := beq_iff_eq.2 (by omega)
          obtain rfl : m = 1 := by rw [M.out, h8]; rfl
          obtain rfl : n = 2 := by omega
          have R8 : Aside (refParse s.data.toList = match opers.idxOf? (W.getD 1 []) with | some i => .ok q (i : Nat) 0 | none => .args) := by
            have := R.out
            rw [h8] at this
            rw [Aside, this, refAt_8 (by rw [← WL.out.1]), h8]
          obtain ⟨x1, hx1⟩ : ∃ x1, x1 = W.getD 1 [] := ⟨_, rfl⟩
          rw [← hx1] at R8
          have X1 : Aside (x1 = W.getD 1 []) := hx1
          clear hn h8 hx1
          go_wp2_with (go_at_call 24; refine (T24.out _).mono ?_; rintro e w4 ⟨rfl, h4⟩; have S4 : Aside (St w (w4.alloc (.cells #[.int .i64 q, .int .i64 0, .int .i64 0] 23)) g W w4.heap.size q 0 0) := St.new (E.out.1.trans h4) (h4.at E.out.2.1) (E.out.2.2.ext h4) q; obtain ⟨za4, zb4, zc4, zd4, ze4, zf4⟩ := S4.out.z.cells; obtain ⟨oa4, ob4, oc4, od4, oe4⟩ := S4.out.o.cells; clear h4)
          go_cut [6] (fun s6 wx => s6 = .pointer (some ⟨w4.heap.size, 0, none⟩) ∧ Aside (St w wx g W w4.heap.size q (place opers x1) 0))
          case first =>
            obtain ⟨VV, hV⟩ : ∃ V, V = (w4.alloc (.cells #[.int .i64 q, .int .i64 0, .int .i64 0] 23)) := ⟨_, rfl⟩
            rw [← hV] at za4 zb4 zc4 zd4 ze4 zf4 oa4 ob4 oc4 od4 oe4 ⊢
            have SV : Aside (St w VV g W w4.heap.size q 0 0) := by rw [hV]; exact S4.out
            clear hV
            have c1 : VV.cell? ⟨g, 1, none⟩ = some (.string (bs x1)) := by rw [X1.out]; exact SV.out.t.cell (by rw [← WL.out.1]; omega)
            go_region_with (first
              | (go_at_call 23; refine (mt.texts_run _ 23 opers mt.ariths23 (by decide) mt.opers_small).mono ?_; rintro e w5 ⟨g5, c5, rfl, h1, h2, h3, h4, h5⟩; have k0 := ((Ext.refl VV).drew.trans h5).cell c1; have D : Aside (12 ≤ c5 ∧ Texts w5 g5 opers ∧ St w w5 g W w4.heap.size q 0 0) := ⟨h1, h3, SV.out.step ((Ext.refl VV).drew.trans h5)⟩; clear h1 h2 h3 h4 h5)
              | (go_at_call 30; refine (place_opers x1 _ g5 c5 D.out.1 D.out.2.1).mono ?_; rintro e w6 ⟨rfl, h1⟩; have S6 : Aside (St w w6 g W w4.heap.size q 0 0) := D.out.2.2.step h1; obtain ⟨za6, zb6, zc6, zd6, ze6, zf6⟩ := S6.out.z.cells; obtain ⟨oa6, ob6, oc6, od6, oe6⟩ := S6.out.o.cells; clear h1))
            all_goals (go_wp2_with fail; go_meet; exact ⟨rfl, S6.out.setA _⟩)
          case rest =>
            obtain ⟨rfl, hcut⟩ := hcut
            obtain ⟨za7, zb7, zc7, zd7, ze7, zf7⟩ := hcut.out.z.cells; obtain ⟨oa7, ob7, oc7, od7, oe7⟩ := hcut.out.o.cells
            cases hx : opers.idxOf? x1 with
            | none =>
              have hp : place opers x1 = -1 := by unfold place; rw [hx]
              have RR : Aside (refParse s.data.toList = .args) := by have := R8.out; rw [hx] at this; exact this
              rw [hp] at ob7
              clear hp hx
              go_wp2_with fail
              refine bodyPost_ret (v := .tuple #[.agg #[.int .i64 0, .int .i64 0, .int .i64 0], .int .i64 1602]) ?_ rfl ⟨?_, ((hcut.out.ext.set _ _ (Nat.le_refl _)).set _ _ (Nat.le_refl _)).set _ _ (Nat.le_refl _)⟩
              · simp [results, Tryz.results9, go_sem, za7, zb7, zc7]
              · rw [RR.out]; rfl
            | some i =>
              have hp : place opers x1 = i := by unfold place; rw [hx]
              have RR : Aside (refParse s.data.toList = .ok q i 0) := by have := R8.out; rw [hx] at this; exact this
              have d1 : decide ((i : Int) < 0) = false := decide_eq_false (by omega)
              rw [hp] at ob7
              clear hp hx
              go_wp2_with fail
              refine bodyPost_ret (v := .tuple #[.agg #[.int .i64 q, .int .i64 i, .int .i64 0], .int .i64 0]) ?_ rfl ⟨?_, ((hcut.out.ext.set _ _ (Nat.le_refl _)).set _ _ (Nat.le_refl _)).set _ _ (Nat.le_refl _)⟩
              · simp [results, Tryz.results9, go_sem, za7, zb7, zc7]
              · rw [RR.out]; rfl
        · have b8 : ((q : Int) == 8) = false := beq_eq_false_iff_ne.2 (by omega)
          rcases (by omega : m = 0 ∨ m = 1 ∨ m = 2) with rfl | rfl | rfl
          · obtain rfl : n = 1 := by omega
            have RR : Aside (refParse s.data.toList = .ok q 0 0) := R.out.trans (refAt_0 (by rw [← WL.out.1]) M.out.symm h8)
            clear hn h8
            go_wp2_with (go_at_call 24; refine (T24.out _).mono ?_; rintro e w4 ⟨rfl, h4⟩; have S4 : Aside (St w (w4.alloc (.cells #[.int .i64 q, .int .i64 0, .int .i64 0] 23)) g W w4.heap.size q 0 0) := St.new (E.out.1.trans h4) (h4.at E.out.2.1) (E.out.2.2.ext h4) q; obtain ⟨za4, zb4, zc4, zd4, ze4, zf4⟩ := S4.out.z.cells; obtain ⟨oa4, ob4, oc4, od4, oe4⟩ := S4.out.o.cells; clear h4)
            refine bodyPost_ret (v := .tuple #[.agg #[.int .i64 q, .int .i64 0, .int .i64 0], .int .i64 0]) ?_ rfl ⟨?_, ((S4.out.ext.set _ _ (Nat.le_refl _)).set _ _ (Nat.le_refl _)).set _ _ (Nat.le_refl _)⟩
            · simp [results, Tryz.results9, go_sem, za4, zb4, zc4]
            · rw [RR.out]; rfl
          · obtain rfl : n = 2 := by omega
            obtain ⟨x1, hx1⟩ : ∃ x1, x1 = W.getD 1 [] := ⟨_, rfl⟩
            obtain ⟨v1, k1, hw⟩ : ∃ v1 k1, whole x1 = (v1, k1) := ⟨_, _, rfl⟩
            have R1 : Aside (refParse s.data.toList = if k1 = true then .ok q v1 0 else .args) := R.out.trans (by rw [refAt_1 (by rw [← WL.out.1]) M.out.symm h8, ← hx1, hw])
            have W1 : Aside (∀ w, Calls Tryz.prog 31 #[.string (bs x1)] w fun e w' => e = .returned (.tuple #[.int .i64 v1, .bool k1]) ∧ Ext w w') := fun w => by
              have := whole_ok (w := w) (bs x1) (by rw [hx1]; exact WL.out.2 1 (by omega))
              rw [show (bs x1).data.toList = x1 from by simp, hw] at this
              exact this
            have X1 : Aside (x1 = W.getD 1 []) := hx1
            have c0 : wc.cell? ⟨g, 1, none⟩ = some (.string (bs x1)) := by rw [X1.out]; exact E.out.2.2.cell (by rw [← WL.out.1]; omega)
            clear hn h8 hx1 hw
            cases k1 with
            | true =>
              go_wp2_with (first | (go_at_call 24; refine (T24.out _).mono ?_; rintro e w4 ⟨rfl, h4⟩; have S4 : Aside (St w (w4.alloc (.cells #[.int .i64 q, .int .i64 0, .int .i64 0] 23)) g W w4.heap.size q 0 0) := St.new (E.out.1.trans h4) (h4.at E.out.2.1) (E.out.2.2.ext h4) q; obtain ⟨za4, zb4, zc4, zd4, ze4, zf4⟩ := S4.out.z.cells; obtain ⟨oa4, ob4, oc4, od4, oe4⟩ := S4.out.o.cells; have c4 : (w4.alloc (.cells #[.int .i64 q, .int .i64 0, .int .i64 0] 23)).cell? ⟨g, 1, none⟩ = some (.string (bs x1)) := ((Ext.refl w4).alloc _).cell (h4.cell c0); clear h4) | (go_at_call 31; (with_reducible refine (W1.out _).mono ?_); rintro e w5 ⟨rfl, h5⟩; have S5 : Aside (St w w5 g W w4.heap.size q 0 0) := S4.out.step h5; obtain ⟨za5, zb5, zc5, zd5, ze5, zf5⟩ := S5.out.z.cells; obtain ⟨oa5, ob5, oc5, od5, oe5⟩ := S5.out.o.cells; have S6 : Aside (St w (w5.setCell ⟨w4.heap.size, 1, none⟩ (.int .i64 v1)) g W w4.heap.size q v1 0) := S5.out.setA v1; obtain ⟨za6, zb6, zc6, zd6, ze6, zf6⟩ := S6.out.z.cells; obtain ⟨oa6, ob6, oc6, od6, oe6⟩ := S6.out.o.cells; clear h5))
              refine bodyPost_ret (v := .tuple #[.agg #[.int .i64 q, .int .i64 v1, .int .i64 0], .int .i64 0]) ?_ rfl ⟨?_, ((S6.out.ext.set _ _ (Nat.le_refl _)).set _ _ (Nat.le_refl _)).set _ _ (Nat.le_refl _)⟩
              · simp [results, Tryz.results9, go_sem, za6, zb6, zc6]
              · rw [R1.out]; rfl
            | false =>
              go_wp2_with (first | (go_at_call 24; refine (T24.out _).mono ?_; rintro e w4 ⟨rfl, h4⟩; have S4 : Aside (St w (w4.alloc (.cells #[.int .i64 q, .int .i64 0, .int .i64 0] 23)) g W w4.heap.size q 0 0) := St.new (E.out.1.trans h4) (h4.at E.out.2.1) (E.out.2.2.ext h4) q; obtain ⟨za4, zb4, zc4, zd4, ze4, zf4⟩ := S4.out.z.cells; obtain ⟨oa4, ob4, oc4, od4, oe4⟩ := S4.out.o.cells; have c4 : (w4.alloc (.cells #[.int .i64 q, .int .i64 0, .int .i64 0] 23)).cell? ⟨g, 1, none⟩ = some (.string (bs x1)) := ((Ext.refl w4).alloc _).cell (h4.cell c0); clear h4) | (go_at_call 31; (with_reducible refine (W1.out _).mono ?_); rintro e w5 ⟨rfl, h5⟩; have S5 : Aside (St w w5 g W w4.heap.size q 0 0) := S4.out.step h5; obtain ⟨za5, zb5, zc5, zd5, ze5, zf5⟩ := S5.out.z.cells; obtain ⟨oa5, ob5, oc5, od5, oe5⟩ := S5.out.o.cells; have S6 : Aside (St w (w5.setCell ⟨w4.heap.size, 1, none⟩ (.int .i64 v1)) g W w4.heap.size q v1 0) := S5.out.setA v1; obtain ⟨za6, zb6, zc6, zd6, ze6, zf6⟩ := S6.out.z.cells; obtain ⟨oa6, ob6, oc6, od6, oe6⟩ := S6.out.o.cells; clear h5))
              refine bodyPost_ret (v := .tuple #[.agg #[.int .i64 0, .int .i64 0, .int .i64 0], .int .i64 1602]) ?_ rfl ⟨?_, ((S6.out.ext.set _ _ (Nat.le_refl _)).set _ _ (Nat.le_refl _)).set _ _ (Nat.le_refl _)⟩
              · simp [results, Tryz.results9, go_sem, za6, zb6, zc6]
              · rw [R1.out]; rfl
          · obtain rfl : n = 3 := by omega
            obtain ⟨x1, hx1⟩ : ∃ x1, x1 = W.getD 1 [] := ⟨_, rfl⟩
            obtain ⟨x2, hx2⟩ : ∃ x2, x2 = W.getD 2 [] := ⟨_, rfl⟩
            obtain ⟨v1, k1, hw⟩ : ∃ v1 k1, whole x1 = (v1, k1) := ⟨_, _, rfl⟩
            obtain ⟨v2, k2, hw2⟩ : ∃ v2 k2, whole x2 = (v2, k2) := ⟨_, _, rfl⟩
            have R1 : Aside (refParse s.data.toList = if k1 = true ∧ k2 = true then .ok q v1 v2 else .args) := R.out.trans (by rw [refAt_2 (by rw [← WL.out.1]) M.out.symm h8, ← hx1, ← hx2, hw, hw2])
            have W1 : Aside (∀ w, Calls Tryz.prog 31 #[.string (bs x1)] w fun e w' => e = .returned (.tuple #[.int .i64 v1, .bool k1]) ∧ Ext w w') := fun w => by
              have := whole_ok (w := w) (bs x1) (by rw [hx1]; exact WL.out.2 1 (by omega))
              rw [show (bs x1).data.toList = x1 from by simp, hw] at this
              exact this
            have W2 : Aside (∀ w, Calls Tryz.prog 31 #[.string (bs x2)] w fun e w' => e = .returned (.tuple #[.int .i64 v2, .bool k2]) ∧ Ext w w') := fun w => by
              have := whole_ok (w := w) (bs x2) (by rw [hx2]; exact WL.out.2 2 (by omega))
              rw [show (bs x2).data.toList = x2 from by simp, hw2] at this
              exact this
            have X1 : Aside (x1 = W.getD 1 [] ∧ x2 = W.getD 2 []) := ⟨hx1, hx2⟩
            have c0 : wc.cell? ⟨g, 1, none⟩ = some (.string (bs x1)) := by rw [X1.out.1]; exact E.out.2.2.cell (by rw [← WL.out.1]; omega)
            clear hn h8 hx1 hw hx2 hw2
            cases k1 with
            | true =>
              cases k2 with
              | true =>
                go_wp2_with (first | (go_at_call 24; refine (T24.out _).mono ?_; rintro e w4 ⟨rfl, h4⟩; have S4 : Aside (St w (w4.alloc (.cells #[.int .i64 q, .int .i64 0, .int .i64 0] 23)) g W w4.heap.size q 0 0) := St.new (E.out.1.trans h4) (h4.at E.out.2.1) (E.out.2.2.ext h4) q; obtain ⟨za4, zb4, zc4, zd4, ze4, zf4⟩ := S4.out.z.cells; obtain ⟨oa4, ob4, oc4, od4, oe4⟩ := S4.out.o.cells; have c4 : (w4.alloc (.cells #[.int .i64 q, .int .i64 0, .int .i64 0] 23)).cell? ⟨g, 1, none⟩ = some (.string (bs x1)) := ((Ext.refl w4).alloc _).cell (h4.cell c0); clear h4) | (go_at_call 31; (with_reducible refine (W1.out _).mono ?_); rintro e w5 ⟨rfl, h5⟩; have S5 : Aside (St w w5 g W w4.heap.size q 0 0) := S4.out.step h5; obtain ⟨za5, zb5, zc5, zd5, ze5, zf5⟩ := S5.out.z.cells; obtain ⟨oa5, ob5, oc5, od5, oe5⟩ := S5.out.o.cells; have S6 : Aside (St w (w5.setCell ⟨w4.heap.size, 1, none⟩ (.int .i64 v1)) g W w4.heap.size q v1 0) := S5.out.setA v1; obtain ⟨za6, zb6, zc6, zd6, ze6, zf6⟩ := S6.out.z.cells; obtain ⟨oa6, ob6, oc6, od6, oe6⟩ := S6.out.o.cells; have c6 : (w5.setCell ⟨w4.heap.size, 1, none⟩ (.int .i64 v1)).cell? ⟨g, 2, none⟩ = some (.string (bs x2)) := (by rw [X1.out.2]; exact S6.out.t.cell (by rw [← WL.out.1]; omega)); clear h5) | (go_at_call 31; (with_reducible refine (W2.out _).mono ?_); rintro e w7 ⟨rfl, h5⟩; have S7 : Aside (St w w7 g W w4.heap.size q v1 0) := S6.out.step h5; obtain ⟨za7, zb7, zc7, zd7, ze7, zf7⟩ := S7.out.z.cells; obtain ⟨oa7, ob7, oc7, od7, oe7⟩ := S7.out.o.cells; have S8 : Aside (St w (w7.setCell ⟨w4.heap.size, 2, none⟩ (.int .i64 v2)) g W w4.heap.size q v1 v2) := S7.out.setB v2; obtain ⟨za8, zb8, zc8, zd8, ze8, zf8⟩ := S8.out.z.cells; obtain ⟨oa8, ob8, oc8, od8, oe8⟩ := S8.out.o.cells; clear h5))
                refine bodyPost_ret (v := .tuple #[.agg #[.int .i64 q, .int .i64 v1, .int .i64 v2], .int .i64 0]) ?_ rfl ⟨?_, ((S8.out.ext.set _ _ (Nat.le_refl _)).set _ _ (Nat.le_refl _)).set _ _ (Nat.le_refl _)⟩
                · simp [results, Tryz.results9, go_sem, za8, zb8, zc8]
                · rw [R1.out]; rfl
              | false =>
                go_wp2_with (first | (go_at_call 24; refine (T24.out _).mono ?_; rintro e w4 ⟨rfl, h4⟩; have S4 : Aside (St w (w4.alloc (.cells #[.int .i64 q, .int .i64 0, .int .i64 0] 23)) g W w4.heap.size q 0 0) := St.new (E.out.1.trans h4) (h4.at E.out.2.1) (E.out.2.2.ext h4) q; obtain ⟨za4, zb4, zc4, zd4, ze4, zf4⟩ := S4.out.z.cells; obtain ⟨oa4, ob4, oc4, od4, oe4⟩ := S4.out.o.cells; have c4 : (w4.alloc (.cells #[.int .i64 q, .int .i64 0, .int .i64 0] 23)).cell? ⟨g, 1, none⟩ = some (.string (bs x1)) := ((Ext.refl w4).alloc _).cell (h4.cell c0); clear h4) | (go_at_call 31; (with_reducible refine (W1.out _).mono ?_); rintro e w5 ⟨rfl, h5⟩; have S5 : Aside (St w w5 g W w4.heap.size q 0 0) := S4.out.step h5; obtain ⟨za5, zb5, zc5, zd5, ze5, zf5⟩ := S5.out.z.cells; obtain ⟨oa5, ob5, oc5, od5, oe5⟩ := S5.out.o.cells; have S6 : Aside (St w (w5.setCell ⟨w4.heap.size, 1, none⟩ (.int .i64 v1)) g W w4.heap.size q v1 0) := S5.out.setA v1; obtain ⟨za6, zb6, zc6, zd6, ze6, zf6⟩ := S6.out.z.cells; obtain ⟨oa6, ob6, oc6, od6, oe6⟩ := S6.out.o.cells; have c6 : (w5.setCell ⟨w4.heap.size, 1, none⟩ (.int .i64 v1)).cell? ⟨g, 2, none⟩ = some (.string (bs x2)) := (by rw [X1.out.2]; exact S6.out.t.cell (by rw [← WL.out.1]; omega)); clear h5) | (go_at_call 31; (with_reducible refine (W2.out _).mono ?_); rintro e w7 ⟨rfl, h5⟩; have S7 : Aside (St w w7 g W w4.heap.size q v1 0) := S6.out.step h5; obtain ⟨za7, zb7, zc7, zd7, ze7, zf7⟩ := S7.out.z.cells; obtain ⟨oa7, ob7, oc7, od7, oe7⟩ := S7.out.o.cells; have S8 : Aside (St w (w7.setCell ⟨w4.heap.size, 2, none⟩ (.int .i64 v2)) g W w4.heap.size q v1 v2) := S7.out.setB v2; obtain ⟨za8, zb8, zc8, zd8, ze8, zf8⟩ := S8.out.z.cells; obtain ⟨oa8, ob8, oc8, od8, oe8⟩ := S8.out.o.cells; clear h5))
                refine bodyPost_ret (v := .tuple #[.agg #[.int .i64 0, .int .i64 0, .int .i64 0], .int .i64 1602]) ?_ rfl ⟨?_, ((S8.out.ext.set _ _ (Nat.le_refl _)).set _ _ (Nat.le_refl _)).set _ _ (Nat.le_refl _)⟩
                · simp [results, Tryz.results9, go_sem, za8, zb8, zc8]
                · rw [R1.out]; rfl
            | false =>
              cases k2 with
              | true =>
                go_wp2_with (first | (go_at_call 24; refine (T24.out _).mono ?_; rintro e w4 ⟨rfl, h4⟩; have S4 : Aside (St w (w4.alloc (.cells #[.int .i64 q, .int .i64 0, .int .i64 0] 23)) g W w4.heap.size q 0 0) := St.new (E.out.1.trans h4) (h4.at E.out.2.1) (E.out.2.2.ext h4) q; obtain ⟨za4, zb4, zc4, zd4, ze4, zf4⟩ := S4.out.z.cells; obtain ⟨oa4, ob4, oc4, od4, oe4⟩ := S4.out.o.cells; have c4 : (w4.alloc (.cells #[.int .i64 q, .int .i64 0, .int .i64 0] 23)).cell? ⟨g, 1, none⟩ = some (.string (bs x1)) := ((Ext.refl w4).alloc _).cell (h4.cell c0); clear h4) | (go_at_call 31; (with_reducible refine (W1.out _).mono ?_); rintro e w5 ⟨rfl, h5⟩; have S5 : Aside (St w w5 g W w4.heap.size q 0 0) := S4.out.step h5; obtain ⟨za5, zb5, zc5, zd5, ze5, zf5⟩ := S5.out.z.cells; obtain ⟨oa5, ob5, oc5, od5, oe5⟩ := S5.out.o.cells; have S6 : Aside (St w (w5.setCell ⟨w4.heap.size, 1, none⟩ (.int .i64 v1)) g W w4.heap.size q v1 0) := S5.out.setA v1; obtain ⟨za6, zb6, zc6, zd6, ze6, zf6⟩ := S6.out.z.cells; obtain ⟨oa6, ob6, oc6, od6, oe6⟩ := S6.out.o.cells; have c6 : (w5.setCell ⟨w4.heap.size, 1, none⟩ (.int .i64 v1)).cell? ⟨g, 2, none⟩ = some (.string (bs x2)) := (by rw [X1.out.2]; exact S6.out.t.cell (by rw [← WL.out.1]; omega)); clear h5) | (go_at_call 31; (with_reducible refine (W2.out _).mono ?_); rintro e w7 ⟨rfl, h5⟩; have S7 : Aside (St w w7 g W w4.heap.size q v1 0) := S6.out.step h5; obtain ⟨za7, zb7, zc7, zd7, ze7, zf7⟩ := S7.out.z.cells; obtain ⟨oa7, ob7, oc7, od7, oe7⟩ := S7.out.o.cells; have S8 : Aside (St w (w7.setCell ⟨w4.heap.size, 2, none⟩ (.int .i64 v2)) g W w4.heap.size q v1 v2) := S7.out.setB v2; obtain ⟨za8, zb8, zc8, zd8, ze8, zf8⟩ := S8.out.z.cells; obtain ⟨oa8, ob8, oc8, od8, oe8⟩ := S8.out.o.cells; clear h5))
                refine bodyPost_ret (v := .tuple #[.agg #[.int .i64 0, .int .i64 0, .int .i64 0], .int .i64 1602]) ?_ rfl ⟨?_, ((S8.out.ext.set _ _ (Nat.le_refl _)).set _ _ (Nat.le_refl _)).set _ _ (Nat.le_refl _)⟩
                · simp [results, Tryz.results9, go_sem, za8, zb8, zc8]
                · rw [R1.out]; rfl
              | false =>
                go_wp2_with (first | (go_at_call 24; refine (T24.out _).mono ?_; rintro e w4 ⟨rfl, h4⟩; have S4 : Aside (St w (w4.alloc (.cells #[.int .i64 q, .int .i64 0, .int .i64 0] 23)) g W w4.heap.size q 0 0) := St.new (E.out.1.trans h4) (h4.at E.out.2.1) (E.out.2.2.ext h4) q; obtain ⟨za4, zb4, zc4, zd4, ze4, zf4⟩ := S4.out.z.cells; obtain ⟨oa4, ob4, oc4, od4, oe4⟩ := S4.out.o.cells; have c4 : (w4.alloc (.cells #[.int .i64 q, .int .i64 0, .int .i64 0] 23)).cell? ⟨g, 1, none⟩ = some (.string (bs x1)) := ((Ext.refl w4).alloc _).cell (h4.cell c0); clear h4) | (go_at_call 31; (with_reducible refine (W1.out _).mono ?_); rintro e w5 ⟨rfl, h5⟩; have S5 : Aside (St w w5 g W w4.heap.size q 0 0) := S4.out.step h5; obtain ⟨za5, zb5, zc5, zd5, ze5, zf5⟩ := S5.out.z.cells; obtain ⟨oa5, ob5, oc5, od5, oe5⟩ := S5.out.o.cells; have S6 : Aside (St w (w5.setCell ⟨w4.heap.size, 1, none⟩ (.int .i64 v1)) g W w4.heap.size q v1 0) := S5.out.setA v1; obtain ⟨za6, zb6, zc6, zd6, ze6, zf6⟩ := S6.out.z.cells; obtain ⟨oa6, ob6, oc6, od6, oe6⟩ := S6.out.o.cells; have c6 : (w5.setCell ⟨w4.heap.size, 1, none⟩ (.int .i64 v1)).cell? ⟨g, 2, none⟩ = some (.string (bs x2)) := (by rw [X1.out.2]; exact S6.out.t.cell (by rw [← WL.out.1]; omega)); clear h5) | (go_at_call 31; (with_reducible refine (W2.out _).mono ?_); rintro e w7 ⟨rfl, h5⟩; have S7 : Aside (St w w7 g W w4.heap.size q v1 0) := S6.out.step h5; obtain ⟨za7, zb7, zc7, zd7, ze7, zf7⟩ := S7.out.z.cells; obtain ⟨oa7, ob7, oc7, od7, oe7⟩ := S7.out.o.cells; have S8 : Aside (St w (w7.setCell ⟨w4.heap.size, 2, none⟩ (.int .i64 v2)) g W w4.heap.size q v1 v2) := S7.out.setB v2; obtain ⟨za8, zb8, zc8, zd8, ze8, zf8⟩ := S8.out.z.cells; obtain ⟨oa8, ob8, oc8, od8, oe8⟩ := S8.out.o.cells; clear h5))
                refine bodyPost_ret (v := .tuple #[.agg #[.int .i64 0, .int .i64 0, .int .i64 0], .int .i64 1602]) ?_ rfl ⟨?_, ((S8.out.ext.set _ _ (Nat.le_refl _)).set _ _ (Nat.le_refl _)).set _ _ (Nat.le_refl _)⟩
                · simp [results, Tryz.results9, go_sem, za8, zb8, zc8]
                · rw [R1.out]; rfl
      · have R2 : Aside (refParse s.data.toList = .args) := R.out.trans (refAt_ne (by rw [← WL.out.1, ← M.out]; exact hn))
        have q4 : (m : Int) ≤ 2 := by omega
        have q5 : (0 : Int) ≤ m := by omega
        have d1 : ((n : Int) == 1 + m) = false := beq_eq_false_iff_ne.2 (by omega)
        have e1 : wrap64 (1 + (m : Int)) = 1 + m := by unfold wrap64; omega
        clear hn
        go_wp2_with (go_at_call 24; refine (T24.out _).mono ?_; rintro e w4 ⟨rfl, h4⟩; have E4 : Aside (Ext w w4 ∧ Z0 w4 w.heap.size ∧ Texts w4 g W) := ⟨E.out.1.trans h4, h4.at E.out.2.1, E.out.2.2.ext h4⟩; obtain ⟨z0, z1, z2, y0, y1, y2⟩ := E4.out.2.1.cells; clear h4)
        refine bodyPost_ret (v := .tuple #[.agg #[.int .i64 0, .int .i64 0, .int .i64 0], .int .i64 1602]) ?_ rfl ⟨?_, ((E4.out.1.set _ _ (Nat.le_refl _)).set _ _ (Nat.le_refl _)).set _ _ (Nat.le_refl _)⟩
        · simp [results, Tryz.results9, go_sem, z0, z1, z2]
        · rw [show refParse s.data.toList = .args from R2.out]; rfl
end Go.Proofs.YtnegdimhejldfaaGreatDoor.cw
