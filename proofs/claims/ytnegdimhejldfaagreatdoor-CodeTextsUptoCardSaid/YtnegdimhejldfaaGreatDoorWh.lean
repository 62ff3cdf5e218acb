/- What gneissref16.Whole answers: the walk. -/
import Derived.Test.YtnegdimhejldfaaGreatDoorWd
namespace Go.Proofs.YtnegdimhejldfaaGreatDoor.cw
open Go Go.RowKit Go.Lib Go.Proofs Go.Joins Go.Proofs.YtnegdimhejldfaaGreatDoor.dec
set_option linter.unusedVariables false
set_option maxRecDepth 100000
variable {w : World}
def neg (S : List UInt8) : Bool := decide (S.head? = some 45)
def tl (S : List UInt8) : List UInt8 := if S.head? = some 45 then S.drop 1 else S
def badW (T : List UInt8) (n : Bool) : Prop := T = [] ∨ 19 < T.length ∨ (T.head? = some 48 ∧ (1 < T.length ∨ n = true))
theorem empty_no (s : ByteArray) (h : 0 < s.size) : s.toList.isEmpty = false := by
  rw [toList_data]
  cases e : s.data.toList with
  | nil => have : s.size = s.data.toList.length := rfl; rw [e, List.length_nil] at this; omega
  | cons => rfl
theorem head_at (s : ByteArray) (h : 0 < s.size) : s.data.toList.head? = some s[0] := by
  rw [List.head?_eq_getElem?]
  exact byte_at s 0 h
theorem tl_not {s : ByteArray} (h : 0 < s.size) (hb : ¬ s[0] = 45) : tl s.data.toList = s.data.toList := by
  unfold tl
  rw [head_at s h, if_neg (fun e => hb (Option.some.inj e))]
theorem whole_bad (S : List UInt8) (h : badW (tl S) (neg S)) : whole S = (0, false) := by
  unfold whole
  have : (if S.head? = some 45 then S.drop 1 else S) = tl S := rfl
  rw [this]
  exact if_pos (by simpa [badW, neg] using h)
theorem digs_at (t : ByteArray) (i : Nat) (x : Int) (h : i < t.size) : digs (t.data.toList.drop i) x = if (t[i]).toNat < 48 ∨ 57 < (t[i]).toNat then none else if x < Int.tdiv (-9223372036854775808 + (((t[i]).toNat : Int) - 48)) 10 then none else digs (t.data.toList.drop (i + 1)) (10 * x - (((t[i]).toNat : Int) - 48)) := by
  have h1 : i < t.data.toList.length := h
  rw [List.drop_eq_getElem_cons h1]
  have h2 : t.data.toList[i] = t[i] := by
    have := byte_at t i h
    rw [List.getElem?_eq_getElem h1] at this
    exact Option.some.inj this
  rw [h2]
  rfl
theorem lim_ok (x : Int) (z : Nat) (h1 : 48 ≤ z) (h2 : z ≤ 57) (hx : x ≤ 0) (hl : ¬ x < Int.tdiv (-9223372036854775808 + ((z : Int) - 48)) 10) : -9223372036854775808 ≤ 10 * x - ((z : Int) - 48) ∧ 10 * x - ((z : Int) - 48) ≤ 0 := by
  have e : Int.tdiv (-9223372036854775808 + ((z : Int) - 48)) 10 = -((9223372036854775808 - ((z : Int) - 48)) / 10) := by
    rw [show -9223372036854775808 + ((z : Int) - 48) = -(9223372036854775808 - ((z : Int) - 48)) from by omega, Int.neg_tdiv, Int.tdiv_eq_ediv_of_nonneg (by omega)]
  rw [e] at hl
  omega
theorem whole_good (S : List UInt8) (h : ¬ badW (tl S) (neg S)) : whole S = match digs (tl S) 0 with
    | none => (0, false)
    | some x => if neg S = true then (x, true) else if x = -9223372036854775808 then (0, false) else (-x, true) := by
  unfold whole
  have : (if S.head? = some 45 then S.drop 1 else S) = tl S := rfl
  rw [this, if_neg (by simpa [badW, neg] using h)]
  cases digs (tl S) 0 with
  | none => rfl
  | some x => simp [neg]
theorem neg_not {s : ByteArray} (h : 0 < s.size) (hb : ¬ s[0] = 45) : neg s.data.toList = false := by
  unfold neg
  rw [head_at s h]
  exact decide_eq_false (fun e => hb (Option.some.inj e))
theorem pos_none {s : ByteArray} (h : 0 < s.size) (hb : ¬ s[0] = 45) (hg : ¬ badW s.data.toList false) (hd : digs s.data.toList 0 = none) : whole s.data.toList = (0, false) := by
  rw [whole_good _ (by rw [tl_not h hb, neg_not h hb]; exact hg), tl_not h hb, hd]
theorem pos_some {s : ByteArray} (h : 0 < s.size) (hb : ¬ s[0] = 45) (hg : ¬ badW s.data.toList false) {x : Int} (hd : digs s.data.toList 0 = some x) : whole s.data.toList = if x = -9223372036854775808 then (0, false) else (-x, true) := by
  rw [whole_good _ (by rw [tl_not h hb, neg_not h hb]; exact hg), tl_not h hb, hd, neg_not h hb]
  rfl
theorem tl_neg {s t : ByteArray} (h : 0 < s.size) (hb : s[0] = 45) (ht : s.extract 1 s.size = t) : tl s.data.toList = t.data.toList ∧ neg s.data.toList = true := by
  constructor
  · unfold tl
    rw [head_at s h, if_pos (by rw [hb]), ← ht, ext_bs]
    have : s.size = s.data.toList.length := rfl
    rw [List.take_of_length_le (by rw [List.length_drop]; omega)]
  · unfold neg
    rw [head_at s h]
    exact decide_eq_true (by rw [hb])
theorem neg_none {s t : ByteArray} (h : 0 < s.size) (hb : s[0] = 45) (ht : s.extract 1 s.size = t) (hg : ¬ badW t.data.toList true) (hd : digs t.data.toList 0 = none) : whole s.data.toList = (0, false) := by
  obtain ⟨h1, h2⟩ := tl_neg h hb ht
  rw [whole_good _ (by rw [h1, h2]; exact hg), h1, hd]
theorem neg_some {s t : ByteArray} (h : 0 < s.size) (hb : s[0] = 45) (ht : s.extract 1 s.size = t) (hg : ¬ badW t.data.toList true) {x : Int} (hd : digs t.data.toList 0 = some x) : whole s.data.toList = (x, true) := by
  obtain ⟨h1, h2⟩ := tl_neg h hb ht
  rw [whole_good _ (by rw [h1, h2]; exact hg), h1, hd, h2]
  rfl
theorem good_of {t : ByteArray} (h : 0 < t.size) (n : Bool) (h19 : t.size ≤ 19) (h48 : t[0] ≠ 48 ∨ (t.size ≤ 1 ∧ n = false)) : ¬ badW t.data.toList n := by
  rintro (e | e | ⟨e1, e2⟩)
  · have : t.size = t.data.toList.length := rfl
    rw [e, List.length_nil] at this; omega
  · have : t.size = t.data.toList.length := rfl
    omega
  · rw [head_at t h] at e1
    rcases h48 with h48 | ⟨h48, rfl⟩
    · exact h48 (Option.some.inj e1)
    · rcases e2 with e2 | e2
      · have : t.size = t.data.toList.length := rfl
        omega
      · cases e2
set_option maxHeartbeats 8000000 in
theorem whole_pos (s : ByteArray) (hs : s.size ≤ 1048576) (q2 : 0 < s.size) (hb : ¬ s[0] = 45) : Calls Tryz.prog 31 #[.string s] w fun e w' => e = .returned (.tuple #[.int .i64 (whole s.data.toList).1, .bool (whole s.data.toList).2]) ∧ Ext w w' := by
  have q1 : (0 : Int) < s.size := by omega
  have b1 : (((s[0]).toNat : Int) == 45) = false := beq_eq_false_iff_ne.2 (fun e => hb (UInt8.toNat_inj.1 (by rw [show (s[0]).toNat = 45 by omega]; rfl)))
  have e1 : s.toList.isEmpty = false := empty_no s q2
  have e2 : s.toList ≠ [] := by intro e; rw [e] at e1; cases e1
  go_enter Tryz.func31, Tryz.ntmps31
  by_cases h19 : 19 < s.size
  · have r1 : (19 : Int) < s.size := by omega
    go_wp2_with fail
    go_ret2
    exact ⟨by rw [whole_bad _ (.inr (.inl (by rw [tl_not q2 hb]; exact h19)))]; rfl, Ext.refl _⟩
  · have r1 : (s.size : Int) ≤ 19 := by omega
    have r3 : decide ((19 : Int) < s.size) = false := decide_eq_false (by omega)
    by_cases h48 : s[0] = 48
    · have r2 : ((s[0]).toNat : Int) = 48 := by rw [h48]; rfl
      have r4 : (((s[0]).toNat : Int) == 48) = true := by rw [h48]; rfl
      by_cases h1 : 1 < s.size
      · have r5 : (1 : Int) < s.size := by omega
        have F : Aside (whole s.data.toList = (0, false)) := whole_bad _ (.inr (.inr (by rw [tl_not q2 hb]; exact ⟨by rw [head_at s q2, h48], .inl h1⟩)))
        go_wp2_with fail
        go_ret2
        exact ⟨by rw [F.out]; rfl, Ext.refl _⟩
      · have r5 : (s.size : Int) ≤ 1 := by omega
        have r6 : decide ((1 : Int) < s.size) = false := decide_eq_false (by omega)
        have G : Aside (¬ badW s.data.toList false) := good_of q2 false (by omega) (.inr ⟨by omega, rfl⟩)
        go_wp2_with fail
        go_loopg [6, 7] (s.size + 1) (fun k v6 v7 wr => ∃ (i : Nat) (x : Int), v6 = .int .i64 x ∧ v7 = .int .i64 i ∧ Aside (i + k = s.size + 1 ∧ 1 ≤ k ∧ Ext w wr ∧ digs (s.data.toList.drop i) x = digs s.data.toList 0 ∧ -9223372036854775808 ≤ x ∧ x ≤ 0))
        case atStart => exact ⟨0, 0, rfl, rfl, by omega, by omega, Ext.refl _, rfl, by omega, by omega⟩
        case round =>
          obtain ⟨i, x, rfl, rfl, hk⟩ := hrel
          obtain ⟨hk1, hk0, hk2, hk3, hk4, hk5⟩ := hk.out
          by_cases hi : i < s.size
          · have q3 : (0 : Int) ≤ i := by omega
            have q4 : (i : Int) < s.size := by omega
            obtain ⟨z, hz⟩ : ∃ z : Nat, (s[i]).toNat = z := ⟨_, rfl⟩
            have hz2 : z < 256 := by rw [← hz]; exact (s[i]).toNat_lt
            have A : Aside (i + gk = s.size + 1 ∧ Ext w wr ∧ digs (s.data.toList.drop i) x = digs s.data.toList 0) := ⟨hk1, hk2, hk3⟩
            have D := digs_at s i x hi
            rw [hz] at D
            have D' : Aside (digs s.data.toList 0 = if z < 48 ∨ 57 < z then none else if x < Int.tdiv (-9223372036854775808 + ((z : Int) - 48)) 10 then none else digs (s.data.toList.drop (i + 1)) (10 * x - ((z : Int) - 48))) := hk3.symm.trans D
            clear hk hk0 hk1 hk2 hk3 D
            by_cases hc1 : z < 48
            · have d1 : decide ((z : Int) < 48) = true := decide_eq_true (by omega)
              have F : Aside (whole s.data.toList = (0, false)) := pos_none q2 hb G.out (D'.out.trans (if_pos (.inl hc1)))
              go_wp2_with fail
              go_ret2
              exact ⟨by rw [F.out]; rfl, A.out.2.1⟩
            · by_cases hc2 : 57 < z
              · have d1 : ¬ ((z : Int) < 48) := (by omega)
                have d2 : (57 : Int) < z := (by omega)
                have F : Aside (whole s.data.toList = (0, false)) := pos_none q2 hb G.out (D'.out.trans (if_pos (.inr hc2)))
                go_wp2_with fail
                go_ret2
                exact ⟨by rw [F.out]; rfl, A.out.2.1⟩
              · have d1 : ¬ ((z : Int) < 48) := (by omega)
                have d2 : ¬ ((57 : Int) < z) := (by omega)
                have D2 := D'.out
                rw [if_neg (by omega)] at D2
                by_cases hl : x < Int.tdiv (-9223372036854775808 + ((z : Int) - 48)) 10
                · rw [if_pos hl] at D2
                  have F : Aside (whole s.data.toList = (0, false)) := pos_none q2 hb G.out D2
                  clear D2
                  go_wp2_with fail
                  go_ret2
                  exact ⟨by rw [F.out]; rfl, A.out.2.1⟩
                · rw [if_neg hl] at D2
                  have B : Aside (digs (s.data.toList.drop (i + 1)) (10 * x - ((z : Int) - 48)) = digs s.data.toList 0 ∧ -9223372036854775808 ≤ 10 * x - ((z : Int) - 48) ∧ 10 * x - ((z : Int) - 48) ≤ 0) := ⟨D2.symm, lim_ok x z (by omega) (by omega) hk5 hl⟩
                  have e3 : wrap64 (wrap64 (10 * x) - ((z : Int) - 48)) = 10 * x - ((z : Int) - 48) := by
                    have := B.out.2
                    unfold wrap64
                    omega
                  clear D2
                  go_wp2_with fail
                  go_roundg (gk - 1)
                  · exact ⟨i + 1, 10 * x - ((z : Int) - 48), rfl, rfl, by have := A.out.1; omega, by have := A.out.1; omega, A.out.2.1, B.out⟩
                  · have := A.out.1; omega
          · have D : Aside (digs s.data.toList 0 = some x ∧ Ext w wr) := ⟨by rw [← hk3, List.drop_eq_nil_of_le (by have : s.size = s.data.toList.length := rfl; omega)]; rfl, hk2⟩
            obtain rfl : i = s.size := by omega
            have d1 : decide ((s.size : Int) < s.size) = false := decide_eq_false (by omega)
            clear hk hk0 hk1 hk2 hk3 hi
            by_cases hx : x = -9223372036854775808
            · subst hx
              have F : Aside (whole s.data.toList = (0, false)) := ((pos_some q2 hb G.out) D.out.1).trans (if_pos rfl)
              go_wp2_with fail
              go_ret2
              exact ⟨by rw [F.out]; rfl, D.out.2⟩
            · have F : Aside (whole s.data.toList = (-x, true)) := ((pos_some q2 hb G.out) D.out.1).trans (if_neg hx)
              have b2 : (x == -9223372036854775808) = false := beq_eq_false_iff_ne.2 hx
              have e3 : wrap64 (-x) = -x := by unfold wrap64; omega
              go_wp2_with fail
              go_ret2
              exact ⟨by rw [F.out]; rfl, D.out.2⟩
    · have r2 : ¬ ((s[0]).toNat : Int) = 48 := fun e => h48 (UInt8.toNat_inj.1 (by rw [show (s[0]).toNat = 48 by omega]; rfl))
      have r4 : (((s[0]).toNat : Int) == 48) = false := beq_eq_false_iff_ne.2 r2
      have G : Aside (¬ badW s.data.toList false) := good_of q2 false (by omega) (.inl h48)
      go_wp2_with fail
      go_loopg [6, 7] (s.size + 1) (fun k v6 v7 wr => ∃ (i : Nat) (x : Int), v6 = .int .i64 x ∧ v7 = .int .i64 i ∧ Aside (i + k = s.size + 1 ∧ 1 ≤ k ∧ Ext w wr ∧ digs (s.data.toList.drop i) x = digs s.data.toList 0 ∧ -9223372036854775808 ≤ x ∧ x ≤ 0))
      case atStart => exact ⟨0, 0, rfl, rfl, by omega, by omega, Ext.refl _, rfl, by omega, by omega⟩
      case round =>
        obtain ⟨i, x, rfl, rfl, hk⟩ := hrel
        obtain ⟨hk1, hk0, hk2, hk3, hk4, hk5⟩ := hk.out
        by_cases hi : i < s.size
        · have q3 : (0 : Int) ≤ i := by omega
          have q4 : (i : Int) < s.size := by omega
          obtain ⟨z, hz⟩ : ∃ z : Nat, (s[i]).toNat = z := ⟨_, rfl⟩
          have hz2 : z < 256 := by rw [← hz]; exact (s[i]).toNat_lt
          have A : Aside (i + gk = s.size + 1 ∧ Ext w wr ∧ digs (s.data.toList.drop i) x = digs s.data.toList 0) := ⟨hk1, hk2, hk3⟩
          have D := digs_at s i x hi
          rw [hz] at D
          have D' : Aside (digs s.data.toList 0 = if z < 48 ∨ 57 < z then none else if x < Int.tdiv (-9223372036854775808 + ((z : Int) - 48)) 10 then none else digs (s.data.toList.drop (i + 1)) (10 * x - ((z : Int) - 48))) := hk3.symm.trans D
          clear hk hk0 hk1 hk2 hk3 D
          by_cases hc1 : z < 48
          · have d1 : decide ((z : Int) < 48) = true := decide_eq_true (by omega)
            have F : Aside (whole s.data.toList = (0, false)) := pos_none q2 hb G.out (D'.out.trans (if_pos (.inl hc1)))
            go_wp2_with fail
            go_ret2
            exact ⟨by rw [F.out]; rfl, A.out.2.1⟩
          · by_cases hc2 : 57 < z
            · have d1 : ¬ ((z : Int) < 48) := (by omega)
              have d2 : (57 : Int) < z := (by omega)
              have F : Aside (whole s.data.toList = (0, false)) := pos_none q2 hb G.out (D'.out.trans (if_pos (.inr hc2)))
              go_wp2_with fail
              go_ret2
              exact ⟨by rw [F.out]; rfl, A.out.2.1⟩
            · have d1 : ¬ ((z : Int) < 48) := (by omega)
              have d2 : ¬ ((57 : Int) < z) := (by omega)
              have D2 := D'.out
              rw [if_neg (by omega)] at D2
              by_cases hl : x < Int.tdiv (-9223372036854775808 + ((z : Int) - 48)) 10
              · rw [if_pos hl] at D2
                have F : Aside (whole s.data.toList = (0, false)) := pos_none q2 hb G.out D2
                clear D2
                go_wp2_with fail
                go_ret2
                exact ⟨by rw [F.out]; rfl, A.out.2.1⟩
              · rw [if_neg hl] at D2
                have B : Aside (digs (s.data.toList.drop (i + 1)) (10 * x - ((z : Int) - 48)) = digs s.data.toList 0 ∧ -9223372036854775808 ≤ 10 * x - ((z : Int) - 48) ∧ 10 * x - ((z : Int) - 48) ≤ 0) := ⟨D2.symm, lim_ok x z (by omega) (by omega) hk5 hl⟩
                have e3 : wrap64 (wrap64 (10 * x) - ((z : Int) - 48)) = 10 * x - ((z : Int) - 48) := by
                  have := B.out.2
                  unfold wrap64
                  omega
                clear D2
                go_wp2_with fail
                go_roundg (gk - 1)
                · exact ⟨i + 1, 10 * x - ((z : Int) - 48), rfl, rfl, by have := A.out.1; omega, by have := A.out.1; omega, A.out.2.1, B.out⟩
                · have := A.out.1; omega
        · have D : Aside (digs s.data.toList 0 = some x ∧ Ext w wr) := ⟨by rw [← hk3, List.drop_eq_nil_of_le (by have : s.size = s.data.toList.length := rfl; omega)]; rfl, hk2⟩
          obtain rfl : i = s.size := by omega
          have d1 : decide ((s.size : Int) < s.size) = false := decide_eq_false (by omega)
          clear hk hk0 hk1 hk2 hk3 hi
          by_cases hx : x = -9223372036854775808
          · subst hx
            have F : Aside (whole s.data.toList = (0, false)) := ((pos_some q2 hb G.out) D.out.1).trans (if_pos rfl)
            go_wp2_with fail
            go_ret2
            exact ⟨by rw [F.out]; rfl, D.out.2⟩
          · have F : Aside (whole s.data.toList = (-x, true)) := ((pos_some q2 hb G.out) D.out.1).trans (if_neg hx)
            have b2 : (x == -9223372036854775808) = false := beq_eq_false_iff_ne.2 hx
            have e3 : wrap64 (-x) = -x := by unfold wrap64; omega
            go_wp2_with fail
            go_ret2
            exact ⟨by rw [F.out]; rfl, D.out.2⟩
set_option maxHeartbeats 8000000 in
theorem whole_neg (s : ByteArray) (hs : s.size ≤ 1048576) (q2 : 0 < s.size) (hb : s[0] = 45) : Calls Tryz.prog 31 #[.string s] w fun e w' => e = .returned (.tuple #[.int .i64 (whole s.data.toList).1, .bool (whole s.data.toList).2]) ∧ Ext w w' := by
  have q1 : (0 : Int) < s.size := by omega
  have b1 : (((s[0]).toNat : Int) == 45) = true := by rw [hb]; rfl
  obtain ⟨t, ht⟩ : ∃ t, s.extract 1 s.size = t := ⟨_, rfl⟩
  have HT : Aside (s.extract 1 s.size = t) := ht
  by_cases ht0 : t.size = 0
  · have e0 : t = ⟨#[]⟩ := ByteArray.ext (Array.ext' (List.length_eq_zero_iff.1 (show t.data.toList.length = 0 from ht0)))
    have F : Aside (whole s.data.toList = (0, false)) := whole_bad _ (.inl (by rw [(tl_neg q2 hb ht).1, e0]))
    subst e0
    go_enter Tryz.func31, Tryz.ntmps31
    go_wp2_with fail
    go_ret2
    exact ⟨by rw [F.out]; rfl, Ext.refl _⟩
  have q5 : 0 < t.size := by omega
  have q6 : (0 : Int) < t.size := by omega
  have e1 : t.toList.isEmpty = false := empty_no t q5
  have e2 : t.toList ≠ [] := by intro e; rw [e] at e1; cases e1
  go_enter Tryz.func31, Tryz.ntmps31
  by_cases h19 : 19 < t.size
  · have r1 : (19 : Int) < t.size := by omega
    have F : Aside (whole s.data.toList = (0, false)) := whole_bad _ (.inr (.inl (by rw [(tl_neg q2 hb ht).1]; exact h19)))
    go_wp2_with fail
    go_ret2
    exact ⟨by rw [F.out]; rfl, Ext.refl _⟩
  · have r1 : (t.size : Int) ≤ 19 := by omega
    have r3 : decide ((19 : Int) < t.size) = false := decide_eq_false (by omega)
    by_cases h48 : t[0] = 48
    · have r2 : ((t[0]).toNat : Int) = 48 := by rw [h48]; rfl
      have r4 : (((t[0]).toNat : Int) == 48) = true := by rw [h48]; rfl
      have F : Aside (whole s.data.toList = (0, false)) := whole_bad _ (.inr (.inr (by rw [(tl_neg q2 hb ht).1]; exact ⟨by rw [head_at t q5, h48], .inr (tl_neg q2 hb ht).2⟩)))
      by_cases h1 : 1 < t.size
      · have r5 : (1 : Int) < t.size := by omega
        go_wp2_with fail
        go_ret2
        exact ⟨by rw [F.out]; rfl, Ext.refl _⟩
      · have r5 : (t.size : Int) ≤ 1 := by omega
        have r6 : decide ((1 : Int) < t.size) = false := decide_eq_false (by omega)
        go_wp2_with fail
        go_ret2
        exact ⟨by rw [F.out]; rfl, Ext.refl _⟩
    · have r2 : ¬ ((t[0]).toNat : Int) = 48 := fun e => h48 (UInt8.toNat_inj.1 (by rw [show (t[0]).toNat = 48 by omega]; rfl))
      have r4 : (((t[0]).toNat : Int) == 48) = false := beq_eq_false_iff_ne.2 r2
      have G : Aside (¬ badW t.data.toList true) := good_of q5 true (by omega) (.inl h48)
      go_wp2_with fail
      go_loopg [6, 7] (t.size + 1) (fun k v6 v7 wr => ∃ (i : Nat) (x : Int), v6 = .int .i64 x ∧ v7 = .int .i64 i ∧ Aside (i + k = t.size + 1 ∧ 1 ≤ k ∧ Ext w wr ∧ digs (t.data.toList.drop i) x = digs t.data.toList 0 ∧ -9223372036854775808 ≤ x ∧ x ≤ 0))
      case atStart => exact ⟨0, 0, rfl, rfl, by omega, by omega, Ext.refl _, rfl, by omega, by omega⟩
      case round =>
        obtain ⟨i, x, rfl, rfl, hk⟩ := hrel
        obtain ⟨hk1, hk0, hk2, hk3, hk4, hk5⟩ := hk.out
        by_cases hi : i < t.size
        · have q3 : (0 : Int) ≤ i := by omega
          have q4 : (i : Int) < t.size := by omega
          obtain ⟨z, hz⟩ : ∃ z : Nat, (t[i]).toNat = z := ⟨_, rfl⟩
          have hz2 : z < 256 := by rw [← hz]; exact (t[i]).toNat_lt
          have A : Aside (i + gk = t.size + 1 ∧ Ext w wr ∧ digs (t.data.toList.drop i) x = digs t.data.toList 0) := ⟨hk1, hk2, hk3⟩
          have D := digs_at t i x hi
          rw [hz] at D
          have D' : Aside (digs t.data.toList 0 = if z < 48 ∨ 57 < z then none else if x < Int.tdiv (-9223372036854775808 + ((z : Int) - 48)) 10 then none else digs (t.data.toList.drop (i + 1)) (10 * x - ((z : Int) - 48))) := hk3.symm.trans D
          clear hk hk0 hk1 hk2 hk3 D
          by_cases hc1 : z < 48
          · have d1 : decide ((z : Int) < 48) = true := decide_eq_true (by omega)
            have F : Aside (whole s.data.toList = (0, false)) := neg_none q2 hb HT.out G.out (D'.out.trans (if_pos (.inl hc1)))
            go_wp2_with fail
            go_ret2
            exact ⟨by rw [F.out]; rfl, A.out.2.1⟩
          · by_cases hc2 : 57 < z
            · have d1 : ¬ ((z : Int) < 48) := (by omega)
              have d2 : (57 : Int) < z := (by omega)
              have F : Aside (whole s.data.toList = (0, false)) := neg_none q2 hb HT.out G.out (D'.out.trans (if_pos (.inr hc2)))
              go_wp2_with fail
              go_ret2
              exact ⟨by rw [F.out]; rfl, A.out.2.1⟩
            · have d1 : ¬ ((z : Int) < 48) := (by omega)
              have d2 : ¬ ((57 : Int) < z) := (by omega)
              have D2 := D'.out
              rw [if_neg (by omega)] at D2
              by_cases hl : x < Int.tdiv (-9223372036854775808 + ((z : Int) - 48)) 10
              · rw [if_pos hl] at D2
                have F : Aside (whole s.data.toList = (0, false)) := neg_none q2 hb HT.out G.out D2
                clear D2
                go_wp2_with fail
                go_ret2
                exact ⟨by rw [F.out]; rfl, A.out.2.1⟩
              · rw [if_neg hl] at D2
                have B : Aside (digs (t.data.toList.drop (i + 1)) (10 * x - ((z : Int) - 48)) = digs t.data.toList 0 ∧ -9223372036854775808 ≤ 10 * x - ((z : Int) - 48) ∧ 10 * x - ((z : Int) - 48) ≤ 0) := ⟨D2.symm, lim_ok x z (by omega) (by omega) hk5 hl⟩
                have e3 : wrap64 (wrap64 (10 * x) - ((z : Int) - 48)) = 10 * x - ((z : Int) - 48) := by
                  have := B.out.2
                  unfold wrap64
                  omega
                clear D2
                go_wp2_with fail
                go_roundg (gk - 1)
                · exact ⟨i + 1, 10 * x - ((z : Int) - 48), rfl, rfl, by have := A.out.1; omega, by have := A.out.1; omega, A.out.2.1, B.out⟩
                · have := A.out.1; omega
        · have D : Aside (digs t.data.toList 0 = some x ∧ Ext w wr) := ⟨by rw [← hk3, List.drop_eq_nil_of_le (by have : t.size = t.data.toList.length := rfl; omega)]; rfl, hk2⟩
          obtain rfl : i = t.size := by omega
          have d1 : decide ((t.size : Int) < t.size) = false := decide_eq_false (by omega)
          clear hk hk0 hk1 hk2 hk3 hi
          have F : Aside (whole s.data.toList = (x, true)) := (neg_some q2 hb HT.out G.out) D.out.1
          go_wp2_with fail
          go_ret2
          exact ⟨by rw [F.out]; rfl, D.out.2⟩
theorem whole_ok (s : ByteArray) (hs : s.size ≤ 1048576) : Calls Tryz.prog 31 #[.string s] w fun e w' => e = .returned (.tuple #[.int .i64 (whole s.data.toList).1, .bool (whole s.data.toList).2]) ∧ Ext w w' := by
  by_cases h0 : s.size = 0
  · have e0 : s.data.toList = [] := List.length_eq_zero_iff.1 h0
    obtain rfl : s = ⟨#[]⟩ := ByteArray.ext (Array.ext' e0)
    go_enter Tryz.func31, Tryz.ntmps31
    go_wp2_with fail
    go_ret2
    exact ⟨rfl, Ext.refl _⟩
  · by_cases hb : s[0]'(by omega) = 45
    · exact whole_neg s hs (by omega) hb
    · exact whole_pos s hs (by omega) hb
end Go.Proofs.YtnegdimhejldfaaGreatDoor.cw
