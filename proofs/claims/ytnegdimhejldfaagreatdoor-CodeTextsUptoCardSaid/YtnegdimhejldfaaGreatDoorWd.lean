/- What gneissref16.Words answers: the walk. -/
import Derived.Test.YtnegdimhejldfaaGreatDoorDm
namespace Go.Proofs.YtnegdimhejldfaaGreatDoor.cw
open Go Go.RowKit Go.Lib Go.Proofs Go.Joins Go.Proofs.YtnegdimhejldfaaGreatDoor.dec
set_option linter.unusedVariables false
set_option maxRecDepth 100000
variable {w : World}
theorem info9 : (Tryz.prog.info? 9).map (fun i => (i.zero, i.size, i.bytes)) = some (some (.string ⟨#[]⟩), 1, 16) := by kernel_rfl
def sv (ws : List (List UInt8)) : List Value := ws.map fun l => .string (bs l)
theorem ext_bs (s : ByteArray) (a b : Nat) : s.extract a b = bs ((s.data.toList.drop a).take (b - a)) := by
  apply ByteArray.ext
  apply Array.ext'
  simp [List.extract_eq_take_drop]
theorem split_at (L : List UInt8) (f i : Nat) (c : UInt8) (hf : f ≤ i) (hc : L[i]? = some c) : L.drop f = (L.drop f).take (i - f) ++ c :: L.drop (i + 1) := by
  have hi : i < L.length := (List.getElem?_eq_some_iff.1 hc).1
  have h1 : L[i] = c := (List.getElem?_eq_some_iff.1 hc).2
  conv => lhs; rw [← List.take_append_drop (i - f) (L.drop f)]
  rw [List.drop_drop, show f + (i - f) = i from by omega, List.drop_eq_getElem_cons hi, h1]
theorem w_end (L : List UInt8) (ws : List (List UInt8)) (f n : Nat) (hn : n = L.length) (hw : ws ++ wordsOf (L.drop f) = wordsOf L) (hp : ∀ x ∈ (L.drop f).take (n - f), x ≠ 32) : ws ++ [(L.drop f).take (n - f)] = wordsOf L := by
  have e : (L.drop f).take (n - f) = L.drop f := List.take_of_length_le (by rw [List.length_drop]; omega)
  rw [e] at hp ⊢
  rw [← hw, wordsOf_plain _ hp]
theorem w_cut (L : List UInt8) (ws : List (List UInt8)) (f i : Nat) (hf : f ≤ i) (hc : L[i]? = some 32) (hw : ws ++ wordsOf (L.drop f) = wordsOf L) (hp : ∀ x ∈ (L.drop f).take (i - f), x ≠ 32) : (ws ++ [(L.drop f).take (i - f)]) ++ wordsOf (L.drop (i + 1)) = wordsOf L := by
  rw [split_at L f i 32 hf hc, wordsOf_at _ _ hp] at hw
  rw [← hw]
  simp
theorem w_go (L : List UInt8) (f i : Nat) (c : UInt8) (hf : f ≤ i) (hc : L[i]? = some c) (h32 : c ≠ 32) (hp : ∀ x ∈ (L.drop f).take (i - f), x ≠ 32) : ∀ x ∈ (L.drop f).take (i + 1 - f), x ≠ 32 := by
  have hi : i < L.length := (List.getElem?_eq_some_iff.1 hc).1
  have e : (L.drop f).take (i + 1 - f) = (L.drop f).take (i - f) ++ [c] := by
    rw [show i + 1 - f = (i - f) + 1 from by omega, List.take_add_one]
    rw [List.getElem?_drop, show f + (i - f) = i from by omega, hc]
    rfl
  rw [e]
  intro x hx
  rcases List.mem_append.1 hx with hx | hx
  · exact hp x hx
  · rw [List.mem_singleton] at hx
    subst hx
    exact h32
theorem byte_at (s : ByteArray) (i : Nat) (h : i < s.size) : s.data.toList[i]? = some s[i] := by
  rw [Array.getElem?_toList, Array.getElem?_eq_getElem h]
  rfl
theorem sv_snoc (ws : List (List UInt8)) (s : ByteArray) (a b : Nat) : sv ws ++ [.string (s.extract a b)] = sv (ws ++ [(s.data.toList.drop a).take (b - a)]) := by
  rw [ext_bs]
  simp [sv]
theorem texts_of {w : World} {B : Nat} {v : Value} {ws : List (List UInt8)} (h : w.ownsRow B 9 1 v ws.length (sv ws)) (hn : ws ≠ []) : ∃ g c, v = .slice (some ⟨g, 0, none⟩) ws.length c ∧ ws.length ≤ c ∧ B ≤ g ∧ Texts w g ws := by
  rcases h.2 with ⟨_, h⟩ | ⟨g, cap, cur, h1, h2, h3, h4, h5, h6, h7⟩
  · exact absurd (List.length_eq_zero_iff.1 h) hn
  · refine ⟨g, cap, h1, h4, h2, cur, 9, (0, 0), h3, fun j hj => ?_⟩
    have h8 : (sv ws)[j]? = some (.string (bs (ws.getD j []))) := by simp [sv, hj]
    rw [← h7, List.getElem?_take_of_lt (by omega)] at h8
    simpa using h8
set_option maxHeartbeats 8000000 in
theorem words_ok (s : ByteArray) (hs : s.size ≤ 1048576) : Calls Tryz.prog 29 #[.string s] w fun e w' => ∃ g c, e = .returned (.slice (some ⟨g, 0, none⟩) (wordsOf s.data.toList).length c) ∧ (wordsOf s.data.toList).length ≤ c ∧ w.heap.size ≤ g ∧ Texts w' g (wordsOf s.data.toList) ∧ Ext w w' := by
  obtain ⟨i0, hI, hz0, hz1, hz2⟩ := info_parts info9
  have Z : Aside (s.size = s.data.toList.length) := rfl
  go_enter Tryz.func29, Tryz.ntmps29
  go_wp2_with (fail)
  go_loopg [3, 4, 5] (s.size + 2) (fun k s3 s4 s5 wr => ∃ (i from' : Nat) (ws : List (List UInt8)), s5 = .int .i64 i ∧ s4 = .int .i64 from' ∧ wr.ownsRow w.heap.size 9 1 s3 ws.length (sv ws) ∧ Aside (i + k = s.size + 2 ∧ Ext w wr ∧ ws.length ≤ i ∧
    ((i ≤ s.size ∧ from' ≤ i ∧ ws ++ wordsOf (s.data.toList.drop from') = wordsOf s.data.toList ∧ ∀ x ∈ (s.data.toList.drop from').take (i - from'), x ≠ 32) ∨ (i = s.size + 1 ∧ ws = wordsOf s.data.toList))))
  case atStart => exact ⟨0, 0, [], rfl, rfl, World.ownsRow_nil _ _ _ _, by omega, Ext.refl _, Nat.le_refl _, .inl ⟨Nat.zero_le _, Nat.le_refl _, rfl, by simp⟩⟩
  case round =>
    obtain ⟨i, from', ws, rfl, rfl, hown, hk⟩ := hrel
    obtain ⟨hk1, hk2, hk3, hk4⟩ := hk.out
    by_cases hi : i = s.size + 1
    · subst hi
      have hw : ws = wordsOf s.data.toList := by
        rcases hk4 with h | h
        · omega
        · exact h.2
      subst hw
      obtain ⟨g, c, rfl, h1, h2, h3⟩ := texts_of hown (wordsOf_ne _)
      have A : Aside ((wordsOf s.data.toList).length ≤ c ∧ w.heap.size ≤ g ∧ Texts wr g (wordsOf s.data.toList) ∧ Ext w wr) := ⟨h1, h2, h3, hk2⟩
      have d1 : decide ((((s.size + 1 : Nat)) : Int) ≤ s.size) = false := decide_eq_false (by omega)
      clear hown hk hk1 hk2 hk3 hk4 h1 h2 h3
      go_wp2_with fail
      go_ret
      exact ⟨g, c, rfl, A.out⟩
    · obtain ⟨hle, hf, hw, hp⟩ : i ≤ s.size ∧ from' ≤ i ∧ ws ++ wordsOf (s.data.toList.drop from') = wordsOf s.data.toList ∧ ∀ x ∈ (s.data.toList.drop from').take (i - from'), x ≠ 32 := by
        rcases hk4 with h | h
        · exact h
        · exact absurd h.1 hi
      have A : Aside (i + gk = s.size + 2 ∧ wr.ownsRow w.heap.size 9 1 _ ws.length (sv ws) ∧ Ext w wr ∧ ws.length ≤ i ∧ ws ++ wordsOf (s.data.toList.drop from') = wordsOf s.data.toList ∧ ∀ x ∈ (s.data.toList.drop from').take (i - from'), x ≠ 32) := ⟨hk1, hown, hk2, hk3, hw, hp⟩
      have q1 : (0 : Int) ≤ i := by omega
      have q2 : (i : Int) ≤ s.size := by omega
      have q5 : ws.length ≤ 1048576 := by omega
      have q6 : (0 : Int) ≤ from' := by omega
      have q7 : (from' : Int) ≤ i := by omega
      by_cases he : i = s.size
      · subst he
        clear hown hk hk1 hk2 hk3 hk4 hw hp hi hle
        go_wp2_with (at_builtin; refine wpList_append_own _ rfl (.tmp 22) (.tmp 27) 33 rfl w.heap.size 9 i0 (.string ⟨#[]⟩) 1 16 Tryz.underlying33 hI hz0 hz1 hz2 rfl (by decide) _ _ _ rfl (A.out.2.1.alloc _) ⟨wr.heap.size, 0, none⟩ 1 1 [.string (s.extract from' s.size)] rfl rfl (cell_one_new _ _ _) (by intro u hu; simp at hu; subst hu; rfl) (by unfold maxLen; omega) (by omega) (by rw [World.size_alloc]; have := A.out.2.2.1.size; omega) ?_; intro v' w1 hown' hgrow hnil; have B : Aside (w1.ownsRow w.heap.size 9 1 v' (ws.length + 1) (sv ws ++ [.string (s.extract from' s.size)]) ∧ Ext w w1) := ⟨hown', (A.out.2.2.1.alloc _).grown hgrow (by rw [World.size_alloc]; have := A.out.2.2.1.size; omega) (fun k hk => (A.out.2.1.lt k hk).1)⟩; clear hown' hgrow hnil)
        go_roundg 1
        · refine ⟨s.size + 1, s.size + 1, ws ++ [(s.data.toList.drop from').take (s.size - from')], rfl, rfl, ?_, ?_⟩
          · have b := B.out.1
            rw [sv_snoc] at b
            rw [List.length_append]
            exact b
          · exact ⟨by omega, B.out.2, by rw [List.length_append]; exact Nat.succ_le_succ A.out.2.2.2.1, .inr ⟨rfl, w_end _ _ _ _ Z.out A.out.2.2.2.2.1 A.out.2.2.2.2.2⟩⟩
        · have := A.out.1; omega
      · have q3 : (i : Int) < s.size := by omega
        have q4 : i < s.size := by omega
        have q8 : ((i : Int) == s.size) = false := beq_eq_false_iff_ne.2 (by omega)
        clear hown hk hk1 hk2 hk3 hk4 hw hp
        by_cases hb : s[i] = 32
        · have b1 : (((s[i]).toNat : Int) == 32) = true := by rw [hb]; rfl
          have HB : Aside (s[i] = 32) := hb
          clear hb
          go_wp2_with (at_builtin; refine wpList_append_own _ rfl (.tmp 22) (.tmp 27) 33 rfl w.heap.size 9 i0 (.string ⟨#[]⟩) 1 16 Tryz.underlying33 hI hz0 hz1 hz2 rfl (by decide) _ _ _ rfl (A.out.2.1.alloc _) ⟨wr.heap.size, 0, none⟩ 1 1 [.string (s.extract from' i)] rfl rfl (cell_one_new _ _ _) (by intro u hu; simp at hu; subst hu; rfl) (by unfold maxLen; omega) (by omega) (by rw [World.size_alloc]; have := A.out.2.2.1.size; omega) ?_; intro v' w1 hown' hgrow hnil; have B : Aside (w1.ownsRow w.heap.size 9 1 v' (ws.length + 1) (sv ws ++ [.string (s.extract from' i)]) ∧ Ext w w1) := ⟨hown', (A.out.2.2.1.alloc _).grown hgrow (by rw [World.size_alloc]; have := A.out.2.2.1.size; omega) (fun k hk => (A.out.2.1.lt k hk).1)⟩; clear hown' hgrow hnil)
          go_roundg (gk - 1)
          · refine ⟨i + 1, i + 1, ws ++ [(s.data.toList.drop from').take (i - from')], rfl, rfl, ?_, ?_⟩
            · have b := B.out.1
              rw [sv_snoc] at b
              rw [List.length_append]
              exact b
            · exact ⟨by have := A.out.1; omega, B.out.2, by rw [List.length_append]; exact Nat.succ_le_succ A.out.2.2.2.1, .inl ⟨by omega, Nat.le_refl _, w_cut _ _ _ _ (by omega) ((byte_at s i q4).trans (by rw [HB.out])) A.out.2.2.2.2.1 A.out.2.2.2.2.2, by simp⟩⟩
          · have := A.out.1; omega
        · have b1 : (((s[i]).toNat : Int) == 32) = false := beq_eq_false_iff_ne.2 (fun e => hb (UInt8.toNat_inj.1 (by rw [show (s[i]).toNat = 32 by omega]; rfl)))
          have HB : Aside (s[i] ≠ 32) := hb
          clear hb
          go_wp2_with fail
          go_roundg (gk - 1)
          · exact ⟨i + 1, from', ws, rfl, rfl, A.out.2.1, by have := A.out.1; omega, A.out.2.2.1, by have := A.out.2.2.2.1; omega, .inl ⟨by omega, by omega, A.out.2.2.2.2.1, w_go _ _ _ _ (by omega) (byte_at s i q4) HB.out A.out.2.2.2.2.2⟩⟩
          · have := A.out.1; omega
end Go.Proofs.YtnegdimhejldfaaGreatDoor.cw
