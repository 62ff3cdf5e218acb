/- What code.operand answers: walks. -/
import Derived.Test.YtnegdimhejldfaaGreatDoorTx
namespace Go.Proofs.YtnegdimhejldfaaGreatDoor.cw
open Go Go.RowKit Go.Lib Go.Proofs Go.Joins Go.Proofs.YtnegdimhejldfaaGreatDoor.dec
set_option linter.unusedVariables false
set_option maxRecDepth 100000
variable {w : World}
theorem find_at {xs : List (List UInt8)} {x : List UInt8} {i : Nat} (hi : i < xs.length) (he : xs.getD i [] = x) (hb : ∀ j, j < i → xs.getD j [] ≠ x) : xs.idxOf? x = some i := by
  refine List.idxOf?_eq_some_iff.2 ⟨hi, ?_, fun j hj => ?_⟩
  · rw [List.getD_eq_getElem?_getD, List.getElem?_eq_getElem hi] at he
    simpa using he
  · have := hb j hj
    rw [List.getD_eq_getElem?_getD, List.getElem?_eq_getElem (by omega)] at this
    simpa using this
theorem find_no {xs : List (List UInt8)} {x : List UInt8} (hb : ∀ j, j < xs.length → xs.getD j [] ≠ x) : xs.idxOf? x = none := by
  rw [List.idxOf?_eq_none_iff]
  intro hm
  obtain ⟨j, hj, he⟩ := List.mem_iff_getElem.1 hm
  refine hb j hj ?_
  rw [List.getD_eq_getElem?_getD, List.getElem?_eq_getElem hj]
  simpa using he
theorem bs_eq {l : List UInt8} {s : ByteArray} : bs l = s ↔ l = s.data.toList := by
  constructor
  · rintro rfl; simp
  · intro h; subst h; rfl
theorem toList_inj {a b : ByteArray} (h : a.toList = b.toList) : a = b := by
  rw [ByteArray.toList_eq, ByteArray.toList_eq] at h
  exact ByteArray.ext (Array.toList_inj.1 h)
theorem neq_toList {a b : ByteArray} (h : a ≠ b) : (a.toList == b.toList) = false := by
  rw [beq_eq_false_iff_ne]
  exact fun e => h (toList_inj e)
set_option maxHeartbeats 4000000 in
theorem operand_a (h : Ev w) (s : ByteArray) : Calls Tryz.prog 28 #[.int .i64 3, .string s] w fun e w' => e = .returned (.tuple #[.int .i64 (opd 3 s.data.toList).1, .bool (opd 3 s.data.toList).2]) ∧ Ext w w' := by
  have H : Aside (Ev w) := h
  clear h
  go_enter Tryz.func28, Tryz.ntmps28
  go_wp2_with (go_at_call 21; refine (opers_ok H.out).mono ?_; rintro e w1 ⟨g, rfl, h1, h2, h3⟩; have K : Aside (Texts w1 g opers ∧ Ext w w1) := ⟨h2, h3⟩; clear h1 h2 h3)
  go_loopg [14] 12 (fun k v14 w' => ∃ i : Nat, v14 = .int .i64 i ∧ Aside (i + k = 12 ∧ w' = w1 ∧ ∀ j, j < i → opers.getD j [] ≠ s.data.toList))
  case atStart => exact ⟨0, rfl, by omega, rfl, fun j hj => absurd hj (Nat.not_lt_zero j)⟩
  case round =>
    obtain ⟨i, rfl, hk⟩ := hrel
    obtain ⟨hk1, hk2, hk3⟩ := hk.out
    by_cases hi : i < 12
    · have d1 : decide ((i : Int) < 12) = true := decide_eq_true (by omega)
      have q1 : (0 : Int) ≤ i := by omega
      have q2 : (i : Int) < 12 := by omega
      have c1 : wr.cell? ⟨g, i, none⟩ = some (.string (bs (opers.getD i []))) := by rw [hk2]; exact K.out.1.cell hi
      have A : Aside (i < 12 ∧ i + gk = 12 ∧ wr = w1 ∧ ∀ j, j < i → opers.getD j [] ≠ s.data.toList) := ⟨hi, hk1, hk2, hk3⟩
      clear hk hk1 hk2 hk3 hi
      by_cases he : opers.getD i [] = s.data.toList
      · have f1 : bs (opers.getD i []) = s := bs_eq.2 he
        rw [f1] at c1
        have A2 : Aside (opers.getD i [] = s.data.toList) := he
        clear he f1
        go_wp2_with fail
        go_ret2
        have f : opers.idxOf? s.data.toList = some i := find_at A.out.1 A2.out A.out.2.2.2
        have f2 : opd 3 s.data.toList = (((i : Nat) : Int), true) := by unfold opd; rw [if_pos rfl, f]
        rw [f2]
        exact ⟨rfl, by rw [A.out.2.2.1]; exact K.out.2⟩
      · have A2 : Aside (opers.getD i [] ≠ s.data.toList) := he
        obtain ⟨S, hS⟩ : ∃ S, S = bs (opers.getD i []) := ⟨_, rfl⟩
        have f0 : S ≠ s := by rw [hS]; exact fun e => he (bs_eq.1 e)
        have f1 : (S.toList == s.toList) = false := neq_toList f0
        have f2 : decide (S = s) = false := decide_eq_false f0
        rw [← hS] at c1
        clear he f0 hS
        go_wp2_with fail
        go_roundg (gk - 1)
        case measure => have := A.out; omega
        case rel => exact ⟨i + 1, by simp, by have := A.out.2.1; omega, A.out.2.2.1, fun j hj => by
          by_cases e : j = i
          · subst e; exact A2.out
          · exact A.out.2.2.2 j (by omega)⟩
    · have d1 : decide ((i : Int) < 12) = false := decide_eq_false (by omega)
      have A : Aside (wr = w1 ∧ ∀ j, j < opers.length → opers.getD j [] ≠ s.data.toList) := ⟨hk2, fun j hj => hk3 j (by have hj : j < 12 := hj; omega)⟩
      clear hk hk1 hk2 hk3 hi
      go_wp2_with fail
      go_ret2
      have f2 : opd 3 s.data.toList = (0, false) := by unfold opd; rw [if_pos rfl, find_no A.out.2]
      rw [f2]
      exact ⟨rfl, by rw [A.out.1]; exact K.out.2⟩
set_option maxHeartbeats 4000000 in
theorem operand_b (h : Ev w) (k : Nat) (x : Int) (hx : ((k : Nat) : Int) = x) (hk : k ≠ 3) (s : ByteArray) (hs : s.size ≤ 281474976710656) : Calls Tryz.prog 28 #[.int .i64 x, .string s] w fun e w' => e = .returned (.tuple #[.int .i64 (opd k s.data.toList).1, .bool (opd k s.data.toList).2]) ∧ Ext w w' := by
  have H : Aside (Ev w ∧ s.size ≤ 281474976710656) := ⟨h, hs⟩
  have x3 : (x == 3) = false := by rw [beq_eq_false_iff_ne]; omega
  obtain ⟨v, b, ho⟩ : ∃ v b, opd k s.data.toList = (v, b) := ⟨_, _, rfl⟩
  rw [ho]
  have A : Aside (∀ w, Ev w → Calls Tryz.prog 37 #[.string s] w fun e w' => ∃ er, e = .returned (.tuple #[.int .i64 v, er]) ∧ (er = .nilIface ∧ b = true ∨ b = false ∧ ∃ t x, er = .iface t (.pointer x)) ∧ Ext w w') := fun w h => by
    refine (atoi_ok h s hs).mono fun e w' ⟨er, he, h1, h2, h3⟩ => ⟨er, ?_, ?_, h3⟩
    · unfold opd at ho
      rw [if_neg hk] at ho
      cases ha : atoiAll s.data.toList with
      | ok u => rw [ha] at ho he; cases ho; exact he
      | range => rw [ha] at ho he; cases ho; exact he
      | _ => rw [ha] at ho he; cases ho; exact he
    · unfold opd at ho
      rw [if_neg hk] at ho
      cases ha : atoiAll s.data.toList with
      | ok u => rw [ha] at ho; cases ho; exact .inl ⟨h1.2 ⟨_, ha⟩, rfl⟩
      | range =>
        rw [ha] at ho; cases ho
        rcases h2 with h2 | h2
        · obtain ⟨u, hu⟩ := h1.1 h2; rw [ha] at hu; cases hu
        · exact .inr ⟨rfl, h2⟩
      | _ =>
        rw [ha] at ho; cases ho
        rcases h2 with h2 | h2
        · obtain ⟨u, hu⟩ := h1.1 h2; rw [ha] at hu; cases hu
        · exact .inr ⟨rfl, h2⟩
  clear h hs hx hk ho
  go_enter Tryz.func28, Tryz.ntmps28
  go_wp2_with (go_at_call 37; refine (A.out _ H.out.1).mono ?_; rintro e w1 ⟨er, rfl, h1, h2⟩; have K : Aside (Ext w w1) := h2; clear h2)
  rcases h1 with ⟨rfl, rfl⟩ | ⟨rfl, t, y, rfl⟩
  · go_quiet (fail)
    go_wp2_with fail
    go_ret2
    exact ⟨rfl, K.out.drewN _⟩
  · go_quiet (fail)
    go_wp2_with fail
    go_ret2
    exact ⟨rfl, K.out.drewN _⟩
theorem operand_ok (h : Ev w) (k : Nat) (s : ByteArray) (hs : s.size ≤ 281474976710656) : Calls Tryz.prog 28 #[.int .i64 (k : Nat), .string s] w fun e w' => e = .returned (.tuple #[.int .i64 (opd k s.data.toList).1, .bool (opd k s.data.toList).2]) ∧ Ext w w' := by
  by_cases hk : k = 3
  · subst hk; exact operand_a h s
  · exact operand_b h k _ rfl hk s hs
end Go.Proofs.YtnegdimhejldfaaGreatDoor.cw
