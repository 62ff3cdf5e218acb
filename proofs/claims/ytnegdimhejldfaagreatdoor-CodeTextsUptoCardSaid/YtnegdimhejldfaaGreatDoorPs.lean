/- What code.Parse answers: walks. -/
import Derived.Test.YtnegdimhejldfaaGreatDoorOd
namespace Go.Proofs.YtnegdimhejldfaaGreatDoor.cw
open Go Go.RowKit Go.Lib Go.Proofs Go.Joins Go.Proofs.YtnegdimhejldfaaGreatDoor.dec
set_option linter.unusedVariables false
set_option maxRecDepth 100000
variable {w : World}
/-- the value of an answer -/
def ans (p : Ps) : Value := match p with
  | .op => .tuple #[.agg #[.int .i64 0, .int .i64 0, .int .i64 0], .int .i64 1600]
  | .args => .tuple #[.agg #[.int .i64 0, .int .i64 0, .int .i64 0], .int .i64 1602]
  | .ok op A B => .tuple #[.agg #[.int .i64 op, .int .i64 A, .int .i64 B], .int .i64 0]
def Z0 (w : World) (b : Nat) : Prop := w.heap[b]? = some (.cells #[.int .i64 0, .int .i64 0, .int .i64 0] 23 (0, 0))
theorem cut_len (l : List UInt8) : (cut l [32]).1.length ≤ l.length ∧ (cut l [32]).2.1.length ≤ l.length := by
  rcases cut_cases 32 l with h | ⟨a, b, rfl, h⟩
  · rw [cut_none 32 l h]; simp
  · rw [cut_at 32 a b h]; simp; omega
/-- the row's copy and the instruction under way -/
structure Mid (wx : World) (r b : Nat) (word : List UInt8) (i : Nat) (A B : Int) : Prop where
  row : wx.heap[r]? = some (.cells #[.string (bs word), .int .i64 (ka i : Nat), .int .i64 (kb i : Nat)] 44 (0, 0))
  ins : wx.heap[b]? = some (.cells #[.int .i64 i, .int .i64 A, .int .i64 B] 23 (0, 0))
  ne : r ≠ b
theorem Mid.ext {wx wy : World} {r b : Nat} {word : List UInt8} {i : Nat} {A B : Int} (h : Ext wx wy) (m : Mid wx r b word i A B) : Mid wy r b word i A B := ⟨h.at m.row, h.at m.ins, m.ne⟩
theorem set_at (w : World) (g i : Nat) (v : Value) {arr : Array Value} {ty : TypeId} {fz : Nat × Nat} (h : w.heap[g]? = some (.cells arr ty fz)) : (w.setCell ⟨g, i, none⟩ v).heap[g]? = some (.cells (arr.setIfInBounds i v) ty fz) := by
  simp [World.setCell, Array.getElem?_modify, h]
theorem set_other (w : World) (g i k : Nat) (v : Value) (hk : k ≠ g) : (w.setCell ⟨g, i, none⟩ v).heap[k]? = w.heap[k]? := by
  simp [World.setCell, Array.getElem?_modify]
  intro e; exact absurd e.symm hk
theorem Mid.setA {wx : World} {r b : Nat} {word : List UInt8} {i : Nat} {A B : Int} (m : Mid wx r b word i A B) (x : Int) : Mid (wx.setCell ⟨b, 1, none⟩ (.int .i64 x)) r b word i x B := ⟨(set_other _ _ _ _ _ m.ne).trans m.row, set_at wx b 1 _ m.ins, m.ne⟩
theorem Mid.setB {wx : World} {r b : Nat} {word : List UInt8} {i : Nat} {A B : Int} (m : Mid wx r b word i A B) (x : Int) : Mid (wx.setCell ⟨b, 2, none⟩ (.int .i64 x)) r b word i A x := ⟨(set_other _ _ _ _ _ m.ne).trans m.row, set_at wx b 2 _ m.ins, m.ne⟩
theorem Mid.cells {wx : World} {r b : Nat} {word : List UInt8} {i : Nat} {A B : Int} (m : Mid wx r b word i A B) : wx.cell? ⟨r, 1, none⟩ = some (.int .i64 (ka i : Nat)) ∧ wx.cell? ⟨r, 2, none⟩ = some (.int .i64 (kb i : Nat)) ∧ wx.cell? ⟨b, 0, none⟩ = some (.int .i64 i) ∧ wx.cell? ⟨b, 1, none⟩ = some (.int .i64 A) ∧ wx.cell? ⟨b, 2, none⟩ = some (.int .i64 B) ∧ wx.frozen? ⟨b, 1, none⟩ = false ∧ wx.frozen? ⟨b, 2, none⟩ = false := by
  refine ⟨?_, ?_, ?_, ?_, ?_, ?_, ?_⟩ <;> first | (simp only [World.cell?, m.row]; rfl) | (simp only [World.cell?, m.ins]; rfl) | (simp only [World.frozen?, m.ins]; rfl)
theorem Z0.set {w : World} {z b i : Nat} {v : Value} (h : Z0 w z) (hz : z ≠ b) : Z0 (w.setCell ⟨b, i, none⟩ v) z := (set_other _ _ _ _ _ hz).trans h
theorem Z0.cells {w : World} {b : Nat} (h : Z0 w b) : w.cell? ⟨b, 0, none⟩ = some (.int .i64 0) ∧ w.cell? ⟨b, 1, none⟩ = some (.int .i64 0) ∧ w.cell? ⟨b, 2, none⟩ = some (.int .i64 0) ∧ w.frozen? ⟨b, 0, none⟩ = false ∧ w.frozen? ⟨b, 1, none⟩ = false ∧ w.frozen? ⟨b, 2, none⟩ = false := by
  unfold Z0 at h
  refine ⟨?_, ?_, ?_, ?_, ?_, ?_⟩ <;> first | (simp only [World.cell?, h]; rfl) | (simp only [World.frozen?, h]; rfl)
theorem opd_rng (k : Nat) (x : List UInt8) : -9223372036854775808 ≤ (opd k x).1 ∧ (opd k x).1 ≤ 9223372036854775807 := by
  unfold opd
  split
  · cases e : opers.idxOf? x with
    | none => show _ ≤ (0 : Int) ∧ (0 : Int) ≤ _; omega
    | some i => have := (operFind_some e).1; show _ ≤ (i : Int) ∧ (i : Int) ≤ _; omega
  · cases e : atoiAll x with
    | ok v => exact atoi_in e
    | range => show _ ≤ atoiSat x ∧ atoiSat x ≤ _; unfold atoiSat; split <;> omega
    | _ => show _ ≤ (0 : Int) ∧ (0 : Int) ≤ _; omega
theorem out_rng (op : Nat) (more : Bool) (rest : List UInt8) : (-9223372036854775808 ≤ (outOf op more rest).1 ∧ (outOf op more rest).1 ≤ 9223372036854775807) ∧ -9223372036854775808 ≤ (outOf op more rest).2.1 ∧ (outOf op more rest).2.1 ≤ 9223372036854775807 := by
  unfold outOf
  split
  · split
    · exact ⟨opd_rng _ _, opd_rng _ _⟩
    · exact ⟨opd_rng _ _, by show _ ≤ (0 : Int); omega, by show (0 : Int) ≤ _; omega⟩
  · exact ⟨⟨by show _ ≤ (0 : Int); omega, by show (0 : Int) ≤ _; omega⟩, by show _ ≤ (0 : Int); omega, by show (0 : Int) ≤ _; omega⟩
set_option maxHeartbeats 8000000 in
theorem parse_ok (T : TabOk) (h : Ev w) (s : ByteArray) (hs : s.size < 4294967281) : Calls Tryz.prog 8 #[.string s] w fun e w' => e = .returned (ans (parse s.data.toList)) ∧ Ext w w' := by
  have H : Aside (Ev w ∧ s.size < 4294967281) := ⟨h, hs⟩
  obtain ⟨word, rest, more, hcut⟩ : ∃ word rest more, cut s.data.toList [32] = (word, rest, more) := ⟨_, _, _, rfl⟩
  have C26 : Aside (∀ w, Ev w → Calls Tryz.prog 26 #[.string s, .string ⟨#[32]⟩] w fun e w' => e = .returned (.tuple #[.string (bs word), .string (bs rest), .bool more]) ∧ Ext w w') := fun w h => by
    have := cut_ok h s H.out.2
    rw [hcut] at this
    exact this
  have F : Aside (cut s.data.toList [32] = (word, rest, more)) := hcut
  clear h hs hcut
  go_enter Tryz.func8, Tryz.ntmps8
  go_wp2_with (first
    | (go_at_call 26; refine (C26.out _ (H.out.1.ext ((Ext.refl w).alloc _))).mono ?_; rintro e w1 ⟨rfl, h1⟩; have K1 : Aside (Ext w w1 ∧ Z0 w1 w.heap.size) := ⟨((Ext.refl w).alloc _).trans h1, h1.at (heap_alloc_new w _)⟩; clear h1)
    | (go_at_call 27; refine (T _ (H.out.1.ext K1.out.1)).mono ?_; rintro e w2 ⟨g, c, rfl, h1, h2, h3, h4⟩; have K2 : Aside (47 ≤ c ∧ w1.heap.size ≤ g ∧ Tab w2 g ∧ Ext w w2 ∧ Z0 w2 w.heap.size) := ⟨h1, h2, h3, K1.out.1.trans h4, h4.at K1.out.2⟩; clear h1 h2 h3 h4))
  go_loopg [24] 48 (fun k v24 w' => ∃ i : Nat, v24 = .int .i64 i ∧ Aside (i + k = 48 ∧ 1 ≤ k ∧ Ext w2 w' ∧ ∀ j, j < i → nm j ≠ word))
  case atStart => exact ⟨0, rfl, by omega, by omega, Ext.refl _, fun j hj => absurd hj (Nat.not_lt_zero j)⟩
  case round =>
    obtain ⟨i, rfl, hk⟩ := hrel
    obtain ⟨hk1, hk0, hk2, hk3⟩ := hk.out
    by_cases hi : i < 47
    · have d1 : decide ((i : Int) < 47) = true := decide_eq_true (by omega)
      have q1 : (0 : Int) ≤ i := by omega
      have q2 : (i : Int) < 47 := by omega
      obtain ⟨c1, c2, c3⟩ := (K2.out.2.2.1.ext hk2).cells hi
      have A : Aside (i < 47 ∧ i + gk = 48 ∧ Ext w2 wr ∧ ∀ j, j < i → nm j ≠ word) := ⟨hi, hk1, hk2, hk3⟩
      clear hk hk0 hk1 hk2 hk3 hi
      by_cases he : nm i = word
      · have A2 : Aside (nm i = word) := he
        rw [he] at c1
        clear he
        go_upto_if 35 with (fail)
        obtain ⟨OA, OB, is, ho⟩ : ∃ OA OB is, outOf i more rest = (OA, OB, is) := ⟨_, _, _, rfl⟩
        have M0 : Aside (Mid ((wr.alloc (.cells #[.string (bs word), .int .i64 (ka i : Nat), .int .i64 (kb i : Nat)] 44)).alloc (.cells #[.int .i64 i, .int .i64 0, .int .i64 0] 23)) wr.heap.size (wr.heap.size + 1) word i 0 0) :=
          ⟨((Ext.refl _).alloc _).at (heap_alloc_new wr _), by have := heap_alloc_new (wr.alloc (.cells #[.string (bs word), .int .i64 (ka i : Nat), .int .i64 (kb i : Nat)] 44)) (.cells #[.int .i64 i, .int .i64 0, .int .i64 0] 23); rw [World.size_alloc] at this; exact this, by omega⟩
        have E0 : Aside (Ext w2 ((wr.alloc (.cells #[.string (bs word), .int .i64 (ka i : Nat), .int .i64 (kb i : Nat)] 44)).alloc (.cells #[.int .i64 i, .int .i64 0, .int .i64 0] 23))) := (A.out.2.2.1.alloc _).alloc _
        have O : Aside (outOf i more rest = (OA, OB, is) ∧ w.heap.size < w2.heap.size ∧ w2.heap.size ≤ wr.heap.size) := ⟨ho, lt_of_some K2.out.2.2.2.2, A.out.2.2.1.size⟩
        clear ho c1 c2 c3
        go_cut [10] (fun s10 wx => s10 = .bool is ∧ Aside (Ext w2 wx ∧ Mid wx wr.heap.size (wr.heap.size + 1) word i OA OB))
        case first =>
          cases more with
          | false =>
            have o := O.out.1
            simp only [outOf, Bool.false_eq_true, if_false, Prod.mk.injEq] at o
            obtain ⟨rfl, rfl, rfl⟩ := o
            go_wp2_with fail
            go_meet
            exact ⟨rfl, E0.out, M0.out⟩
          | true =>
            obtain ⟨a, b, two, hc⟩ : ∃ a b two, cut rest [32] = (a, b, two) := ⟨_, _, _, rfl⟩
            obtain ⟨A1, is1, hA⟩ : ∃ A1 is1, opd (ka i) a = (A1, is1) := ⟨_, _, rfl⟩
            obtain ⟨B1, is2, hB⟩ : ∃ B1 is2, opd (kb i) b = (B1, is2) := ⟨_, _, rfl⟩
            have L : Aside (rest.length < 4294967281 ∧ a.length < 4294967281 ∧ b.length < 4294967281) := by
              have h1 := cut_len s.data.toList
              rw [F.out] at h1
              have h2 := cut_len rest
              rw [hc] at h2
              have h3 : s.size = s.data.toList.length := rfl
              have := H.out.2
              dsimp only at h1 h2
              exact ⟨by omega, by omega, by omega⟩
            have C27 : Aside (∀ w, Ev w → Calls Tryz.prog 26 #[.string (bs rest), .string ⟨#[32]⟩] w fun e w' => e = .returned (.tuple #[.string (bs a), .string (bs b), .bool two]) ∧ Ext w w') := fun w h => by
              have := cut_ok h (bs rest) (by rw [bs_size]; exact L.out.1)
              rw [show (bs rest).data.toList = rest from by simp, hc] at this
              exact this
            have CA : Aside (∀ w, Ev w → Calls Tryz.prog 28 #[.int .i64 (ka i : Nat), .string (bs a)] w fun e w' => e = .returned (.tuple #[.int .i64 A1, .bool is1]) ∧ Ext w w') := fun w h => by
              have := operand_ok h (ka i) (bs a) (by rw [bs_size]; have := L.out; omega)
              rw [show (bs a).data.toList = a from by simp, hA] at this
              exact this
            have CB : Aside (∀ w, Ev w → Calls Tryz.prog 28 #[.int .i64 (kb i : Nat), .string (bs b)] w fun e w' => e = .returned (.tuple #[.int .i64 B1, .bool is2]) ∧ Ext w w') := fun w h => by
              have := operand_ok h (kb i) (bs b) (by rw [bs_size]; have := L.out; omega)
              rw [show (bs b).data.toList = b from by simp, hB] at this
              exact this
            have o := O.out.1
            simp only [outOf, if_true, hc, hA, hB] at o
            have R : Aside ((if two && is1 then (A1, B1, is2) else (A1, 0, is1)) = (OA, OB, is)) := o
            clear hc hA hB o
            cases two with
            | false =>
              have r := R.out
              simp only [Bool.false_and, Bool.false_eq_true, if_false, Prod.mk.injEq] at r
              obtain ⟨rfl, rfl, rfl⟩ := r
              go_wp2_with (first
                | (go_at_call 26; refine (C27.out _ (H.out.1.ext (K2.out.2.2.2.1.trans E0.out))).mono ?_; rintro e w3 ⟨rfl, h1⟩; have E3 : Aside (Ext w2 w3) := E0.out.trans h1; have M3 : Aside (Mid w3 wr.heap.size (wr.heap.size + 1) word i 0 0) := M0.out.ext h1; obtain ⟨f1, f2, f3, f4, f5, f6, f7⟩ := M3.out.cells; clear h1)
                | (go_at_call 28; (with_reducible refine (CA.out _ (H.out.1.ext (K2.out.2.2.2.1.trans E3.out))).mono ?_); rintro e w4 ⟨rfl, h1⟩; have E4 : Aside (Ext w2 w4) := E3.out.trans h1; have M4 : Aside (Mid w4 wr.heap.size (wr.heap.size + 1) word i 0 0) := M3.out.ext h1; obtain ⟨g1, g2, g3, g4, g5, g6, g7⟩ := M4.out.cells; have E5 : Aside (Ext w2 (w4.setCell ⟨wr.heap.size + 1, 1, none⟩ (.int .i64 A1))) := E4.out.set _ _ (by have := O.out; show _ ≤ wr.heap.size + 1; omega); have M5 : Aside (Mid (w4.setCell ⟨wr.heap.size + 1, 1, none⟩ (.int .i64 A1)) wr.heap.size (wr.heap.size + 1) word i A1 0) := M4.out.setA A1; obtain ⟨i1, i2, i3, i4, i5, i6, i7⟩ := M5.out.cells; clear h1))
              go_meet
              exact ⟨rfl, E5.out, M5.out⟩
            | true =>
              cases is1 with
              | false =>
                have r := R.out
                simp only [Bool.and_false, Bool.false_eq_true, if_false, Prod.mk.injEq] at r
                obtain ⟨rfl, rfl, rfl⟩ := r
                go_wp2_with (first
                  | (go_at_call 26; refine (C27.out _ (H.out.1.ext (K2.out.2.2.2.1.trans E0.out))).mono ?_; rintro e w3 ⟨rfl, h1⟩; have E3 : Aside (Ext w2 w3) := E0.out.trans h1; have M3 : Aside (Mid w3 wr.heap.size (wr.heap.size + 1) word i 0 0) := M0.out.ext h1; obtain ⟨f1, f2, f3, f4, f5, f6, f7⟩ := M3.out.cells; clear h1)
                  | (go_at_call 28; (with_reducible refine (CA.out _ (H.out.1.ext (K2.out.2.2.2.1.trans E3.out))).mono ?_); rintro e w4 ⟨rfl, h1⟩; have E4 : Aside (Ext w2 w4) := E3.out.trans h1; have M4 : Aside (Mid w4 wr.heap.size (wr.heap.size + 1) word i 0 0) := M3.out.ext h1; obtain ⟨g1, g2, g3, g4, g5, g6, g7⟩ := M4.out.cells; have E5 : Aside (Ext w2 (w4.setCell ⟨wr.heap.size + 1, 1, none⟩ (.int .i64 A1))) := E4.out.set _ _ (by have := O.out; show _ ≤ wr.heap.size + 1; omega); have M5 : Aside (Mid (w4.setCell ⟨wr.heap.size + 1, 1, none⟩ (.int .i64 A1)) wr.heap.size (wr.heap.size + 1) word i A1 0) := M4.out.setA A1; obtain ⟨i1, i2, i3, i4, i5, i6, i7⟩ := M5.out.cells; clear h1))
                go_meet
                exact ⟨rfl, E5.out, M5.out⟩
              | true =>
                have r := R.out
                simp only [Bool.and_true, if_true, Prod.mk.injEq] at r
                obtain ⟨rfl, rfl, rfl⟩ := r
                go_wp2_with (first
                  | (go_at_call 26; refine (C27.out _ (H.out.1.ext (K2.out.2.2.2.1.trans E0.out))).mono ?_; rintro e w3 ⟨rfl, h1⟩; have E3 : Aside (Ext w2 w3) := E0.out.trans h1; have M3 : Aside (Mid w3 wr.heap.size (wr.heap.size + 1) word i 0 0) := M0.out.ext h1; obtain ⟨f1, f2, f3, f4, f5, f6, f7⟩ := M3.out.cells; clear h1)
                  | (go_at_call 28; (with_reducible refine (CA.out _ (H.out.1.ext (K2.out.2.2.2.1.trans E3.out))).mono ?_); rintro e w4 ⟨rfl, h1⟩; have E4 : Aside (Ext w2 w4) := E3.out.trans h1; have M4 : Aside (Mid w4 wr.heap.size (wr.heap.size + 1) word i 0 0) := M3.out.ext h1; obtain ⟨g1, g2, g3, g4, g5, g6, g7⟩ := M4.out.cells; have E5 : Aside (Ext w2 (w4.setCell ⟨wr.heap.size + 1, 1, none⟩ (.int .i64 A1))) := E4.out.set _ _ (by have := O.out; show _ ≤ wr.heap.size + 1; omega); have M5 : Aside (Mid (w4.setCell ⟨wr.heap.size + 1, 1, none⟩ (.int .i64 A1)) wr.heap.size (wr.heap.size + 1) word i A1 0) := M4.out.setA A1; obtain ⟨i1, i2, i3, i4, i5, i6, i7⟩ := M5.out.cells; clear h1)
                  | (go_at_call 28; (with_reducible refine (CB.out _ (H.out.1.ext (K2.out.2.2.2.1.trans E5.out))).mono ?_); rintro e w6 ⟨rfl, h1⟩; have E6 : Aside (Ext w2 w6) := E5.out.trans h1; have M6 : Aside (Mid w6 wr.heap.size (wr.heap.size + 1) word i A1 0) := M5.out.ext h1; obtain ⟨j1, j2, j3, j4, j5, j6, j7⟩ := M6.out.cells; have E7 : Aside (Ext w2 (w6.setCell ⟨wr.heap.size + 1, 2, none⟩ (.int .i64 B1))) := E6.out.set _ _ (by have := O.out; show _ ≤ wr.heap.size + 1; omega); have M7 : Aside (Mid (w6.setCell ⟨wr.heap.size + 1, 2, none⟩ (.int .i64 B1)) wr.heap.size (wr.heap.size + 1) word i A1 B1) := M6.out.setB B1; clear h1))
                go_meet
                exact ⟨rfl, E7.out, M7.out⟩
        case rest =>
          obtain ⟨rfl, hcut⟩ := hcut
          have PA : Aside (parse s.data.toList = if is = true ∧ txt i OA OB = some s.data.toList then .ok i OA OB else .args) := by
            have h1 : words.idxOf? (cut s.data.toList [32]).1 = some i := by rw [F.out]; exact find_at A.out.1 A2.out A.out.2.2.2
            unfold parse Aside
            rw [h1]
            show parseAt s.data.toList i = _
            unfold parseAt
            rw [F.out]
            dsimp only
            rw [O.out.1]
          have RG := out_rng i more rest
          rw [O.out.1] at RG
          dsimp only at RG
          obtain ⟨tS, tE, hT⟩ : ∃ tS tE, (∃ t, txt i OA OB = some t ∧ tS = bs t ∧ tE = 0) ∨ (txt i OA OB = none ∧ tS = ⟨#[]⟩ ∧ tE = 1602) := by
            cases hx : txt i OA OB with
            | none => exact ⟨_, _, .inr ⟨rfl, rfl, rfl⟩⟩
            | some t => exact ⟨_, _, .inl ⟨t, rfl, rfl, rfl⟩⟩
          have CT : Aside (∀ w, Ev w → Calls Tryz.prog 6 #[.agg #[.int .i64 i, .int .i64 OA, .int .i64 OB]] w fun e w' => e = .returned (.tuple #[.string tS, .int .i64 tE]) ∧ Ext w w') := fun w h => by
            have := text_ok T h i A.out.1 OA OB RG.1 RG.2
            rcases hT with ⟨t, h1, rfl, rfl⟩ | ⟨h1, rfl, rfl⟩
            · rw [h1] at this; exact this
            · rw [h1] at this; exact this
          clear RG
          obtain ⟨g1, g2, g3, g4, g5, _, _⟩ := hcut.out.2.cells
          cases is with
          | false =>
            clear hT
            go_wp2_with (go_at_call 6; refine (CT.out _ (H.out.1.ext (K2.out.2.2.2.1.trans hcut.out.1))).mono ?_; rintro e w8 ⟨rfl, h1⟩; have E8 : Aside (Ext w w8) := (K2.out.2.2.2.1.trans hcut.out.1).trans h1; have M8 : Aside (Mid w8 wr.heap.size (wr.heap.size + 1) word i OA OB) := hcut.out.2.ext h1; have Z8 : Aside (Z0 w8 w.heap.size) := (hcut.out.1.trans h1).at K2.out.2.2.2.2; obtain ⟨z0, z1, z2, y0, y1, y2⟩ := Z8.out.cells; obtain ⟨g1, g2, g3, g4, g5, g6, g7⟩ := M8.out.cells; clear h1)
            refine bodyPost_ret (v := .tuple #[.agg #[.int .i64 0, .int .i64 0, .int .i64 0], .int .i64 1602]) ?_ rfl ⟨?_, ((E8.out.set _ _ (Nat.le_refl _)).set _ _ (Nat.le_refl _)).set _ _ (Nat.le_refl _)⟩
            · simp [results, Tryz.results8, go_sem, z0, z1, z2]
            · rw [show parse s.data.toList = .args from by rw [PA.out, if_neg (fun h => absurd h.1 (by decide))]]; rfl
          | true =>
            rcases hT with ⟨t, h1, h2, rfl⟩ | ⟨h1, h2, rfl⟩
            · by_cases hs : tS = s
              · have TT : Aside (txt i OA OB = some s.data.toList) := h1.trans (by rw [← bs_eq.1 (h2.symm.trans hs)])
                subst hs
                clear h1 h2
                go_wp2_with (go_at_call 6; refine (CT.out _ (H.out.1.ext (K2.out.2.2.2.1.trans hcut.out.1))).mono ?_; rintro e w8 ⟨rfl, h1⟩; have E8 : Aside (Ext w w8) := (K2.out.2.2.2.1.trans hcut.out.1).trans h1; have M8 : Aside (Mid w8 wr.heap.size (wr.heap.size + 1) word i OA OB) := hcut.out.2.ext h1; have Z8 : Aside (Z0 w8 w.heap.size) := (hcut.out.1.trans h1).at K2.out.2.2.2.2; obtain ⟨z0, z1, z2, y0, y1, y2⟩ := Z8.out.cells; obtain ⟨g1, g2, g3, g4, g5, g6, g7⟩ := M8.out.cells; clear h1)
                refine bodyPost_ret (v := .tuple #[.agg #[.int .i64 i, .int .i64 OA, .int .i64 OB], .int .i64 0]) ?_ rfl ⟨?_, ((E8.out.set _ _ (Nat.le_refl _)).set _ _ (Nat.le_refl _)).set _ _ (Nat.le_refl _)⟩
                · simp [results, Tryz.results8, go_sem, z0, z1, z2]
                · rw [show parse tS.data.toList = .ok i OA OB from by rw [PA.out, if_pos ⟨trivial, TT.out⟩]]; rfl
              · have f1 : (tS.toList == s.toList) = false := neq_toList hs
                have TT : Aside (txt i OA OB ≠ some s.data.toList) := by
                  rw [Aside, h1]
                  exact fun e => hs (h2.trans (bs_eq.2 (Option.some.inj e)))
                clear h1 h2 hs
                go_wp2_with (go_at_call 6; refine (CT.out _ (H.out.1.ext (K2.out.2.2.2.1.trans hcut.out.1))).mono ?_; rintro e w8 ⟨rfl, h1⟩; have E8 : Aside (Ext w w8) := (K2.out.2.2.2.1.trans hcut.out.1).trans h1; have M8 : Aside (Mid w8 wr.heap.size (wr.heap.size + 1) word i OA OB) := hcut.out.2.ext h1; have Z8 : Aside (Z0 w8 w.heap.size) := (hcut.out.1.trans h1).at K2.out.2.2.2.2; obtain ⟨z0, z1, z2, y0, y1, y2⟩ := Z8.out.cells; obtain ⟨g1, g2, g3, g4, g5, g6, g7⟩ := M8.out.cells; clear h1)
                refine bodyPost_ret (v := .tuple #[.agg #[.int .i64 0, .int .i64 0, .int .i64 0], .int .i64 1602]) ?_ rfl ⟨?_, ((E8.out.set _ _ (Nat.le_refl _)).set _ _ (Nat.le_refl _)).set _ _ (Nat.le_refl _)⟩
                · simp [results, Tryz.results8, go_sem, z0, z1, z2]
                · rw [show parse s.data.toList = .args from by rw [PA.out, if_neg (fun h => TT.out h.2)]]; rfl
            · have TT : Aside (txt i OA OB ≠ some s.data.toList) := by rw [Aside, h1]; exact fun e => by cases e
              clear h1 h2
              go_wp2_with (go_at_call 6; refine (CT.out _ (H.out.1.ext (K2.out.2.2.2.1.trans hcut.out.1))).mono ?_; rintro e w8 ⟨rfl, h1⟩; have E8 : Aside (Ext w w8) := (K2.out.2.2.2.1.trans hcut.out.1).trans h1; have M8 : Aside (Mid w8 wr.heap.size (wr.heap.size + 1) word i OA OB) := hcut.out.2.ext h1; have Z8 : Aside (Z0 w8 w.heap.size) := (hcut.out.1.trans h1).at K2.out.2.2.2.2; obtain ⟨z0, z1, z2, y0, y1, y2⟩ := Z8.out.cells; obtain ⟨g1, g2, g3, g4, g5, g6, g7⟩ := M8.out.cells; clear h1)
              refine bodyPost_ret (v := .tuple #[.agg #[.int .i64 0, .int .i64 0, .int .i64 0], .int .i64 1602]) ?_ rfl ⟨?_, ((E8.out.set _ _ (Nat.le_refl _)).set _ _ (Nat.le_refl _)).set _ _ (Nat.le_refl _)⟩
              · simp [results, Tryz.results8, go_sem, z0, z1, z2]
              · rw [show parse s.data.toList = .args from by rw [PA.out, if_neg (fun h => TT.out h.2)]]; rfl
      · have A2 : Aside (nm i ≠ word) := he
        have f1 : (nm i == word) = false := beq_eq_false_iff_ne.2 he
        have f2 : (!(nm i == word)) = true := by rw [f1]; rfl
        clear he
        go_wp2_with fail
        go_roundg (gk - 1)
        · have a := A.out
          exact ⟨i + 1, rfl, by omega, by omega, a.2.2.1.alloc _, fun j hj => if e : j = i then e ▸ A2.out else a.2.2.2 j (by omega)⟩
        · have a := A.out
          omega
    · obtain ⟨rfl, rfl⟩ : i = 47 ∧ gk = 1 := by omega
      have d1 : decide (((47 : Nat) : Int) < 47) = false := rfl
      have Z : Aside (Ext w wr ∧ Z0 wr w.heap.size ∧ ∀ j, j < 47 → nm j ≠ word) := ⟨K2.out.2.2.2.1.trans hk2, hk2.at K2.out.2.2.2.2, hk3⟩
      obtain ⟨z0, z1, z2, y0, y1, y2⟩ := Z.out.2.1.cells
      clear hk hk0 hk1 hk2 hk3 hi
      have PA : Aside (parse s.data.toList = .op) := by
        have h1 : words.idxOf? (cut s.data.toList [32]).1 = none := by rw [F.out]; exact find_no Z.out.2.2
        unfold parse Aside
        rw [h1]
      go_wp2_with fail
      refine bodyPost_ret (v := .tuple #[.agg #[.int .i64 0, .int .i64 0, .int .i64 0], .int .i64 1600]) ?_ rfl ⟨?_, ((Z.out.1.set _ _ (Nat.le_refl _)).set _ _ (Nat.le_refl _)).set _ _ (Nat.le_refl _)⟩
      · simp [results, Tryz.results8, go_sem, z0, z1, z2]
      · rw [PA.out]; rfl
end Go.Proofs.YtnegdimhejldfaaGreatDoor.cw
