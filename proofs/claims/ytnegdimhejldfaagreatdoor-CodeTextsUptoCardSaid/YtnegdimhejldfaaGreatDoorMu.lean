/- Lists of texts: by the machine. -/
import Derived.Test.YtnegdimhejldfaaGreatDoorMt
import Derived.Test.YtnegdimhejldfaaGreatDoorSm
namespace Go.Proofs.YtnegdimhejldfaaGreatDoor.mt
open Go Go.Proofs Go.Ai Go.Proofs.YtnegdimhejldfaaGreatDoor.comp Go.Proofs.YtnegdimhejldfaaGreatDoor.dec Go.Proofs.YtnegdimhejldfaaGreatDoor.cw
set_option linter.unusedVariables false
set_option maxRecDepth 100000
noncomputable def runL (f : Nat) : KR := runC Tryz.prog cf T id 1000000 200 f []
def strs (xs : List (List UInt8)) : List AV := xs.map fun l => AV.str (l.map fun b => SI.lit b.toNat)
noncomputable def isTexts (xs : List (List UInt8)) (r : KR) : Bool := match r with
  | .ret (.sl l off n cap) H => Nat.beq off 0 && (Nat.beq n xs.length && (match PT.get l H.tab with | some (.cells cs ty opn) => AV.same (.agg (cs.take n)) (.agg (strs xs)) | _ => false))
  | _ => false
theorem names14 : isTexts words (runL 14) = true := by kernel_rfl
theorem ariths23 : isTexts opers (runL 23) = true := by kernel_rfl
theorem names10 : isTexts words (runL 10) = true := by kernel_rfl
noncomputable def runN (j : Nat) : KR := runC Tryz.prog cf T id 1000000 200 24 [.int .i64 (.lit (.ofNat j))]
noncomputable def allN : Nat → Bool
  | 0 => true
  | n + 1 => isRet (.int .i64 (.lit (.ofNat (ar n)))) (runN n) && allN n
theorem operands24 : allN 47 = true := by kernel_rfl
theorem of_allN (n : Nat) : allN n = true → ∀ j, j < n → isRet (.int .i64 (.lit (.ofNat (ar j)))) (runN j) = true := by
  induction n with
  | zero => intro _ j hj; exact absurd hj (Nat.not_lt_zero j)
  | succ n ih =>
    intro h j hj
    have h' : (isRet (.int .i64 (.lit (.ofNat (ar n)))) (runN n) && allN n) = true := h
    rw [Bool.and_eq_true] at h'
    by_cases e : j = n
    · rw [e]; exact h'.1
    · exact ih h'.2 j (by omega)
theorem cf_ok (σ : Nat → Int) : cf.ok σ := ⟨fun _ _ hm => (by cases hm), fun _ _ _ _ hm => (by cases hm), fun _ _ _ hm => (by cases hm), fun _ _ _ _ hm => (by cases hm)⟩
theorem operands_ok (w : World) (j : Nat) (hj : j < 47) : Calls Tryz.prog 24 #[.int .i64 (j : Nat)] w fun e w' => e = .returned (.int .i64 (ar j : Nat)) ∧ Ext w w' := by
  haveI : GlOk cf.gl w := ⟨fun g cs e => by cases e⟩
  refine Calls.mono (soundV comp.mixed TOk (over := id) (cf := cf) (fuel := 1000000) (d := 200) (f := 24) (avs := [.int .i64 (.lit (.ofNat j))]) (xs := [.int .i64 (j : Nat)]) (σ := fun _ => 0) (fun _ h => h) (cf_ok _) (.cons (.int .i64 (.lit (.ofNat j))) .nil) (of_allN 47 operands24 j hj)) ?_
  rintro e w' ⟨E, x, rfl, _, hv, hb⟩
  cases hv
  exact ⟨rfl, hb⟩
theorem of_isTexts {xs : List (List UInt8)} {r : KR} (h : isTexts xs r = true) : ∃ l cap cs ty opn H, r = .ret (.sl l 0 xs.length cap) H ∧ PT.get l H.tab = some (.cells cs ty opn) ∧ cs.take xs.length = strs xs := by
  unfold isTexts at h
  split at h
  · rename_i l off n cap H
    rw [Bool.and_eq_true, Bool.and_eq_true] at h
    obtain ⟨h0, hn, h⟩ := h
    have h0 := Nat.eq_of_beq_eq_true h0
    have hn := Nat.eq_of_beq_eq_true hn
    subst h0 hn
    split at h
    · rename_i cs ty opn ho
      have e : cs.take xs.length = strs xs := by have := same_eq h; injection this
      exact ⟨l, cap, cs, ty, opn, H, rfl, ho, e⟩
    · cases h
  · cases h
theorem texts_run (w : World) (f : Nat) (xs : List (List UInt8)) (h : isTexts xs (runL f) = true) (hx : 0 < xs.length) (hs : ∀ j, j < xs.length → (xs.getD j []).length ≤ 11) :
    Calls Tryz.prog f #[] w fun e w' => ∃ g c, e = .returned (.slice (some ⟨g, 0, none⟩) xs.length c) ∧ xs.length ≤ c ∧ w.heap.size ≤ g ∧ Texts w' g xs ∧ Row w' g xs.length 0 ∧ Ext w w' := by
  haveI : GlOk cf.gl w := ⟨fun g cs e => by cases e⟩
  obtain ⟨l, cap, cs, ty, opn, H, hr, ho, hcs⟩ := of_isTexts h
  refine Calls.mono (soundK comp.mixed TOk (cf_ok _) hr) ?_
  rintro e1 w' ⟨E', x, rfl, mv, hv⟩
  cases hv with
  | @sl l off len cap a b c n hl ha hn hcap =>
    obtain ⟨b', c', ob, e2, hb, hob, hor⟩ := mv.hr.obj l _ ho
    rw [hl] at e2
    cases e2
    cases hor with
    | @cells cs ty opn arr fz pre rest hv harr hop hc' hf =>
      have hat : ∀ {i : Nat} {v : Value}, pre[i]? = some v → arr[i]? = some v := fun {i v} h => by
        rw [← Array.getElem?_toList, harr, List.getElem?_append_left (List.getElem?_eq_some_iff.1 h).1]; exact h
      have hc : ∀ j, j < xs.length → arr[j]? = some (.string (bs (xs.getD j []))) := fun j hj => by
        have h1 : cs[j]? = some (AV.str ((xs.getD j []).map fun b => SI.lit b.toNat)) := by
          rw [← List.getElem?_take_of_lt hj, hcs]
          simp [strs, hj]
        obtain ⟨v, p, r⟩ := vrs_at hv h1
        rw [hat p, str_is r]
      refine ⟨b, n, by rw [ha (by omega)], hn, hb, ⟨arr, ty, fz, hob, hc⟩, ⟨arr, ty, fz, hob, fun j hj => fz_ok hf j (Array.getElem?_eq_some_iff.1 (hc j hj)).1, fun j _ hj => ⟨_, hc j hj, by rw [bs_size]; exact hs j hj⟩⟩, mv.hr.below.toBelow⟩
theorem words_small : ∀ j, j < words.length → (words.getD j []).length ≤ 11 := by decide
theorem opers_small : ∀ j, j < opers.length → (opers.getD j []).length ≤ 11 := by decide
end Go.Proofs.YtnegdimhejldfaaGreatDoor.mt
