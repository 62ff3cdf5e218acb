/- What code's table answers: by the machine. -/
import Derived.Test.YtnegdimhejldfaaGreatDoorCompK
import Derived.Test.YtnegdimhejldfaaGreatDoorEv
namespace Go.Proofs.YtnegdimhejldfaaGreatDoor.mt
open Go Go.Proofs Go.Ai Go.Proofs.YtnegdimhejldfaaGreatDoor.comp Go.Proofs.YtnegdimhejldfaaGreatDoor.dec Go.Proofs.YtnegdimhejldfaaGreatDoor.cw
set_option linter.unusedVariables false
noncomputable def gl0 : Nat → Option (List AV) := fun _ => none
noncomputable def cf : Cf := ⟨[], [], [], fun _ _ _ => none, gl0⟩
noncomputable def run : KR := runC Tryz.prog cf T id 1000000 200 27 []
/-- the cells that are looked for -/
def rows : Nat → Nat → List AV
  | _, 0 => []
  | s, n + 1 => AV.str ((nm s).map fun b => SI.lit b.toNat) :: AV.int .i64 (.lit (ka s : Nat)) :: AV.int .i64 (.lit (kb s : Nat)) :: rows (s + 1) n
def want : List AV := rows 0 47
theorem rows_at : ∀ n s j, j < n → (rows s n)[j * 3]? = some (AV.str ((nm (s + j)).map fun b => SI.lit b.toNat)) ∧ (rows s n)[j * 3 + 1]? = some (AV.int .i64 (.lit (ka (s + j) : Nat))) ∧ (rows s n)[j * 3 + 2]? = some (AV.int .i64 (.lit (kb (s + j) : Nat)))
  | 0, _, _, h => absurd h (Nat.not_lt_zero _)
  | n + 1, s, 0, _ => ⟨rfl, rfl, rfl⟩
  | n + 1, s, j + 1, h => by
    have ih := rows_at n (s + 1) j (by omega)
    rw [show s + (j + 1) = s + 1 + j from by omega, show (j + 1) * 3 = j * 3 + 3 from by omega]
    exact ih
noncomputable def isTab (r : KR) : Bool := match r with
  | .ret (.sl l off n cap) H => Nat.beq off 0 && (Nat.beq n 47 && (match PT.get l H.tab with | some (.cells cs ty opn) => AV.same (.agg cs) (.agg want) | _ => false))
  | _ => false
theorem t0 : isTab run = true := by kernel_rfl
theorem vrs_at {E : Env} : ∀ {l : List AV} {vs : List Value}, VRs E l vs → ∀ {i : Nat} {a : AV}, l[i]? = some a → ∃ v, vs[i]? = some v ∧ VR E a v
  | _, _, .nil, i, a, h => by simp at h
  | _, _, .cons h hs, 0, a, e => by
    simp only [List.getElem?_cons_zero, Option.some.injEq] at e
    subst e
    exact ⟨_, rfl, h⟩
  | _, _, .cons h hs, i + 1, a, e => by
    simp only [List.getElem?_cons_succ] at e ⊢
    exact vrs_at hs e
theorem map_in : ∀ {a b : List UInt8}, a.map (fun b => (b.toNat : Int)) = b.map (fun b => (b.toNat : Int)) → a = b
  | [], [], _ => rfl
  | [], _ :: _, h => by cases h
  | _ :: _, [], h => by cases h
  | x :: a, y :: b, h => by
    simp only [List.map_cons, List.cons.injEq] at h
    rw [map_in h.2, UInt8.toNat_inj.1 (by omega : x.toNat = y.toNat)]
theorem str_is {E : Env} {l : List UInt8} {v : Value} (h : VR E (.str (l.map fun b => SI.lit b.toNat)) v) : v = .string (bs l) := by
  cases h with
  | str h =>
    rename_i s
    have : s.data.toList = l := by
      have h2 : s.data.toList.map (fun b => (b.toNat : Int)) = l.map (fun b => (b.toNat : Int)) := by rw [h, List.map_map]; rfl
      exact map_in h2
    rw [← this]
theorem int_is {E : Env} {n : Nat} {v : Value} (h : VR E (.int .i64 (.lit n)) v) : v = .int .i64 n := by
  cases h
  rfl
theorem of_isTab {r : KR} (h : isTab r = true) : ∃ l cap ty opn H, r = .ret (.sl l 0 47 cap) H ∧ PT.get l H.tab = some (.cells want ty opn) := by
  unfold isTab at h
  split at h
  · rename_i l off n cap H
    rw [Bool.and_eq_true, Bool.and_eq_true] at h
    obtain ⟨h0, hn, h⟩ := h
    have h0 := Nat.eq_of_beq_eq_true h0
    have hn := Nat.eq_of_beq_eq_true hn
    subst h0 hn
    split at h
    · rename_i cs ty opn ho
      have e : cs = want := by have := same_eq h; injection this
      exact ⟨l, cap, ty, opn, H, rfl, by rw [ho, e]⟩
    · cases h
  · cases h
theorem soundK (hm : Tryz.prog.follows .mixedOrders = true) {T : PT CFn} (hT : Go.Ai.TabOk Tryz.prog T) {cf : Cf} {fuel d : Nat} {f : FuncId} {w : World} [GlOk cf.gl w] (hcf : cf.ok (fun _ => 0)) {v : AV} {H : Hp} (h : runC Tryz.prog cf T id fuel d f [] = .ret v H) :
    Calls Tryz.prog f #[] w fun e w' => ∃ E' x, e = .returned x ∧ Mv Tryz.prog w ⟨fun _ => 0, fun _ => none⟩ (⟨P.h, PT.e⟩ : Hp).f (⟨P.h, PT.e⟩ : Hp).nx.toNat w E' H.f H.nx.toNat w' ∧ VR E' v x := by
  have hc := (bothC_ok (W0 := w) hT (fun call h => drawK_ok hm h) (over := id) (fun _ h => h) fuel d).1 f [] ⟨P.h, PT.e⟩ ⟨fun _ => 0, fun _ => none⟩ w [] hcf (HR.start w _ (XOk.none rfl)) .nil
  unfold runC at h
  rw [h] at hc
  exact hc
theorem tab_ok : cw.TabOk := by
  intro w hE
  haveI : GlOk cf.gl w := ⟨fun g cs e => by cases e⟩
  have hcf : cf.ok (fun _ => 0) := ⟨fun _ _ hm => (by cases hm), fun _ _ _ _ hm => (by cases hm), fun _ _ _ hm => (by cases hm), fun _ _ _ _ hm => (by cases hm)⟩
  obtain ⟨l, cap, ty, opn, H, hr, ho⟩ := of_isTab t0
  refine Calls.mono (soundK comp.mixed TOk hcf hr) ?_
  rintro e1 w' ⟨E', x, rfl, mv, hv⟩
  cases hv with
  | @sl l off len cap a b c n hl ha hn hcap =>
    obtain ⟨b', c', ob, e2, hb, hob, hor⟩ := mv.hr.obj l _ ho
    rw [hl] at e2
    cases e2
    cases hor with
    | @cells cs ty opn arr fz pre rest hv harr hop hc' hf =>
      refine ⟨b, n, by rw [ha (by omega)], hn, hb, ⟨arr, ty, fz, hob, fun j hj => ?_⟩, mv.hr.below.toBelow⟩
      have hat : ∀ {i : Nat} {v : Value}, pre[i]? = some v → arr[i]? = some v := fun {i v} h => by
        rw [← Array.getElem?_toList, harr, List.getElem?_append_left (List.getElem?_eq_some_iff.1 h).1]; exact h
      obtain ⟨h1, h2, h3⟩ := rows_at 47 0 j hj
      rw [Nat.zero_add] at h1 h2 h3
      obtain ⟨v1, p1, r1⟩ := vrs_at hv h1
      obtain ⟨v2, p2, r2⟩ := vrs_at hv h2
      obtain ⟨v3, p3, r3⟩ := vrs_at hv h3
      rw [hat p1, hat p2, hat p3, str_is r1, int_is r2, int_is r3]
      exact ⟨rfl, rfl, rfl⟩
end Go.Proofs.YtnegdimhejldfaaGreatDoor.mt
