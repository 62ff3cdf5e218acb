/- The abstract machine is sound. -/
import Derived.Test.YtfedjkcigdgcoaaGreatDoorAiW
namespace Go.Ai
open Go Go.RowKit
set_option linter.unusedVariables false
variable {G : Program} {W0 : World} {cf : Cf} {call : CallF} {n : Nat} {opsA : Array Oper} {as : List Nat} {names : List P} {tm0 : PT AV} {H00 : Hp} {q : Tq}
def unl : Nat → Array Bool → Nat
  | 0, _ => 0
  | n + 1, l => (match l.getD n true with | false => 1 | true => 0) + unl n l
theorem unl_zero : ∀ {n : Nat} {l : Array Bool}, unl n l = 0 → ∀ j, j < n → l.getD j true = true
  | 0, l, _, j, hj => by omega
  | n + 1, l, h, j, hj => by
    unfold unl at h
    by_cases hjn : j = n
    · subst hjn
      cases hb : l.getD j true with
      | true => rfl
      | false => rw [hb] at h; simp at h
    · exact unl_zero (n := n) (by omega) j (by omega)
theorem unl_all : ∀ {n : Nat} {l : Array Bool}, (∀ j, j < n → l.getD j true = true) → unl n l = 0
  | 0, l, _ => rfl
  | n + 1, l, h => by
    unfold unl
    rw [h n (by omega), unl_all (fun j hj => h j (by omega))]
theorem unl_none : ∀ {n : Nat} {l : Array Bool}, (∀ j, j < n → l.getD j true = false) → unl n l = n
  | 0, l, _ => rfl
  | n + 1, l, h => by
    unfold unl
    rw [h n (by omega), unl_none (fun j hj => h j (by omega))]
    simp only; omega
theorem unl_least : ∀ {n : Nat} {l : Array Bool}, unl n l ≠ 0 → ∃ j, j < n ∧ l.getD j true = false ∧ ∀ i, i < j → l.getD i true = true
  | 0, l, h => absurd rfl h
  | n + 1, l, h => by
    by_cases h0 : unl n l = 0
    · refine ⟨n, by omega, ?_, unl_zero h0⟩
      unfold unl at h
      cases hb : l.getD n true with
      | false => rfl
      | true => rw [hb, h0] at h; simp at h
    · obtain ⟨j, h1, h2, h3⟩ := unl_least h0
      exact ⟨j, by omega, h2, h3⟩
theorem getD_set {l : Array Bool} {i j : Nat} {d : Bool} (hi : i < l.size) : (l.setIfInBounds i true).getD j d = if j = i then true else l.getD j d := by
  rw [Array.getD_eq_getD_getElem?, Array.getD_eq_getD_getElem?, Array.getElem?_setIfInBounds]
  by_cases h : i = j
  · subst h; simp [hi]
  · have : ¬ j = i := fun e => h e.symm
    simp [h, this]
theorem unl_set {l : Array Bool} {i : Nat} (hi : i < l.size) (hf : l.getD i true = false) : ∀ {n : Nat}, i < n → unl n (l.setIfInBounds i true) + 1 = unl n l
  | 0, h => by omega
  | n + 1, h => by
    unfold unl
    rw [getD_set hi]
    by_cases hn : n = i
    · subst hn
      rw [if_pos rfl, hf]
      have : ∀ {m : Nat}, m ≤ n → unl m (l.setIfInBounds n true) = unl m l := by
        intro m
        induction m with
        | zero => intro _; rfl
        | succ m ih =>
          intro hm
          unfold unl
          rw [getD_set hi, if_neg (by omega), ih (by omega)]
      rw [this (Nat.le_refl n)]
      simp only; omega
    · rw [if_neg hn]
      have := unl_set hi hf (n := n) (by omega)
      omega
def Ls (l : Array Bool) : Nat → Prop := fun j => l.getD j false = true
theorem Ls_set {l : Array Bool} {i : Nat} (hi : i < l.size) : Ls (l.setIfInBounds i true) = Sx (Ls l) i := by
  funext j
  unfold Ls Sx
  rw [getD_set hi]
  by_cases h : j = i
  · simp [h]
  · simp [h]
theorem getD_both {l : Array Bool} {j : Nat} (hj : j < l.size) : l.getD j true = l.getD j false := by
  rw [Array.getD_eq_getD_getElem?, Array.getD_eq_getD_getElem?]; simp [hj]
def Clo (as : List Nat) (S : Nat → Prop) : Prop := ∀ i, S i → ∀ x, bit (gD as i) x = true → S x
theorem go_all [GlOk cf.gl W0] {E0 : Env} {F0 : P → Option AObj} {nx0 nxr : Nat} {w0 : World} (cx : Cx G W0 cf call n opsA (ancs opsA.toList []) names tm0 H00 q E0 nx0 nxr)
    (hN : ∀ j, q.s.rl.length < j → j < opsA.size → bit (gD (ancs opsA.toList []) j) q.s.rl.length = true) (b : Frame) (k : List Item) (dv : List Deferred) (cs : List Frame) :
    ∀ (fuel t : Nat) (listed : Array Bool) (E : Env) (w : World) (X : Hp) (U : P → Option AObj) (arr : Array Value), listed.size = opsA.size → unl opsA.size listed = fuel → Clo (ancs opsA.toList []) (Ls listed) → (∀ j, Ls listed j → j < q.s.rl.length) →
      HI G W0 (ancs opsA.toList []) q E0 F0 nx0 nxr w0 (Ls listed) E w X U → TmI opsA.toList q tm0 n (Ls listed) E arr →
      (∃ E' w' X' U' arr' S', (∀ j, j < opsA.size → S' j) ∧ Clo (ancs opsA.toList []) S' ∧ (∀ j, S' j → j < q.s.rl.length) ∧ HI G W0 (ancs opsA.toList []) q E0 F0 nx0 nxr w0 S' E' w' X' U' ∧ TmI opsA.toList q tm0 n S' E' arr' ∧
        Steps G (lone (Fr b arr (.inRegion opsA (Region.linearise.go .any opsA fuel t listed []) :: k) dv) cs w) (lone (Fr b arr' (.inRegion opsA [] :: k) dv) cs w')) ∨
      (∃ E' w' X' U' arr' S' rest, ¬ S' q.s.rl.length ∧ q.s.rl.length < opsA.size ∧ (∀ x, bit (gD (ancs opsA.toList []) q.s.rl.length) x = true → S' x) ∧ Clo (ancs opsA.toList []) S' ∧ (∀ j, S' j → j < q.s.rl.length) ∧ HI G W0 (ancs opsA.toList []) q E0 F0 nx0 nxr w0 S' E' w' X' U' ∧ TmI opsA.toList q tm0 n S' E' arr' ∧
        Steps G (lone (Fr b arr (.inRegion opsA (Region.linearise.go .any opsA fuel t listed []) :: k) dv) cs w) (lone (Fr b arr' (.inRegion opsA (q.s.rl.length :: rest) :: k) dv) cs w')) := by
  intro fuel
  induction fuel with
  | zero =>
    intro t listed E w X U arr hsz hu clo hlt hI tmi
    exact .inl ⟨E, w, X, U, arr, Ls listed, fun j hj => by unfold Ls; rw [← getD_both (by omega)]; exact unl_zero hu j hj, clo, hlt, hI, tmi, .refl _ _⟩
  | succ fuel ih =>
    intro t listed E w X U arr hsz hu clo hlt hI tmi
    have hsize : opsA.toList.length = opsA.size := by simp
    have hready : ∀ i, i ∈ Region.ready .any opsA listed ↔ i < opsA.size ∧ listed.getD i true = false ∧ ((opsA[i]?).map (·.after.all fun e => !Region.binds .any e || listed.getD e.on false)).getD false = true := by
      intro i
      simp only [Region.ready, List.mem_filter, List.mem_range, Bool.and_eq_true, Bool.not_eq_true']
    have hne : Region.ready .any opsA listed ≠ [] := by
      obtain ⟨j, h1, h2, h3⟩ := unl_least (n := opsA.size) (l := listed) (by omega)
      have : j ∈ Region.ready .any opsA listed := by
        rw [hready]
        refine ⟨h1, h2, ?_⟩
        have hj : opsA[j]? = some opsA[j] := Array.getElem?_eq_getElem h1
        rw [hj]
        simp only [Option.map_some, Option.getD_some]
        rw [← Array.all_toList]
        refine List.all_eq_true.2 fun e he => ?_
        cases hb : Region.binds .any e with
        | false => rfl
        | true =>
          have hlt' := static_edge cx.stat (i := j) (o := opsA[j]) (by simp) e he hb
          have := h3 e.on hlt'
          rw [getD_both (by omega)] at this
          simp [this]
      intro e; rw [e] at this; simp at this
    simp only [Region.linearise.go]
    change (∃ E' w' X' U' arr' S', _ ∧ _ ∧ _ ∧ _ ∧ _ ∧ Steps G (lone (Fr b arr (.inRegion opsA (match (Region.ready .any opsA listed)[t % (Region.ready .any opsA listed).length]? with
      | some i => Region.linearise.go .any opsA fuel (t / (Region.ready .any opsA listed).length) (listed.setIfInBounds i true) [i]
      | none => [].reverse) :: k) dv) cs w) _) ∨ (∃ E' w' X' U' arr' S' rest, _ ∧ _ ∧ _ ∧ _ ∧ _ ∧ _ ∧ _ ∧ Steps G (lone (Fr b arr (.inRegion opsA (match (Region.ready .any opsA listed)[t % (Region.ready .any opsA listed).length]? with
      | some i => Region.linearise.go .any opsA fuel (t / (Region.ready .any opsA listed).length) (listed.setIfInBounds i true) [i]
      | none => [].reverse) :: k) dv) cs w) _)
    cases hi : (Region.ready .any opsA listed)[t % (Region.ready .any opsA listed).length]? with
    | none =>
      have hlen : 0 < (Region.ready .any opsA listed).length := List.length_pos_iff.2 hne
      have := Nat.mod_lt t hlen
      rw [List.getElem?_eq_none_iff] at hi
      omega
    | some i =>
      have hmem := List.mem_of_getElem? hi
      rw [hready] at hmem
      obtain ⟨hi1, hi2, hi3⟩ := hmem
      have hoi : opsA[i]? = some opsA[i] := Array.getElem?_eq_getElem hi1
      rw [hoi] at hi3
      simp only [Option.map_some, Option.getD_some] at hi3
      rw [← Array.all_toList] at hi3
      have hnS : ¬ Ls listed i := by unfold Ls; rw [← getD_both (by omega), hi2]; simp
      have hcl : ∀ x, bit (gD (ancs opsA.toList []) i) x = true → Ls listed x := by
        intro x hx
        obtain ⟨e, h1, h2, h3⟩ := anc_bit (o := opsA[i]) (by simp) hx
        have := List.all_eq_true.1 hi3 e h1
        rw [h2] at this
        have hon : Ls listed e.on := by unfold Ls; simpa using this
        rcases h3 with rfl | h3
        · exact hon
        · exact clo e.on hon x h3
      simp only
      rw [linearise_go_acc, List.reverse_singleton, List.singleton_append]
      by_cases hlti : i < q.s.rl.length
      · obtain ⟨E1, w1, X1, U1, arr1, hI1, tmi1, hs1⟩ := exec_one cx clo hI tmi hnS hcl hlti b k dv cs (Region.linearise.go .any opsA fuel (t / (Region.ready .any opsA listed).length) (listed.setIfInBounds i true) [])
        have hL := Ls_set (l := listed) (i := i) (by omega)
        have hu1 := unl_set (l := listed) (i := i) (by omega) hi2 (n := opsA.size) hi1
        rw [← hL] at hI1 tmi1
        have clo1 : Clo (ancs opsA.toList []) (Ls (listed.setIfInBounds i true)) := by
          rw [hL]
          rintro j (hj | rfl) x hx
          · exact .inl (clo j hj x hx)
          · exact .inl (hcl x hx)
        have hlt1 : ∀ j, Ls (listed.setIfInBounds i true) j → j < q.s.rl.length := by
          rw [hL]
          rintro j (hj | rfl)
          · exact hlt j hj
          · exact hlti
        rcases ih (t / (Region.ready .any opsA listed).length) (listed.setIfInBounds i true) E1 w1 X1 U1 arr1 (by simpa using hsz) (by omega) clo1 hlt1 hI1 tmi1 with
          ⟨E2, w2, X2, U2, arr2, S2, a1, a2, a3, a4, a5, a6⟩ | ⟨E2, w2, X2, U2, arr2, S2, rest, a1, a2, a3, a4, a5, a6, a7, a8⟩
        · exact .inl ⟨E2, w2, X2, U2, arr2, S2, a1, a2, a3, a4, a5, hs1.trans a6⟩
        · exact .inr ⟨E2, w2, X2, U2, arr2, S2, rest, a1, a2, a3, a4, a5, a6, a7, hs1.trans a8⟩
      · by_cases hie : i = q.s.rl.length
        · subst hie
          exact .inr ⟨E, w, X, U, arr, Ls listed, _, hnS, hi1, hcl, clo, hlt, hI, tmi, .refl _ _⟩
        · have := hlt _ (hcl _ (hN i (by omega) hi1))
          omega
theorem Mv.bump {E E' : Env} {H H' : P → Option AObj} {nx nx' nx'' : Nat} {w w' : World} (h : Mv G W0 E H nx w E' H' nx' w') (hle : nx' ≤ nx'') : Mv G W0 E H nx w E' H' nx'' w' :=
  ⟨h.le, ⟨h.hr.below, fun l x e => Nat.lt_of_lt_of_le (h.hr.dom l x e) hle, h.hr.obj, h.hr.inj⟩, Nat.le_trans h.up hle, h.sz, h.fr, h.own, h.nw⟩
theorem base_all {S : Nat → Prop} : ∀ {wl : List Nat} {hs : List Hp} {X : Hp}, (∀ w ∈ wl, S w) → Base S wl hs X → ∃ l, hs = X :: l
  | [], [], X, _, h => by cases h
  | [], H :: hs, X, _, h => ⟨hs, by rw [show X = H from h]⟩
  | w :: wl, [], X, _, h => by cases h
  | w :: wl, H :: hs, X, hw, h => by
    rcases h with ⟨_, rfl⟩ | ⟨a, _⟩
    · exact ⟨hs, rfl⟩
    · exact absurd (hw w List.mem_cons_self) a
theorem base_head {S : Nat → Prop} {m : Nat} (hm : ∀ x, bit m x = true → S x) : ∀ {wl : List Nat} {hs : List Hp} {X : Hp}, chained m wl = true → Base S wl hs X → ∃ l, hs = X :: l
  | [], [], X, _, h => by cases h
  | [], H :: hs, X, _, h => ⟨hs, by rw [show X = H from h]⟩
  | w :: wl, [], X, _, h => by cases h
  | w :: wl, H :: hs, X, hc, h => by
    rcases h with ⟨_, rfl⟩ | ⟨a, _⟩
    · exact ⟨hs, rfl⟩
    · exact absurd (hm w hc) a
theorem drawK_ok [GlOk cf.gl W0] (hm : G.follows .mixedOrders = true) (hcall : CallOk G W0 cf call) : DrawOk G W0 cf call := by
  intro n b id opsA tm ds H rc E w arr dv cs k hcf st hstat
  unfold drawK
  rw [resvK_eq]
  refine CodeOk.steps (.one (st_region_draw (id := id))) ?_
  simp only [Region.schedule, hm, Bool.true_or, if_true, Region.linearise]
  generalize w.tape w.drawn (.order b.fn id) = t
  refine traceK_ok (Φ := CodeOk G W0 n b H E w cs _ k) (fun k => trivial) ?_ opsA.toList ⟨⟨[], [⟨nxF opsA.toList H.nx, H.tab⟩], [], []⟩, tm, ⟨nxF opsA.toList H.nx, H.tab⟩⟩ .nil rfl
  intro s tm1 H1 pan hE
  split
  · trivial
  rename_i htes
  have hnx := nxF_nat opsA.toList H.nx
  have hsize : opsA.toList.length = opsA.size := by simp
  have start : ∀ {q : Tq}, Tr G cf call n opsA.toList (ancs opsA.toList []) (namesF opsA.toList H.nx) tm ⟨nxF opsA.toList H.nx, H.tab⟩ q → okT (ordB (ancs opsA.toList []) opsA.toList 0) (tesOk G cf opsA.toList (ancs opsA.toList []) q.s.xs (snaps q.s.wl q.s.hs none) q.s.rl) = true →
      Cx G W0 cf call n opsA (ancs opsA.toList []) (namesF opsA.toList H.nx) tm ⟨nxF opsA.toList H.nx, H.tab⟩ q E H.nx.toNat (nxF opsA.toList H.nx).toNat ∧
      HI G W0 (ancs opsA.toList []) q E H.f H.nx.toNat (nxF opsA.toList H.nx).toNat w (Ls (Array.replicate opsA.size false)) E { w with drawn := w.drawn + 1 } ⟨nxF opsA.toList H.nx, H.tab⟩ H.f ∧
      TmI opsA.toList q tm n (Ls (Array.replicate opsA.size false)) E arr := by
    intro q hq ht
    have hLs : ∀ j, ¬ Ls (Array.replicate opsA.size false) j := by
      intro j h
      unfold Ls at h
      rw [Array.getD_eq_getD_getElem?, Array.getElem?_replicate] at h
      split at h <;> simp at h
    have cx : Cx G W0 cf call n opsA (ancs opsA.toList []) (namesF opsA.toList H.nx) tm ⟨nxF opsA.toList H.nx, H.tab⟩ q E H.nx.toNat (nxF opsA.toList H.nx).toNat :=
      ⟨hq, hstat, okT_or ht, hcall, hcf, fun i l hl => by have := names_nat _ _ _ hl; omega, fun i j l h1 h2 => by have := names_nat _ _ _ h1; have := names_nat _ _ _ h2; omega⟩
    refine ⟨cx, ⟨(Mv.drew st.hr).bump (by rw [hnx]; omega), (base_none hq).congr (fun w _ => ⟨False.elim, fun h => hLs _ h⟩), Nat.le_refl _, ?_, fun x _ h => absurd h (hLs _), fun l o h => h⟩, st.sz, ?_⟩
    · intro x hx _
      cases hρ : E.ρ x.2.1 with
      | none => rfl
      | some y =>
        have := st.hr.dom _ _ hρ
        have := (cx.nlo _ _ (hq.facts.xnm x hx)).1
        omega
    · intro t v hc
      rcases hc with ⟨j, _, _, hj, _⟩ | ⟨_, hv⟩
      · exact absurd hj (hLs j)
      · exact st.tr t v hv
  have hu0 : unl opsA.size (Array.replicate opsA.size false) = opsA.size := unl_none (fun j hj => by rw [Array.getD_eq_getD_getElem?, Array.getElem?_replicate]; simp [hj])
  have clo0 : Clo (ancs opsA.toList []) (Ls (Array.replicate opsA.size false)) := by
    intro j h
    unfold Ls at h
    rw [Array.getD_eq_getD_getElem?, Array.getElem?_replicate] at h
    split at h <;> simp at h
  have lt0 : ∀ (N j : Nat), Ls (Array.replicate opsA.size false) j → j < N := by
    intro N j h
    unfold Ls at h
    rw [Array.getD_eq_getD_getElem?, Array.getElem?_replicate] at h
    split at h <;> simp at h
  cases hE with
  | none h hl =>
    rename_i q
    obtain ⟨cx, hI, tmi⟩ := start h htes
    simp only
    rw [layAll_eq]
    rcases go_all cx (fun j h1 h2 => by omega) b k dv cs opsA.size t (Array.replicate opsA.size false) E _ _ _ arr (by simp) hu0 clo0 (lt0 _) hI tmi with
      ⟨E', w', X', U', arr', S', a1, a2, a3, a4, a5, a6⟩ | ⟨_, _, _, _, _, _, _, _, a2, _⟩
    · obtain ⟨l, hX⟩ := base_all (fun w hw => a1 w (by have := h.facts.wlt w hw; omega)) a4.base
      obtain ⟨l1, hl1⟩ := h.facts.hd
      have hXe : X' = q.H := by rw [hl1] at hX; injection hX with h1 h2; exact h1.symm
      subst hXe
      have hsub : ∀ l o, PT.get l (layAF (ancs opsA.toList []) q.s.wl q.s.xs q.H.tab) = some o → U' l = some o := by
        intro l o hg
        rcases layAF_get hg with ⟨x, hx, h1, rfl, rfl⟩ | hg
        · refine a4.xs x hx (a1 _ (by have := h.facts.xlt x hx; omega)) (fun w hw _ => ?_)
          cases hb : bit (gD (ancs opsA.toList []) w) x.1 with
          | false => rfl
          | true => have := anyBit_iff.2 ⟨w, hw, hb⟩; rw [h1] at this; cases this
        · exact a4.tab l o hg
      have mv := a4.mv.drop hsub
      refine ⟨E', w', arr', dv, cs, ⟨mv, ⟨mv.hr, a5.1, ?_, st.ds.mono mv.le, st.rc.mono mv.le⟩, .refl _ _⟩, a6.trans (.one st_region_end)⟩
      intro i v hg
      refine a5.2 i v ?_
      rcases h.facts.src i v hg with ⟨j, o, te, h1, h2, h3, h4, h5⟩ | ⟨h1, h2⟩
      · exact .inl ⟨j, o, te, a1 j (by omega), h2, h3, h4, h5⟩
      · exact .inr ⟨fun j o _ ho => h1 j o (by have := (List.getElem?_eq_some_iff.1 ho).1; omega) ho, h2⟩
    · omega
  | some h ho hw hc hop hcl hb =>
    rename_i q o f args v
    obtain ⟨cx, hI, tmi⟩ := start h htes
    simp only
    rw [eraseD_eq]
    have hNlt : q.s.rl.length < opsA.size := by have := (List.getElem?_eq_some_iff.1 ho).1; omega
    rcases go_all cx (fun j h1 h2 => hb j h1 (by omega)) b k dv cs opsA.size t (Array.replicate opsA.size false) E _ _ _ arr (by simp) hu0 clo0 (lt0 _) hI tmi with
      ⟨E', w', X', U', arr', S', a1, a2, a3, a4, a5, a6⟩ | ⟨E', w', X', U', arr', S', rest, a1, a2, a3, a4, a5, a6, a7, a8⟩
    · have := a3 _ (a1 _ hNlt); omega
    · obtain ⟨l, hX⟩ := base_head a3 hc a6.base
      obtain ⟨l1, hl1⟩ := h.facts.hd
      have hXe : X' = q.H := by rw [hl1] at hX; injection hX with h1 h2; exact h1.symm
      subst hXe
      have hoA : opsA[q.s.rl.length]? = some o := by simpa using ho
      have hlook := looks_ok cx.stat a4 a7 h (.refl q) ho a1 a3
      have hwr := wanted_ok' hlook hw
      have hev : EvR E' (evR q.tm o) (Act.eval ⟨arr', dv⟩) := evR_ok hlook
      have hsub := lay_sub a6 a3 (fun x hx => hx) (done := q.s.wl) (fun w hw _ => hw)
      have hrT := a6.mv.hr.drop hsub
      have hcf' : cf.ok E'.σ := by rw [a6.mv.le.1]; exact hcf
      have hk := opK_ok (H := ⟨q.H.nx, layF (ancs opsA.toList []) (gD (ancs opsA.toList []) q.s.rl.length) q.s.wl q.s.xs q.H.tab⟩) hcf' hrT (o := o) hev
      rw [hop] at hk
      obtain ⟨xs, hrun, hxs⟩ := hk
      have hcr := hcall f args ⟨q.H.nx, layF (ancs opsA.toList []) (gD (ancs opsA.toList []) q.s.rl.length) q.s.wl q.s.xs q.H.tab⟩ E' w' xs hcf' hrT hxs
      rw [hcl] at hcr
      have hd : b.roundOf = none ∨ ∀ c, o.op ≠ .defer c := by
        refine .inr fun c hc => ?_
        rcases opK_defer (G := G) (cf := cf) (ev := evR q.tm o) (H := ⟨q.H.nx, layF (ancs opsA.toList []) (gD (ancs opsA.toList []) q.s.rl.length) q.s.wl q.s.xs q.H.tab⟩) hc with ⟨f, a, cap, e⟩ | ⟨e, he⟩
        · rw [hop] at e; cases e
        · rw [hop] at he; cases he
      obtain ⟨e, w2, fr, ⟨E2, x, rfl, mv, hv⟩, hsteps, _, hleave⟩ := hcr (Fr b arr' (.inRegion opsA (q.s.rl.length :: rest) :: k) dv :: cs)
      have mvU := Mv.frame a6.mv.hr hsub mv (fun _ => False) (fun l h => h.elim)
      have mvT := (a6.mv.trans mvU).drop (H'' := H1.f) (fun l o e => by rw [if_neg (fun h => h)]; exact e)
      refine ⟨E2, w2, arr', dv, cs, ⟨mvT, ⟨mvT.hr, a7.1, ?_, st.ds.mono mvT.le, st.rc.mono mvT.le⟩, .refl _ _⟩, x, .inRegion opsA (q.s.rl.length :: rest) :: k, hv, a8.trans (.head (st_enter hoA hwr hd hrun) (hsteps.trans (.one ?_)))⟩
      · intro i u hg
        obtain ⟨h1, h2⟩ := eraF_get hg
        obtain ⟨y, hy, hyv⟩ := a7.2 i u (.inr ⟨fun j o _ ho => h1 o (List.mem_of_getElem? ho), h2⟩)
        exact ⟨y, hy, hyv.mono mvU.le⟩
      · exact step_leave_panicked (c := Fr b arr' (.inRegion opsA (q.s.rl.length :: rest) :: k) dv) (cs := cs) hleave
theorem callN_sound [GlOk cf.gl W0] (hm : G.follows .mixedOrders = true) (fuel d : Nat) : CallOk G W0 cf (callN G cf fuel d) := callN_ok (fun call h => drawK_ok hm h) fuel d
/-! ### the whole -/
noncomputable def yes (r : KR) : Bool := match r with
  | .ret (.bool b) _ => b
  | _ => false
theorem HR.start (w : World) (σ : Nat → Int) : HR G w ⟨σ, fun _ => none⟩ (Hp.f ⟨P.h, PT.e⟩) 0 w := by
  refine ⟨Below.refl _ _, (fun l x e => nomatch e), (fun l o e => ?_), (fun l l' o o' b c c' e => ?_)⟩
  · have e' : PT.get l PT.e = some o := e
    rw [PT.get_e] at e'; cases e'
  · have e' : PT.get l PT.e = some o := e
    rw [PT.get_e] at e'; cases e'
theorem sound (hm : G.follows .mixedOrders = true) {cf : Cf} {fuel d : Nat} {f : FuncId} {avs : List AV} {xs : List Value} {w : World} {σ : Nat → Int} [GlOk cf.gl w] (hcf : cf.ok σ) (hx : VRs ⟨σ, fun _ => none⟩ avs xs)
    (h : yes (callN G cf fuel d f avs ⟨P.h, PT.e⟩) = true) : Calls G f xs.toArray w fun e w' => e = .returned (.bool true) ∧ Below w.heap.size w w' := by
  have hc := callN_sound (W0 := w) (cf := cf) hm fuel d f avs ⟨P.h, PT.e⟩ ⟨σ, fun _ => none⟩ w xs hcf (HR.start w σ) hx
  unfold yes at h
  split at h
  · rename_i b H' hr
    rw [hr] at hc
    refine Calls.mono hc ?_
    rintro e w' ⟨E', x, rfl, mv, hv⟩
    cases hv
    exact ⟨by rw [h], mv.hr.below⟩
  · cases h
end Go.Ai
