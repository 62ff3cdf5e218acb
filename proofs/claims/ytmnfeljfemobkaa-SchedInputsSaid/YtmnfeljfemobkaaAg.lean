/- Loops of several patterns; calls met by a rule; slices.Clone of an array of unknown length. -/
import Derived.Test.YtmnfeljfemobkaaAj3
namespace Go.Ai
open Go Go.RowKit
set_option linter.unusedVariables false
/-! ### several patterns -/
structure Pat where
  tm : PT AV
  T : PT AObj
/-- a piece of the way: rounds from a pattern; what they lead to -/
noncomputable def endOk (cf : Cf) (θ : Nat → SI) (nx : P) (ex : Ex) (tm0 : PT AV) (T0 : PT AObj) (r : CR) : Bool := match r, ex with
  | .ok (.exit i) tm [] H .no, .exit j => match Nat.beq i j with
    | true => stLe cf θ nx tm0 T0 tm H.tab
    | false => false
  | .ok .normal tm [] H .no, .normal => stLe cf θ nx tm0 T0 tm H.tab
  | .ok .ret tm [] H .no, .ret => stLe cf θ nx tm0 T0 tm H.tab
  | _, _ => false
section
variable {G : Program} {W0 : World} {cf : Cf} {V : Kp} {x : Code}
theorem endOk_some {θ : Nat → SI} {nx : P} {ex : Ex} {tm0 : PT AV} {T0 : PT AObj} {r : CR} (h : endOk cf θ nx ex tm0 T0 r = true) : ∃ tm H, r = .ok ex tm [] H .no ∧ stLe cf θ nx tm0 T0 tm H.tab = true ∧ ∀ v, ex ≠ .pan v := by
  unfold endOk at h
  split at h
  · split at h
    · rename_i hb
      rw [Nat.eq_of_beq_eq_true hb]
      exact ⟨_, _, rfl, h, fun v e => by cases e⟩
    · cases h
  · exact ⟨_, _, rfl, h, fun v e => by cases e⟩
  · exact ⟨_, _, rfl, h, fun v e => by cases e⟩
  · cases h
theorem Ends.turn {E E' : Env} {b : Frame} {k : List Item} {arr : Array Value} {dv : List Deferred} {cs : List Frame} {w : World} {m : Machine} {ex : Ex} (hp : ∀ v, ex ≠ .pan v) (h : Ends G E b k arr dv cs w m ex) : Ends G E' b k arr dv cs w m ex := by
  cases ex with
  | normal => exact h
  | exit id => exact h
  | ret => exact h
  | pan v => exact absurd rfl (hp v)
/-- what one class of a pattern comes to: another pattern, or the end -/
inductive Way (G : Program) (W0 : World) (V : Kp) (b : Frame) (x : Code) (nx : P) (pat : Nat → Pat) (J : Nat → (Nat → Int) → Prop) (μ : Nat → (Nat → Int) → Nat) (σ0 : Nat → Int) (ex : Ex) (tmX : PT AV) (TX : PT AObj) (a : Nat) (σ : Nat → Int) : Prop
  | step {cf : Cf} {F : IH} {θ : Nat → SI} {m c : Nat} (hcf : cf.ok σ) (hF : BodyOk G W0 cf V b F x) (hk : BodyKeys V F) (h : stepOk cf θ nx (pat c).tm (pat c).T (itC m F (pat a).tm [] ⟨nx, (pat a).T⟩ .no) = true)
      (hJ : J c (evs θ σ)) (hμ : μ c (evs θ σ) < μ a σ) (hb : ∀ i, 1000 ≤ i → evs θ σ i = σ i) : Way G W0 V b x nx pat J μ σ0 ex tmX TX a σ
  | stop {cf : Cf} {F : IH} {θ : Nat → SI} {fuel : Nat} (hcf : cf.ok σ) (hF : BodyOk G W0 cf V b F x) (hk : BodyKeys V F) (h : endOk cf θ nx ex tmX TX (loopC F fuel (pat a).tm [] ⟨nx, (pat a).T⟩ .no) = true)
      (hσ : evs θ σ = σ0) : Way G W0 V b x nx pat J μ σ0 ex tmX TX a σ
theorem loop_many {b : Frame} {tme tmX : PT AV} {Te TX : PT AObj} {nx : P} {pat : Nat → Pat} {a0 : Nat} {θ0 : Nat → SI} {σ : Nat → Int} {ex : Ex} (J : Nat → (Nat → Int) → Prop) (μ : Nat → (Nat → Int) → Nat)
    (hcf : cf.ok σ) (h0 : stLe cf θ0 nx (pat a0).tm (pat a0).T tme Te = true) (hkeys : ∀ a σ', J a σ' → Keys V (pat a).tm) (hnames : ∀ a σ', J a σ' → ∀ l o, PT.get l (pat a).T = some o → ∃ o', PT.get l Te = some o') (hnX : ∀ l o, PT.get l TX = some o → ∃ o', PT.get l Te = some o')
    (hJ0 : J a0 (evs θ0 σ)) (hJ : ∀ a σ', J a σ' → Way G W0 V b x nx pat J μ σ ex tmX TX a σ') (hb0 : ∀ i, 1000 ≤ i → evs θ0 σ i = σ i) (hbJ : ∀ a σ', J a σ' → ∀ i, 1000 ≤ i → σ' i = σ i)
    {ρ : P → Option (Nat × Nat)} {w : World} {arr : Array Value} {dv : List Deferred} {cs : List Frame} {k : List Item} (st : St G W0 V.n b tme [] ⟨nx, Te⟩ .no ⟨σ, ρ⟩ w arr dv cs) :
    CodeOk G W0 V.n b ⟨nx, Te⟩ ⟨σ, ρ⟩ w cs (lone (Fr b arr (.code x :: .inLoop x :: k) dv) cs w) k (.ok ex tmX [] ⟨nx, TX⟩ .no) := by
  have hdom : ∀ l y, ρ l = some y → l.toNat < nx.toNat := st.hr.dom
  have hρ : ∀ l o', PT.get l Te = some o' → ∃ y, ρ l = some y := fun l o' k1 => by
    obtain ⟨b', c', _, k2, _⟩ := st.hr.obj l o' k1
    exact ⟨_, k2⟩
  have hTρ : ∀ a σ', J a σ' → ∀ l o, PT.get l (pat a).T = some o → ∃ y, ρ l = some y := fun a σ' hj l o e => by
    obtain ⟨o', k1⟩ := hnames a σ' hj l o e
    exact hρ l o' k1
  have st0 : St G W0 V.n b (pat a0).tm [] ⟨nx, (pat a0).T⟩ .no ⟨evs θ0 σ, ρ⟩ w arr dv cs := St.le_turn hcf st h0 (fun _ _ h => h) (fun _ _ h _ => h) hdom (hTρ a0 _ hJ0) hb0
  have main : ∀ (n : Nat) (a : Nat) (σ' : Nat → Int) (w1 : World) (arr1 : Array Value) (dv1 : List Deferred) (cs1 : List Frame), μ a σ' < n → J a σ' → St G W0 V.n b (pat a).tm [] ⟨nx, (pat a).T⟩ .no ⟨σ', ρ⟩ w1 arr1 dv1 cs1 →
      w.heap.size ≤ w1.heap.size → (∀ q, q < w.heap.size → (∀ l o c, PT.get l Te = some o → ρ l = some (q, c) → False) → w1.heap[q]? = w.heap[q]?) → Mod b cs cs1 →
      CodeOk G W0 V.n b ⟨nx, Te⟩ ⟨σ, ρ⟩ w cs (lone (Fr b arr1 (.code x :: .inLoop x :: k) dv1) cs1 w1) k (.ok ex tmX [] ⟨nx, TX⟩ .no) := by
    intro n
    induction n with
    | zero => intro a σ' w1 arr1 dv1 cs1 hμ; omega
    | succ n ih =>
      intro a σ' w1 arr1 dv1 cs1 hμ hj st1 hsz hfr hmd
      cases hJ a σ' hj with
      | step hc hF hk hs hj' hlt hbθ =>
        rename_i cfA F θ m c
        have hs' := hs
        unfold stepOk at hs'
        split at hs'
        · rename_i tm2 H2 hr
          obtain ⟨E2, w2, arr2, dv2, cs2, o, s⟩ := itC_ok hF hk m (pat a).tm [] ⟨nx, (pat a).T⟩ .no ⟨σ', ρ⟩ w1 arr1 dv1 cs1 k _ _ _ _ hc st1 (hkeys a σ' hj) hr
          obtain ⟨σ2, ρ2⟩ := E2
          have e1 : σ2 = σ' := o.mv.le.1
          subst e1
          have hdn : ∀ l y, ρ2 l = some y → l.toNat < nx.toNat → ρ l = some y := fun l y e hl => by
            rcases o.mv.nw l y e with h | h
            · exact h
            · exact absurd hl (by have : nx.toNat ≤ l.toNat := h; omega)
          have st2 : St G W0 V.n b (pat c).tm [] ⟨nx, (pat c).T⟩ .no ⟨evs θ σ2, ρ⟩ w2 arr2 dv2 cs2 := St.le_turn hc o.st hs' (fun l y e => o.mv.le.2 l y e) hdn hdom (hTρ c _ hj') hbθ
          refine CodeOk.steps s (ih c (evs θ σ2) w2 arr2 dv2 cs2 (by omega) hj' st2 (Nat.le_trans hsz o.mv.sz) (fun q hq hno => ?_) (hmd.trans o.md))
          rw [o.mv.fr q (Nat.lt_of_lt_of_le hq hsz) (fun l u c e1 e2 => by obtain ⟨u', k1⟩ := hnames a _ hj l u e1; exact hno l u' c k1 e2)]
          exact hfr q hq hno
        · cases hs'
      | stop hc hF hk hs hσ =>
        rename_i cfB F θ fuel
        obtain ⟨tm2, H2, hr, hle, hp⟩ := endOk_some hs
        have h := loopC_ok hF hk fuel (pat a).tm [] ⟨nx, (pat a).T⟩ .no ⟨σ', ρ⟩ w1 arr1 dv1 cs1 k hc st1 (hkeys a σ' hj)
        rw [hr] at h
        obtain ⟨⟨σ2, ρ2⟩, w2, arr2, dv2, cs2, o, e⟩ := h
        have e1 : σ2 = σ' := o.mv.le.1
        subst e1
        have hdn : ∀ l y, ρ2 l = some y → l.toNat < nx.toNat → ρ l = some y := fun l y e hl => by
          rcases o.mv.nw l y e with h | h
          · exact h
          · exact absurd hl (by have : nx.toNat ≤ l.toNat := h; omega)
        have hX : ∀ l o, PT.get l TX = some o → ∃ y, ρ l = some y := fun l o e => by obtain ⟨o', k1⟩ := hnX l o e; exact hρ l o' k1
        have st2 : St G W0 V.n b tmX [] ⟨nx, TX⟩ .no ⟨evs θ σ2, ρ⟩ w2 arr2 dv2 cs2 := St.le_turn hc o.st hle (fun l y e => o.mv.le.2 l y e) hdn hdom hX (fun i hi => by rw [hσ]; exact (hbJ a _ hj i hi).symm)
        rw [hσ] at st2
        refine ⟨⟨σ, ρ⟩, w2, arr2, dv2, cs2, ⟨⟨Env.le.refl _, st2.hr, Nat.le_refl _, Nat.le_trans hsz o.mv.sz, fun q hq hno => ?_, fun l u b' c h1 h2 => ?_, fun l y e => .inl e⟩, st2, hmd.trans o.md⟩, e.turn hp⟩
        · rw [o.mv.fr q (Nat.lt_of_lt_of_le hq hsz) (fun l u c e1 e2 => by obtain ⟨u', k1⟩ := hnames a _ hj l u e1; exact hno l u' c k1 e2)]
          exact hfr q hq hno
        · obtain ⟨u', k1⟩ := hnX l u h1
          exact .inr ⟨l, u', c, k1, h2⟩
  exact main (μ a0 (evs θ0 σ) + 1) a0 _ w arr dv cs (Nat.lt_succ_self _) hJ0 st0 (Nat.le_refl _) (fun _ _ _ => rfl) (.refl _ _)
/-! ### a call met by a rule -/
def RuleOk (G : Program) (W0 : World) (cf : Cf) (g : Nat) (rule : List AV → Hp → Option (AV × Hp)) : Prop := ∀ (args : List AV) (H : Hp) (v : AV) (H' : Hp), rule args H = some (v, H') → ∀ (E : Env) (w : World) (xs : List Value), cf.ok E.σ → HR G W0 E H.f H.nx.toNat w → VRs E args xs → CallRes G W0 E H w g xs (.ret v H')
noncomputable def overR (g : Nat) (rule : List AV → Hp → Option (AV × Hp)) (call : CallF) : CallF := fun f args H => Bool.rec (call f args H) (Option.rec (call f args H) (fun r => .ret r.1 r.2) (rule args H)) (Nat.beq f g)
theorem overR_ok {g : Nat} {rule : List AV → Hp → Option (AV × Hp)} (hr : RuleOk G W0 cf g rule) {call : CallF} (hc : CallOk G W0 cf call) : CallOk G W0 cf (overR g rule call) := by
  intro f args H E w xs hcf h hx
  unfold overR
  cases hb : Nat.beq f g with
  | false => exact hc f args H E w xs hcf h hx
  | true =>
    have hb := Nat.eq_of_beq_eq_true hb
    subst hb
    cases e : rule args H with
    | none => exact hc f args H E w xs hcf h hx
    | some r => exact hr args H r.1 r.2 e E w xs hcf h hx
/-! ### slices.Clone -/
/-- what slices.Clone of []int does, of a slice that is not empty -/
def CloneOk (G : Program) (g : Nat) (ty : TypeId) : Prop := ∀ (b o n k : Nat) (zs : List Int) (w : World), 0 < n → n * 8 ≤ 140737488355328 → zs.length = n → (∀ j, j < n → w.cell? ⟨b, o + j, none⟩ = some (.int .i64 (zs.getD j 0))) →
  Calls G g #[.slice (some ⟨b, o, none⟩) n k] w fun e w' => ∃ q cap arr fz, e = .returned (.slice (some ⟨q, 0, none⟩) n cap) ∧ n ≤ cap ∧ w.heap.size ≤ q ∧ w'.heap[q]? = some (.cells arr ty fz) ∧ (∀ j, j < n → arr[j]? = some (.int .i64 (zs.getD j 0))) ∧ Below w.heap.size w w'
/-- of one that is empty, but not nil -/
def CloneZ (G : Program) (g : Nat) : Prop := ∀ (x : Addr) (k : Nat) (w : World), Calls G g #[.slice (some x) 0 k] w fun e w' => ∃ y c, e = .returned (.slice (some y) 0 c) ∧ Below w.heap.size w w'
/-- how long the array is -/
noncomputable def garrN (H : Hp) (l : Option P) (a : Nat) : Option SI := match l with
  | some q => match PT.get q H.tab with
    | some (.garr a' n _) => match Nat.beq a a' with
      | true => some n
      | false => none
    | _ => none
  | none => forceN (Nat.add 1500 a) (fun j => some (.var j))
noncomputable def rClone (cf : Cf) (ty : TypeId) (args : List AV) (H : Hp) : Option (AV × Hp) := match args with
  | [.gsl none a _ (.lit (.ofNat 0))] => some (.gsl none a (.lit (.ofNat 0)) (.lit (.ofNat 0)), H)
  | [.gsl l a (.lit (.ofNat 0)) len] => match bnd cf.iv len, garrN H l a with
    | some (.ofNat (Nat.succ _), .ofNat hi), some n => match Nat.ble hi 17592186044416, cmpO cf .lss n len with
      | true, some false => some (.gsl (some H.nx) a (.lit (.ofNat 0)) len, ⟨P.next H.nx, PT.put H.nx H.tab (some (.garr a len ty))⟩)
      | _, _ => none
    | _, _ => none
  | _ => none
theorem garrN_ok {E : Env} {H : Hp} {nx : Nat} {w : World} (hr : HR G W0 E H.f nx w) {l : Option P} {a : Nat} {n : SI} (h : garrN H l a = some n) {x : Addr} (hg : GA E l a 0 x) : x.spot = none ∧ ∀ j : Nat, (j : Int) < n.ev E.σ → w.cell? ⟨x.block, x.off + j, none⟩ = some (.int .i64 (E.σ (gix a j))) := by
  unfold garrN at h
  split at h
  · rename_i q
    split at h
    · rename_i a' n' ty hq
      split at h
      · rename_i ha
        cases h
        have ha := Nat.eq_of_beq_eq_true ha
        subst ha
        cases hg with
        | own hb =>
          rename_i b c
          obtain ⟨b', c', ob, e1, _, hob, hor⟩ := hr.obj q _ hq
          rw [hb] at e1; cases e1
          cases hor with
          | garr hcells => exact ⟨rfl, fun j hj => by simp [World.cell?, hob, hcells j hj]⟩
      · cases h
    · cases h
  · rw [forceN_eq] at h
    cases h
    cases hg with
    | ext hlt =>
      refine ⟨rfl, fun j hj => ?_⟩
      obtain ⟨arr, ty, fz, h1, h2⟩ := hr.below.xok.2 a hlt j hj
      have h1 : w.heap[(E.σ (1300 + a)).toNat]? = some (.cells arr ty fz) := by rw [hr.below.block _ (Array.getElem?_eq_some_iff.1 h1).1]; exact h1
      simp [World.cell?, h1, h2]
theorem rClone_ok {g : Nat} {ty : TypeId} (hc : CloneOk G g ty) (hz : CloneZ G g) : RuleOk G W0 cf g (rClone cf ty) := by
  intro args H v H' h E w xs hcf hr hx
  unfold rClone at h
  split at h
  · cases h
    cases hx with
    | cons hx hnil =>
      cases hnil
      cases hx with
      | gsl ho hn hga hxy hk =>
        rename_i x y o n k
        have hn : n = 0 := by have : (n : Int) = 0 := hn; omega
        subst hn
        refine Calls.mono (hz x k w) ?_
        rintro e w' ⟨y', c, rfl, hbl⟩
        cases hga with
        | ext hlt => exact ⟨E, _, rfl, Mv.below hr hbl, .gsl (o := 0) rfl rfl (.ext hlt) (fun h => by omega) (Nat.zero_le _)⟩
  · rename_i l a len _
    split at h
    · rename_i lo hi n hbd hn
      split at h
      · rename_i hle hlt
        cases h
        have hle := Nat.le_of_ble_eq_true hle
        have hlt : decide (n.ev E.σ < len.ev E.σ) = false := cmpO_ok hcf hlt
        have hlt := of_decide_eq_false hlt
        obtain ⟨b1, b2⟩ := bnd_ok hcf.2.2.1 _ hbd
        have b1 : ((lo + 1 : Nat) : Int) ≤ len.ev E.σ := b1
        have b2 : len.ev E.σ ≤ (hi : Int) := b2
        cases hx with
        | cons hx hnil =>
          cases hnil
          cases hx with
          | gsl ho hn' hga hxy hk =>
            rename_i x y o m k
            have ho : o = 0 := by have : (o : Int) = 0 := ho; omega
            subst ho
            have := hxy (by omega)
            subst this
            obtain ⟨hsp, hcell⟩ := garrN_ok hr hn hga
            obtain ⟨bb, oo, ss⟩ := x
            have hsp : ss = none := hsp
            subst hsp
            let zs : List Int := (List.range m).map (fun j => E.σ (gix a j))
            have hz : ∀ j, j < m → zs.getD j 0 = E.σ (gix a j) := fun j hj => by simp [zs, List.getD, hj]
            refine Calls.mono (hc bb oo m k zs w (by omega) (by omega) (by simp [zs]) (fun j hj => by rw [hz j hj]; exact hcell j (by omega))) ?_
            rintro e w' ⟨q, cap, arr, fz, rfl, hcap, hq, hat, harr, hbl⟩
            -- the new block has no name yet
            have hfresh : E.ρ H.nx = none := by
              cases hρ : E.ρ H.nx with
              | none => rfl
              | some y => have := hr.dom _ _ hρ; omega
            have hE : E.le (E.add H.nx (q, 0)) := Env.le_add hfresh
            have hto : ({ nx := P.next H.nx, tab := PT.put H.nx H.tab (some (.garr a len ty)) } : Hp).nx.toNat = H.nx.toNat + 1 := P.toNat_next _
            have mv0 : Mv G W0 E H.f H.nx.toNat w E H.f H.nx.toNat w' := Mv.below hr hbl
            have hlt' : q < w'.heap.size := (Array.getElem?_eq_some_iff.1 hat).1
            refine ⟨E.add H.nx (q, 0), _, rfl, ?_, .gsl rfl (hn'.trans (by rw [hE.1])) (.own (Env.add_same _ _ _)) (fun _ => rfl) hcap⟩
            have hf : (Hp.mk (P.next H.nx) (PT.put H.nx H.tab (some (.garr a len ty)))).f = upd H.f H.nx (some (.garr a len ty)) := by
              funext l
              show PT.get l _ = _
              by_cases hl : l = H.nx
              · subst hl; rw [PT.get_put_same, upd_same]
              · rw [PT.get_put_other (fun e => hl e.symm), upd_other _ _ hl]; rfl
            rw [hf]
            refine ⟨hE, ⟨mv0.hr.below, fun l y e => ?_, fun l o e => ?_, fun l l' o o' b c c' e1 e2 e3 e4 => ?_⟩, by omega, hbl.size, mv0.fr, fun l o b c e1 e2 => ?_, fun l y e => ?_⟩
            · by_cases hl : l = H.nx
              · subst hl; omega
              · rw [Env.add_other _ _ hl] at e
                have := hr.dom l y e
                omega
            · by_cases hl : l = H.nx
              · subst hl
                rw [upd_same] at e; cases e
                exact ⟨q, 0, _, Env.add_same _ _ _, Nat.le_trans hr.below.size hq, hat, .garr (fun j hj => by
                  have hj : (j : Int) < len.ev E.σ := hj
                  rw [harr j (by omega), hz j (by omega)]; rfl)⟩
              · rw [upd_other _ _ hl] at e
                obtain ⟨b, c, ob, k1, k2, k3, k4⟩ := mv0.hr.obj l o e
                exact ⟨b, c, ob, by rw [Env.add_other _ _ hl]; exact k1, k2, k3, k4.mono hE⟩
            · have old : ∀ l o b c, l ≠ H.nx → upd H.f H.nx (some (.garr a len ty)) l = some o → (E.add H.nx (q, 0)).ρ l = some (b, c) → b < w.heap.size ∧ H.f l = some o ∧ E.ρ l = some (b, c) := fun l o b c hl h1 h2 => by
                rw [upd_other _ _ hl] at h1
                rw [Env.add_other _ _ hl] at h2
                exact ⟨hr.lt h1 h2, h1, h2⟩
              by_cases hl : l = H.nx
              · by_cases hl' : l' = H.nx
                · rw [hl, hl']
                · subst hl
                  rw [Env.add_same] at e3; cases e3
                  have := (old _ _ _ _ hl' e2 e4).1
                  omega
              · obtain ⟨k1, k2, k3⟩ := old _ _ _ _ hl e1 e3
                by_cases hl' : l' = H.nx
                · subst hl'
                  rw [Env.add_same] at e4; cases e4
                  omega
                · obtain ⟨_, k5, k6⟩ := old _ _ _ _ hl' e2 e4
                  exact hr.inj _ _ _ _ _ _ _ k2 k5 k3 k6
            · by_cases hl : l = H.nx
              · subst hl
                rw [Env.add_same] at e2; cases e2
                exact .inl hq
              · rw [upd_other _ _ hl] at e1
                rw [Env.add_other _ _ hl] at e2
                exact .inr ⟨l, o, c, e1, e2⟩
            · by_cases hl : l = H.nx
              · subst hl; exact .inr (Nat.le_refl _)
              · rw [Env.add_other _ _ hl] at e; exact .inl e
      · cases h
    · cases h
  · cases h
end
end Go.Ai
