/- What one operation comes to, on abstract values. -/
import Derived.Test.YtfedjkcigdgcoaaGreatDoorAiLx
import Derived.Conc.LoneSelect
namespace Go.Ai
open Go Go.RowKit
set_option linter.unusedVariables false
inductive K3 where
  | rd (v : AV)
  | al (o : AObj) (mk : P → AV)
  | wv (v : AV) (H : Hp)
  | wu (H : Hp)
  | call (f : FuncId) (args : List AV)
  | yield (l : P) (args : List AV)
  | defer (f : FuncId) (args cap : List AV)
  | recover
  | pan (v : AV)
  | sel (v : AV)
  | err (n : Nat)
def K3.ofR (n : Nat) : Option AV → K3
  | some v => .rd v
  | none => .err n
def K3.ofA (n : Nat) : Option (AObj × (P → AV)) → K3
  | some (o, mk) => .al o mk
  | none => .err n
def K3.ofP (n : Nat) : Option AObj → K3
  | some o => .al o (fun l => .ptr l 0)
  | none => .err n
def K3.ofW (n : Nat) : Option (AV × Hp) → K3
  | some (v, H) => .wv v H
  | none => .err n
def K3.ofU (n : Nat) : Option Hp → K3
  | some H => .wu H
  | none => .err n
def hasBody (G : Program) (f : FuncId) : Bool := match G.funcs[f]? with
  | some fn => !(fn.name == "runtime.NumGoroutine") && fn.body.isSome
  | none => false
/-- operands that may lack -/
noncomputable def evOpt (ev : Operand → Option AV) : Option Operand → Option (Option AV)
  | none => some none
  | some x => match ev x with
    | some v => some (some v)
    | none => none
noncomputable def partsO (ev : Operand → Option AV) (ps : List (Nat × Operand)) : Option (List (Nat × AV)) :=
  mapO (fun p => match ev p.2 with | some v => some (p.1, v) | none => none) ps
def min2O (x y : AV) : Option AV := match x, y with
  | .int k (.lit a), .int _ (.lit b) => some (.int k (.lit (match ltI b a with | true => b | false => a)))
  | _, _ => none
def minO (l : List AV) : Option AV := match l with
  | [x, y] => min2O x y
  | _ => none
noncomputable def extK (G : Program) (f : FuncId) (args : List AV) : K3 := match G.funcs[f]? with
  | some fn => match extO fn args with
    | some v => .rd v
    | none => K3.ofA 21 (mnzO G fn args)
  | none => .err 21
noncomputable def callK (G : Program) (cf : Cf) (c : Call) (ev : Operand → Option AV) (H : Hp) : K3 :=
  match mapO ev c.args.toList with
  | none => .err 20
  | some args => match c.callee with
    | .value f => match ev f with
      | some (.fn (.func f) first cap) => match hasBody G f with
        | true => .call f ((first ++ args) ++ cap)
        | false => extK G f ((first ++ args) ++ cap)
      | some (.fn (.yield l) first _) => .yield l (first ++ args)
      | _ => .err 22
    | .invoke _ _ => .err 23
    | .builtin b => match b with
      | .append => match c.argTypes.toList, args with
        | [t, xt], [s, x] => appendK G t xt s x H (K3.ofW 24)
        | _, _ => .err 25
      | .copy => match c.argTypes.toList, args with
        | [t, _], [d, s] => copyK G t d s H (K3.ofW 26)
        | _, _ => .err 27
      | .delete => match c.argTypes.toList, args with
        | [t, _], [m, k] => mapDelK cf G t m k H (K3.ofW 28)
        | _, _ => .err 29
      | .len => match c.argTypes.toList, args with
        | [t], [x] => K3.ofR 30 (lenO G H.tab t x)
        | _, _ => .err 31
      | .min => K3.ofR 32 (minO args)
      | .cap => match c.argTypes.toList, args with
        | [t], [x] => K3.ofR 35 (capO' G t x)
        | _, _ => .err 35
      | .unsafeSliceData => match c.argTypes.toList, args with
        | [t], [x] => K3.ofR 36 (sdO x)
        | _, _ => .err 36
      | .unsafeString => match c.argTypes.toList, args with
        | [t, _], [p, n] => ustrK cf G t p n H (K3.ofW 37)
        | _, _ => .err 37
      | .close => match args with
        | [.chan l] => match PT.get l H.tab with
          | some (.chan false) => PT.putK l H.tab (some (.chan true)) (fun t => .wv (.tup []) ⟨H.nx, t⟩)
          | _ => .err 34
        | _ => .err 34
      | .recover => .recover
      | _ => .err 33
/-- a select of one receive, with a default: the channel has no buffered value -/
noncomputable def selK (G : Program) (cases : List SelectCase) (ev : Operand → Option AV) (H : Hp) : K3 := match cases with
  | [s] => match s.send with
    | none => match ev s.chan with
      | some (.chan l) => match PT.get l H.tab with
        | some (.chan cl) => match zeroO G s.elem with
          | some z => .sel (.tup [.int .i64 (.lit (Bool.rec (.negSucc (nat_lit 0)) (.ofNat (nat_lit 0)) cl)), .bool false, z])
          | none => .err 51
        | _ => .err 51
      | _ => .err 51
    | some _ => .err 51
  | _ => .err 51
/-- two nils of an interface's type: one of them the literal -/
def litOp : Operand → Operand → Bool
  | .const _, _ => true
  | _, .const _ => true
  | _, _ => false
def nilSame (G : Program) (op : BinOp) (t : TypeId) (xo yo : Operand) : Option Bool := match G.underlying t, litOp xo yo, op with
  | some (.interface _), true, .eql => some true
  | some (.interface _), true, .neq => some false
  | _, _, _ => none
noncomputable def binOpN {R : Type} (cf : Cf) (G : Program) (op : BinOp) (t : TypeId) (xo yo : Operand) (x y : AV) (K : Option AV → R) : R := match x with
  | .if0 => match y with
    | .if0 => match nilSame G op t xo yo with
      | some r => K (some (.bool r))
      | none => K none
    | _ => binOpK cf G op t x y K
  | _ => binOpK cf G op t x y K
/-- a slice of bytes to its own type: the row gets a mark behind its end -/
noncomputable def slcO (G : Program) (tab : PT AObj) (s d : TypeId) (v : AV) : Bool := match v with
  | .sl l _ len _ => match Nat.beq s d, Nat.ble 1 len, PT.get l tab with
    | true, true, some (.cells _ _ _) => match G.underlying s with
      | some (.slice e) => match G.underlying e with
        | some (.int .u8) => true
        | _ => false
      | _ => false
    | _, _, _ => false
  | _ => false
noncomputable def cvtK (G : Program) (cf : Cf) (s d : TypeId) (v : AV) (H : Hp) : K3 := match slcO G H.tab s d v with
  | true => .wv v H
  | false => match v with
    | .ptr l o => K3.ofR 15 (unsO G H.tab s d (.ptr l o))
    | v => convIK G cf H.tab s d v (K3.ofR 15)
noncomputable def opK (G : Program) (cf : Cf) (o : Oper) (ev : Operand → Option AV) (H : Hp) : K3 :=
  match o.op with
  | .move x => K3.ofR 1 (ev x)
  | .assign x => K3.ofR 1 (ev x)
  | .load t a => match ev a with | some p => K3.ofR 2 (loadG cf G H.tab t p) | none => .err 2
  | .fieldAddr s x f => match ev x with | some v => K3.ofR 3 (fieldAddrO G s v f) | none => .err 3
  | .binOp op t x y _ => match ev x, ev y with | some a, some b => binOpN cf G op t x y a b (K3.ofR 4) | _, _ => .err 4
  | .call c => callK G cf c ev H
  | .nilCheck x => match ev x with | some v => K3.ofR 5 (nilChkO v) | none => .err 5
  | .indexAddr t x i => match ev x, ev i with | some a, some b => K3.ofR 6 (indexAddrO G t a b) | _, _ => .err 6
  | .store t a x => match ev a, ev x with | some p, some v => storeK G t p v H (K3.ofU 7) | _, _ => .err 7
  | .pick c a b => match ev c with | some (.bool r) => K3.ofR 8 (Bool.rec (ev b) (ev a) r) | _ => .err 8
  | .extract t i => match ev t with | some v => K3.ofR 9 (extractO v i) | none => .err 9
  | .build t ps => match partsO ev ps.toList with | some ps => K3.ofR 10 (buildO G t ps) | none => .err 10
  | .buildSlice t n ps => match partsO ev ps.toList with | some ps => K3.ofA 11 (buildSlO G t n ps) | none => .err 11
  | .unOp op _ x => match ev x with | some v => unK cf op v (K3.ofR 12) | none => .err 12
  | .box t x => match ev x with | some v => K3.ofP 13 (boxO t v) | none => .err 13
  | .alloc t => K3.ofP 14 (allocO G t)
  | .convert s d x => match ev x with | some v => cvtK G cf s d v H | none => .err 15
  | .makeFunc (.func f) first cap => match mapO ev first.toList, mapO ev cap.toList with | some a, some b => .rd (.fn (.func f) a b) | _, _ => .err 16
  | .slice t x lo hi none => match ev x, evOpt ev lo, evOpt ev hi with | some v, some a, some b => K3.ofR 17 (sliceO G t v a b) | _, _, _ => .err 17
  | .slice t x lo hi (some m) => match ev x, evOpt ev lo, evOpt ev hi, ev m with | some v, some a, some b, some c => K3.ofR 19 (slice3O G t v a b c) | _, _, _, _ => .err 19
  | .lookup t x k ok => match ev x, ev k with | some a, some b => K3.ofR 18 (lookO cf G H.tab t a b ok) | _, _ => .err 18
  | .index t x i => match ev x, ev i with | some a, some b => K3.ofR 19 (indexO G t a b) | _, _ => .err 19
  | .panic x => match ev x with | some (.iface t v) => .pan (.iface t v) | _ => .err 40
  | .makeSlice t l c => match ev l, ev c with | some a, some b => K3.ofA 41 (makeO G t a b) | _, _ => .err 41
  | .mapUpdate t m k x => match ev m, ev k, ev x with | some m, some k, some v => mapPutK cf G t m k v H (K3.ofU 42) | _, _, _ => .err 42
  | .insert t m k x => match ev m, ev k, ev x with | some m, some k, some v => mapPutK cf G t m k v H (K3.ofU 42) | _, _, _ => .err 42
  | .range t x => match ev x with | some v => K3.ofA 47 (rangeO G H.tab t v) | none => .err 47
  | .next it s => match ev it with | some v => nextK v s H (K3.ofW 48) | none => .err 48
  | .entry it => match ev it with | some v => K3.ofR 49 (entryO H.tab v) | none => .err 49
  | .makeInterface t x => match ev x with | some v => K3.ofR 43 (mkIfaceO G t v) | none => .err 43
  | .makeMap _ none => .al (.map [] 0) .map
  | .defer c => match mapO ev c.args.toList, c.callee with
    | some args, .value f => match ev f with
      | some (.fn (.func f) first cap) => .defer f (first ++ args) cap
      | _ => .err 44
    | _, _ => .err 44
  | .typeAssert x xt t ok => match ev x with | some v => K3.ofR 45 (assertO G v xt t ok) | none => .err 45
  | .field t x f => match ev x with | some v => K3.ofR 46 (fieldO G t v f) | none => .err 46
  | .makeChan t n => match ev n with | some v => K3.ofA 52 (makeChanO G t v) | none => .err 52
  | .select cases blocking => match blocking with
    | false => selK G cases.toList ev H
    | true => .err 51
  | _ => .err 50
section
variable {G : Program} {W0 : World} {E : Env} {nx : Nat} {w : World} {cf : Cf}
def OpR (G : Program) (W0 : World) (E : Env) (H : Hp) (w : World) (s : Sem Next) : K3 → Prop
  | .rd v => ∃ x, s.run G w = .ok (.value x) w ∧ VR E v x
  | .al obj mk => ∃ ob x n c, s.run G w = .ok (.value x) { w with heap := w.heap.push ob, drawn := w.drawn + n } ∧ ∀ E' l, E.le E' → E'.ρ l = some (w.heap.size, c) → OR G E' c obj ob ∧ VR E' (mk l) x
  | .wv v H' => ∃ z w' E', s.run G w = .ok (.value z) w' ∧ Mv G W0 E H.f H.nx.toNat w E' H'.f H'.nx.toNat w' ∧ VR E' v z
  | .wu H' => ∃ w' E', s.run G w = .ok .skip w' ∧ Mv G W0 E H.f H.nx.toNat w E' H'.f H'.nx.toNat w'
  | .call f args => ∃ xs : List Value, s.run G w = .ok (.enter f xs.toArray) w ∧ VRs E args xs
  | .yield l args => ∃ b c, ∃ xs : List Value, E.ρ l = some (b, c) ∧ s.run G w = (Instr.yield b xs.toArray).run G w ∧ VRs E args xs
  | .defer f args cap => ∃ xs ys : List Value, s.run G w = .ok (.defer { target := .fn (.func f) ys.toArray, args := xs.toArray }) w ∧ VRs E args xs ∧ VRs E cap ys
  | .recover => s.run G w = .ok .recover w
  | .pan v => ∃ x, s.run G w = .halt (.panic x) w ∧ VR E v x
  | .sel v => ∃ c z cap sn rc cl tm, s.run G w = .ok (.comm #[Conc.rcase c z] false .select) w ∧ w.heap[c]? = some (.chan cap #[] cl sn rc tm) ∧ VR E v (.tuple #[goInt (Bool.rec (-1) 0 cl), .bool false, z])
  | .err _ => True
theorem valRun {s : Sem Value} {z : Value} {w' : World} (h : s.run G w = .ok z w') : (do pure (.value (← s)) : Sem Next).run G w = .ok (.value z) w' := by simp [h]
theorem OpR.ofR {H : Hp} {s : Sem Value} {n : Nat} {r : Option AV} (h : ∀ v, r = some v → ∃ z, s.run G w = .ok z w ∧ VR E v z) : OpR G W0 E H w (do pure (.value (← s))) (K3.ofR n r) := by
  cases r with
  | none => trivial
  | some v => obtain ⟨z, h1, h2⟩ := h v rfl; exact ⟨z, valRun h1, h2⟩
theorem OpR.ofA {H : Hp} {s : Sem Value} {n : Nat} {r : Option (AObj × (P → AV))} (h : ∀ o mk, r = some (o, mk) → AlR G E w o mk s) : OpR G W0 E H w (do pure (.value (← s))) (K3.ofA n r) := by
  cases r with
  | none => trivial
  | some p => obtain ⟨o, mk⟩ := p; obtain ⟨ob, x, k, c, h1, h2⟩ := h o mk rfl; exact ⟨ob, x, k, c, valRun h1, h2⟩
theorem OpR.ofP {H : Hp} {s : Sem Value} {n : Nat} {r : Option AObj} (h : ∀ o, r = some o → AlR G E w o (fun l => .ptr l 0) s) : OpR G W0 E H w (do pure (.value (← s))) (K3.ofP n r) := by
  cases r with
  | none => trivial
  | some o => obtain ⟨ob, x, k, c, h1, h2⟩ := h o rfl; exact ⟨ob, x, k, c, valRun h1, h2⟩
theorem OpR.ofW {H : Hp} {s : Sem Value} {n : Nat} {r : Option (AV × Hp)} (h : AppR G W0 E H w r s) : OpR G W0 E H w (do pure (.value (← s))) (K3.ofW n r) := by
  cases r with
  | none => trivial
  | some p => obtain ⟨v, H'⟩ := p; obtain ⟨z, w', E', h1, h2, h3⟩ := h v H' rfl; exact ⟨z, w', E', valRun h1, h2, h3⟩
theorem OpR.ofU {H : Hp} {s : Sem Unit} {n : Nat} {r : Option Hp} (h : AppU G W0 E H w r s) : OpR G W0 E H w (do s; pure .skip) (K3.ofU n r) := by
  cases r with
  | none => trivial
  | some H' => obtain ⟨w', E', h1, h2⟩ := h H' rfl; exact ⟨w', E', by simp [h1], h2⟩
theorem parts_ok {ev : Operand → Option AV} {ρ : Operand → Value} (h : EvR E ev ρ) : ∀ (l : List (Nat × Operand)) {r : List (Nat × AV)}, partsO ev l = some r → PR E r (l.map fun (i, x) => (i, ρ x))
  | [], r, e => by cases e; exact .nil
  | (i, x) :: l, r, e => by
    obtain ⟨b, bs, h1, h2, rfl⟩ := mapO_cons _ _ _ e
    split at h1
    · rename_i v hv; cases h1; exact .cons (h x v hv) (parts_ok h l h2)
    · cases h1
theorem evOpt_ok {ev : Operand → Option AV} {ρ : Operand → Value} (h : EvR E ev ρ) {x : Option Operand} {r : Option AV} (e : evOpt ev x = some r) : OV E r (x.map ρ) := by
  cases x with
  | none => cases e; exact .none
  | some x =>
    cases hv : ev x with
    | none => simp [evOpt, hv] at e
    | some v => simp [evOpt, hv] at e; subst e; exact .some (h x v hv)
theorem hasBody_run {f : FuncId} (h : hasBody G f = true) (args : Array Value) : (callFunc f args).run G w = .ok (.enter f args) w := by
  unfold hasBody at h
  split at h
  · rename_i fn hf
    simp only [Bool.and_eq_true, Bool.not_eq_true'] at h
    obtain ⟨h1, h2⟩ := h
    have h3 : fn.name ≠ "runtime.NumGoroutine" := beq_eq_false_iff_ne.1 h1
    have h4 : fn.body ≠ none := fun e => by rw [e] at h2; cases h2
    simp [callFunc, hf, h3, h4]
  · cases h
theorem VRs.arr {E : Env} {as : List AV} {a : Array Value} (h : VRs E as a.toList) : ∃ xs : List Value, a = xs.toArray ∧ VRs E as xs := ⟨a.toList, by simp, h⟩
theorem len_eq_two {α : Type} {a : Array α} {x y : α} (h : a.toList = [x, y]) : a = #[x, y] := by apply Array.ext'; simpa using h
theorem len_eq_one {α : Type} {a : Array α} {x : α} (h : a.toList = [x]) : a = #[x] := by apply Array.ext'; simpa using h
theorem min2O_ok {x y v : AV} {x' y' : Value} (hx : VR E x x') (hy : VR E y y') (h : min2O x y = some v) : ∃ z, (Builtin.min2 x' y').run G w = .ok z w ∧ VR E v z := by
  unfold min2O at h
  split at h
  · rename_i k a k' b
    cases hx; cases hy
    cases h
    refine ⟨.int k (if b < a then b else a), rfl, ?_⟩
    rw [ltI_eq]
    by_cases hlt : b < a
    · simp only [hlt, decide_true, if_true]; exact .int k (.lit b)
    · simp only [hlt, decide_false, if_false]; exact .int k (.lit a)
  · cases h
theorem callK_ok (hcf : cf.ok E.σ) {H : Hp} (hr : HR G W0 E H.f H.nx.toNat w) {c : Call} {ty : TypeId} {ev : Operand → Option AV} {ρ : Operand → Value} (hev : EvR E ev ρ) :
    OpR G W0 E H w (do let d ← resolve ρ c ty; invoke d.target d.args) (callK G cf c ev H) := by
  unfold callK
  cases hargs : mapO ev c.args.toList with
  | none => trivial
  | some args =>
    have hvs := mapO_ev hev _ hargs
    have hmap : (c.args.map ρ).toList = c.args.toList.map ρ := by simp
    simp only
    cases hc : c.callee with
    | invoke r nm => trivial
    | value f =>
      simp only
      split
      · rename_i g first cap hf
        have hfv := hev f _ hf
        split
        · rename_i hb
          generalize hρ : ρ f = fv at hfv
          cases hfv with
          | fn hfn h1 h2 =>
            cases hfn with
            | func =>
              rename_i first' cap'
              refine ⟨(first' ++ c.args.toList.map ρ) ++ cap', ?_, (h1.append hvs).append h2⟩
              simp only [resolve, hc, hρ, Deferred.ofValue, Sem.run_bind, Sem.run_pure, Result.andThen_ok, invoke]
              rw [hasBody_run hb]
              congr 2
              apply Array.ext'; simp
        · generalize hρ : ρ f = fv at hfv
          cases hfv with
          | fn hfn h1 h2 =>
            cases hfn with
            | func =>
              rename_i first' cap'
              have hxs := (h1.append hvs).append h2
              have heq : (do let d ← resolve ρ c ty; invoke d.target d.args : Sem Next).run G w = (callFunc g ((first' ++ c.args.toList.map ρ) ++ cap').toArray).run G w := by
                simp only [resolve, hc, hρ, Deferred.ofValue, Sem.run_bind, Sem.run_pure, Result.andThen_ok, invoke]
                congr 2
                apply Array.ext'; simp
              unfold extK
              split
              · rename_i fn hfn'
                split
                · rename_i v hv
                  obtain ⟨z, hz, hvz⟩ := extO_ok (w := w) hfn' hxs hv
                  exact ⟨z, heq.trans hz, hvz⟩
                · cases hm : mnzO G fn ((first ++ args) ++ cap) with
                  | none => trivial
                  | some p =>
                    obtain ⟨o, mk⟩ := p
                    obtain ⟨ob, x, n, c', hz, hal⟩ := mnzO_ok (w := w) hfn' hxs hm
                    exact ⟨ob, x, n, c', heq.trans hz, hal⟩
              · trivial
      · rename_i l first cap hf
        have hfv := hev f _ hf
        generalize hρ : ρ f = fv at hfv
        cases hfv with
        | fn hfn h1 h2 =>
          cases hfn with
          | yield e =>
            rename_i first' cap' b c'
            refine ⟨b, c', first' ++ c.args.toList.map ρ, e, ?_, h1.append hvs⟩
            simp only [resolve, hc, hρ, Deferred.ofValue, Sem.run_bind, Sem.run_pure, Result.andThen_ok, invoke]
            congr 2
            apply Array.ext'; simp
      · trivial
    | builtin b =>
      have hres : ∀ (b : Builtin), c.callee = .builtin b → (do let d ← resolve ρ c ty; invoke d.target d.args : Sem Next).run G w = (builtin b c.argTypes ty (c.args.map fun | .const _ => true | _ => false) (c.args.map ρ)).run G w := by
        intro b hb
        simp only [resolve, hb, Sem.run_bind, Sem.run_pure, Result.andThen_ok, invoke]
        rfl
      have two : ∀ {x y : AV} {t u : TypeId}, c.argTypes.toList = [t, u] → args = [x, y] → ∃ x' y', c.args.map ρ = #[x', y'] ∧ VR E x x' ∧ VR E y y' ∧ c.argTypes = #[t, u] := by
        intro x y t u h1 h2
        subst h2
        cases hl : c.args.toList.map ρ with
        | nil => rw [hl] at hvs; cases hvs
        | cons a l =>
          rw [hl] at hvs
          cases hvs with
          | cons ha hs =>
            cases hs with
            | cons hb hs =>
              cases hs
              exact ⟨_, _, len_eq_two (hmap.trans hl), ha, hb, len_eq_two h1⟩
      have one : ∀ {x : AV} {t : TypeId}, c.argTypes.toList = [t] → args = [x] → ∃ x', c.args.map ρ = #[x'] ∧ VR E x x' ∧ c.argTypes = #[t] := by
        intro x t h1 h2
        subst h2
        cases hl : c.args.toList.map ρ with
        | nil => rw [hl] at hvs; cases hvs
        | cons a l =>
          rw [hl] at hvs
          cases hvs with
          | cons ha hs => cases hs; exact ⟨_, len_eq_one (hmap.trans hl), ha, len_eq_one h1⟩
      have lift : ∀ {s : Sem Value} {k : K3} {b : Builtin}, c.callee = .builtin b → (builtin b c.argTypes ty (c.args.map fun | .const _ => true | _ => false) (c.args.map ρ)) = (do pure (.value (← s))) → OpR G W0 E H w (do pure (.value (← s))) k → OpR G W0 E H w (do let d ← resolve ρ c ty; invoke d.target d.args) k := by
        intro s k b hb he hk
        have hh := hres b hb
        rw [he] at hh
        cases k <;> simp only [OpR] at hk ⊢ <;> first | (rw [hh]; exact hk) | trivial
      simp only
      cases b <;> try exact trivial
      case append =>
        simp only
        split
        · rename_i t xt s x h1
          obtain ⟨s', x', ha, hs, hx, hT⟩ := two h1 rfl
          obtain ⟨r, hr1, hr2⟩ := appendK_ok (R := K3) (xt := xt) hr hs hx ty (K3.ofW 24)
          rw [hr1]
          exact lift hc (by rw [ha, hT]; rfl) (OpR.ofW hr2)
        · trivial
      case copy =>
        simp only
        split
        · rename_i t xt s x h1
          obtain ⟨s', x', ha, hs, hx, hT⟩ := two h1 rfl
          obtain ⟨r, hr1, hr2⟩ := copyK_ok (R := K3) (xt := xt) hr hs hx ty (K3.ofW 26)
          rw [hr1]
          exact lift hc (by rw [ha, hT]; rfl) (OpR.ofW hr2)
        · trivial
      case delete =>
        simp only
        split
        · rename_i t xt s x h1
          obtain ⟨s', x', ha, hs, hx, hT⟩ := two h1 rfl
          obtain ⟨r, hr1, hr2⟩ := mapDelK_ok (R := K3) (xt := xt) hcf hr hs hx ty (K3.ofW 28)
          rw [hr1]
          exact lift hc (by rw [ha, hT]; rfl) (OpR.ofW hr2)
        · trivial
      case len =>
        simp only
        split
        · rename_i t x h1
          obtain ⟨x', ha, hx, hT⟩ := one h1 rfl
          refine lift hc (s := Builtin.len_ #[t] ty #[x']) (by rw [ha, hT]; rfl) (OpR.ofR fun v hv => ?_)
          exact lenO_ok hr hx hv ty
        · trivial
      case min =>
        refine lift hc (s := Builtin.min_ c.argTypes ty (c.args.map ρ)) rfl (OpR.ofR fun v hv => ?_)
        unfold minO at hv
        split at hv
        · rename_i x y
          cases hl : c.args.toList.map ρ with
          | nil => rw [hl] at hvs; cases hvs
          | cons x' l =>
            rw [hl] at hvs
            cases hvs with
            | cons hx hs =>
              cases hs with
              | cons hy hs =>
                cases hs
                rw [len_eq_two (hmap.trans hl)]
                obtain ⟨z, h1, h2⟩ := min2O_ok (G := G) (w := w) hx hy hv
                exact ⟨z, by simp [Builtin.min_, h1], h2⟩
        · cases hv
      case cap =>
        simp only
        split
        · rename_i t x h1
          obtain ⟨x', ha, hx, hT⟩ := one h1 rfl
          exact lift hc (s := Builtin.cap_ #[t] ty #[x']) (by rw [ha, hT]; rfl) (OpR.ofR fun v hv => capO'_ok hx hv)
        · trivial
      case unsafeSliceData =>
        simp only
        split
        · rename_i t x h1
          obtain ⟨x', ha, hx, hT⟩ := one h1 rfl
          exact lift hc (s := Builtin.unsafeSliceData_ #[t] ty #[x']) (by rw [ha, hT]; rfl) (OpR.ofR fun v hv => sdO_ok hx hv)
        · trivial
      case unsafeString =>
        simp only
        split
        · rename_i t it p n h1
          obtain ⟨p', n', ha, hp, hn, hT⟩ := two h1 rfl
          obtain ⟨r, hr1, hr2⟩ := ustrK_ok (R := K3) (pt := t) (it := it) (ty := ty) hcf hr hp hn (K3.ofW 37)
          rw [hr1]
          exact lift hc (by rw [ha, hT]; rfl) (OpR.ofW hr2)
        · trivial
      case close =>
        simp only
        split
        · rename_i l
          split
          · rename_i hl
            cases hl0 : c.args.toList.map ρ with
            | nil => rw [hl0] at hvs; cases hvs
            | cons a q =>
              rw [hl0] at hvs
              cases hvs with
              | cons ha hs =>
                cases hs
                have hargs' := len_eq_one (hmap.trans hl0)
                obtain ⟨b, c', ob, e, _, hb, ho⟩ := hr.obj l _ hl
                cases ho with
                | chan =>
                  rename_i cap sn rc tm
                  cases ha with
                  | chan e' =>
                    rw [e] at e'; cases e'
                    have hmv := setObj_mv (ob := .chan cap #[] true sn rc tm) hr hl e hb (.chan (c := c') (cap := cap) (s := sn) (r := rc) (cl := true) (tm := tm))
                    rw [PT.putK_eq]
                    refine lift hc (s := Builtin.close_ c.argTypes ty (c.args.map ρ)) rfl ?_
                    refine ⟨.tuple #[], _, E, ?_, hmv, VR.tup (vs := []) .nil⟩
                    have hrun : (getObj b).run G w = .ok (.chan cap #[] false sn rc tm) w := by simp [getObj, Sem.run, hb]
                    have hset := setObj_run (G := G) (w := w) (o' := .chan cap #[] true sn rc tm) hb (by simp)
                    rw [hargs']
                    have hcl : ∃ F : Obj → Sem Value, Builtin.close_ c.argTypes ty #[Value.chan (some b)] = (getObj b >>= F) ∧ (F (.chan cap #[] false sn rc tm)).run G w = .ok (.tuple #[]) { w with heap := w.heap.setIfInBounds b (.chan cap #[] true sn rc tm) } := by
                      refine ⟨_, rfl, ?_⟩
                      simp [hset]
                    obtain ⟨F, hF1, hF2⟩ := hcl
                    have hfull : (Builtin.close_ c.argTypes ty #[Value.chan (some b)]).run G w = .ok (.tuple #[]) { w with heap := w.heap.setIfInBounds b (.chan cap #[] true sn rc tm) } := by
                      rw [hF1, Sem.run_bind, hrun]
                      exact hF2
                    exact valRun hfull
          · trivial
        · trivial
      case recover => exact hres _ hc
theorem nil_guard {op : BinOp} {t : TypeId} {xo yo : Operand} (h : litOp xo yo = true) : (eqGuard op t xo yo .nilIface .nilIface).run G w = .ok () w := by
  unfold eqGuard
  cases xo <;> cases yo <;> first | (simp [litOp] at h; done) | (cases op <;> rfl)
theorem nil_eq (d : Nat) {t : TypeId} {ms : Array (String × TypeId)} (hu : G.underlying t = some (.interface ms)) : (Op.equalIn (d + 1) t .nilIface .nilIface).run G w = .ok true w := by
  simp [Op.equalIn, run_underlying hu]
theorem nil_bin {t : TypeId} {ms : Array (String × TypeId)} (hu : G.underlying t = some (.interface ms)) : (binOp .eql t .nilIface .nilIface).run G w = .ok (.bool true) w ∧ (binOp .neq t .nilIface .nilIface).run G w = .ok (.bool false) w := by
  have h : (Op.equal t .nilIface .nilIface).run G w = .ok true w := nil_eq 9999 hu
  constructor <;> simp [binOp, h]
theorem binOpN_ok {R : Type} (hcf : cf.ok E.σ) {op : BinOp} {t : TypeId} {xo yo : Operand} {x y : AV} {x' y' : Value} (hx : VR E x x') (hy : VR E y y') (K : Option AV → R) :
    ∃ r, binOpN cf G op t xo yo x y K = K r ∧ ∀ v, r = some v → ∃ z, (do eqGuard op t xo yo x' y'; binOp op t x' y' : Sem Value).run G w = .ok z w ∧ VR E v z := by
  unfold binOpN
  split
  · split
    · cases hx; cases hy
      split
      · rename_i r hr
        refine ⟨_, rfl, fun v hv => ?_⟩
        cases hv
        unfold nilSame at hr
        split at hr
        · rename_i ms hu hl
          cases hr
          exact ⟨.bool true, by simp only [Sem.run_bind, nil_guard hl, Result.andThen_ok]; exact (nil_bin hu).1, .bool _⟩
        · rename_i ms hu hl
          cases hr
          exact ⟨.bool false, by simp only [Sem.run_bind, nil_guard hl, Result.andThen_ok]; exact (nil_bin hu).2, .bool _⟩
        · cases hr
      · exact ⟨none, rfl, fun v hv => by cases hv⟩
    · exact binOpK_ok hcf hx hy K
  · exact binOpK_ok hcf hx hy K
theorem freeze_run (w : World) (b k : Nat) {arr : Array Value} {ty : TypeId} {fz : Nat × Nat} (hb : w.heap[b]? = some (.cells arr ty fz)) : (w.freeze ⟨b, k, none⟩ 1).heap.size = w.heap.size ∧ (w.freeze ⟨b, k, none⟩ 1).heap[b]? = some (.cells arr ty (if fz.1 = fz.2 then (k, k + 1) else (min fz.1 k, max fz.2 (k + 1)))) ∧ (∀ i, i ≠ b → (w.freeze ⟨b, k, none⟩ 1).heap[i]? = w.heap[i]?) ∧ (w.freeze ⟨b, k, none⟩ 1).os = w.os ∧ (w.freeze ⟨b, k, none⟩ 1).tape = w.tape ∧ (w.freeze ⟨b, k, none⟩ 1).output = w.output := by
  unfold World.freeze
  rw [if_neg (by decide)]
  refine ⟨by simp, ?_, fun i hi => ?_, rfl, rfl, rfl⟩
  · simp only [Array.getElem?_modify, if_true, hb, Option.map_some]
    by_cases h : fz.1 = fz.2 <;> simp [h]
  · simp [Array.getElem?_modify]
    intro e; exact absurd e.symm hi
theorem slc_ok {H : Hp} (hr : HR G W0 E H.f H.nx.toNat w) {s d : TypeId} {v : AV} {x : Value} (hx : VR E v x) (h : slcO G H.tab s d v = true) : OpR G W0 E H w (do pure (.value (← convert s d x))) (.wv v H) := by
  unfold slcO at h
  split at h
  · rename_i l off len cap
    split at h
    · rename_i cs ty opn h1 h2 h3
      have h1 := Nat.eq_of_beq_eq_true h1
      have h2 := Nat.le_of_ble_eq_true h2
      subst h1
      split at h
      · rename_i e hu
        split at h
        · rename_i hu2
          have h3 : H.f l = some (.cells cs ty opn) := h3
          obtain ⟨b, c, arr, fz, pre, rest, e1, hge, hb, hv, ha, hop, hcc, hfz⟩ := hr.row h3
          have hx0 := hx
          cases hx with
          | sl e' haa hle hc =>
            rename_i a b' c' n
            rw [e1] at e'; cases e'
            have haa := haa (by omega)
            subst haa
            obtain ⟨f1, f2, f3, f4, f5, f6⟩ := freeze_run w b arr.size hb
            have hsh : w.shape? b = some (ty, arr.size) := by unfold World.shape?; rw [hb]
            refine ⟨.slice (some ⟨b, off, none⟩) len n, w.freeze ⟨b, arr.size, none⟩ 1, E, ?_, ?_, hx0⟩
            · simp [convert, run_underlying hu, run_underlying hu2, markStringish, hsh]
            · have hset := Mv.set hr h3 e1 (o := .cells cs ty opn) (.cells hv ha hop hcc (by
                unfold Fz at *
                by_cases h : fz.1 = fz.2
                · simp [h]
                · rw [if_neg h]
                  right
                  rcases hfz with hfz | hfz
                  · exact absurd hfz h
                  · simp only; omega)) f1 f2 f3 f4 f5 f6
              have hsame : upd H.f l (some (.cells cs ty opn)) = H.f := by
                funext q
                by_cases hq : q = l
                · subst hq; rw [upd_same]; exact h3.symm
                · rw [upd_other _ _ hq]
              rw [hsame] at hset
              exact hset
        · cases h
      · cases h
    · cases h
  · cases h
theorem opK_ok [GlOk cf.gl W0] (hcf : cf.ok E.σ) {H : Hp} (hr : HR G W0 E H.f H.nx.toNat w) {o : Oper} {ev : Operand → Option AV} {ρ : Operand → Value} (hev : EvR E ev ρ) : OpR G W0 E H w (execOp ρ o) (opK G cf o ev H) := by
  unfold opK execOp
  cases ho : o.op <;> simp only <;> try exact trivial
  case move x =>
    cases hx : ev x with
    | none => trivial
    | some v => exact ⟨ρ x, rfl, hev x v hx⟩
  case assign x =>
    cases hx : ev x with
    | none => trivial
    | some v => exact ⟨ρ x, rfl, hev x v hx⟩
  case pick c a b =>
    split
    · rename_i r hc
      have hcv := hev c _ hc
      have hb : ρ c = .bool r := by generalize ρ c = y at hcv; cases hcv; rfl
      cases r with
      | true =>
        cases ha : ev a with
        | none => trivial
        | some v => exact ⟨ρ a, by simp [hb, asBool], hev a v ha⟩
      | false =>
        cases ha : ev b with
        | none => trivial
        | some v => exact ⟨ρ b, by simp [hb, asBool], hev b v ha⟩
    · trivial
  case alloc t => exact OpR.ofP fun o h => allocO_ok h
  case box t x =>
    cases hx : ev x with
    | none => trivial
    | some v => exact OpR.ofP fun o h => boxO_ok (hev x v hx) h
  case build t ps =>
    cases hp : partsO ev ps.toList with
    | none => trivial
    | some qs => exact OpR.ofR fun v h => buildO_ok (by simpa using parts_ok hev _ hp) h
  case buildSlice t n ps =>
    cases hp : partsO ev ps.toList with
    | none => trivial
    | some qs => exact OpR.ofA fun o mk h => buildSlO_ok (by simpa using parts_ok hev _ hp) h
  case load t a =>
    cases hx : ev a with
    | none => trivial
    | some v => exact OpR.ofR fun u h => loadG_ok hr (hev a v hx) h
  case store t a x =>
    split
    · rename_i p v hp hv
      obtain ⟨r, h1, h2⟩ := storeK_ok (R := K3) (t := t) hr (hev a p hp) (hev x v hv) (K3.ofU 7)
      rw [h1]; exact OpR.ofU h2
    · trivial
  case nilCheck x =>
    cases hx : ev x with
    | none => trivial
    | some v =>
      simp only
      cases hn : nilChkO v with
      | none => trivial
      | some u =>
        have hxv := hev x v hx
        generalize ρ x = y at hxv
        unfold nilChkO at hn
        split at hn <;> first
          | (cases hn; done)
          | (cases hn; cases hxv with
             | ptr e => exact ⟨_, rfl, .ptr e⟩)
          | (cases hn; cases hxv with
             | glob => exact ⟨_, rfl, .glob _ _⟩)
          | (cases hn; cases hxv with
             | iter e => exact ⟨_, rfl, .iter e⟩)
          | (cases hn; cases hxv; rename_i e; exact ⟨_, rfl, .iface _ e⟩)
          | (cases hn; cases hxv with
             | fn hf h1 h2 => cases hf; exact ⟨_, rfl, .fn (.func _) h1 h2⟩)
          | (cases hn; cases hxv with
             | fn hf h1 h2 => cases hf with
               | yield e => exact ⟨_, rfl, .fn (.yield e) h1 h2⟩)
  case binOp op t x y yt =>
    split
    · rename_i a b ha hb
      obtain ⟨r, h1, h2⟩ := binOpN_ok (R := K3) (G := G) (w := w) hcf (op := op) (t := t) (xo := x) (yo := y) (hev x a ha) (hev y b hb) (K3.ofR 4)
      rw [h1]; exact OpR.ofR h2
    · trivial
  case unOp op t x =>
    cases hx : ev x with
    | none => trivial
    | some v =>
      obtain ⟨r, h1, h2⟩ := unK_ok (R := K3) (G := G) (w := w) hcf (op := op) (hev x v hx) (K3.ofR 12)
      simp only; rw [h1]; exact OpR.ofR h2
  case convert s d x =>
    cases hx : ev x with
    | none => trivial
    | some v =>
      simp only
      unfold cvtK
      split
      · rename_i hs
        exact slc_ok hr (hev x v hx) hs
      · split
        · exact OpR.ofR fun u h => unsO_ok hr (hev x _ hx) h
        · obtain ⟨r, h1, h2⟩ := convIK_ok (R := K3) (src := s) (dst := d) hcf hr (hev x _ hx) (K3.ofR 15)
          rw [h1]; exact OpR.ofR h2
  case makeInterface t x =>
    cases hx : ev x with
    | none => trivial
    | some v => exact OpR.ofR fun u h => mkIfaceO_ok (hev x v hx) h
  case makeFunc fn first cap =>
    cases fn <;> try exact trivial
    case func f =>
      simp only
      split
      · rename_i a b ha hb
        have h1 := mapO_ev hev _ ha
        have h2 := mapO_ev hev _ hb
        refine ⟨.func (.func f) (first.map ρ) (cap.map ρ), by simp [Instr.makeFunc], ?_⟩
        have := VR.fn (E := E) (.func f) h1 h2
        have e1 : (first.toList.map ρ).toArray = first.map ρ := by apply Array.ext'; simp
        have e2 : (cap.toList.map ρ).toArray = cap.map ρ := by apply Array.ext'; simp
        rwa [e1, e2] at this
      · trivial
  case makeMap t r =>
    cases r with
    | none =>
      obtain ⟨ob, x, n, c, h1, h2⟩ := mapMk_ok (G := G) (E := E) (w := w) (t := t)
      exact ⟨ob, x, n, c, valRun h1, h2⟩
    | some x => trivial
  case makeSlice t l c =>
    split
    · rename_i a b ha hb
      exact OpR.ofA fun o mk h => makeO_ok (hev l a ha) (hev c b hb) h
    · trivial
  case slice t x lo hi mx =>
    cases mx with
    | some m =>
      simp only
      split
      · rename_i v a b c hv ha hb hc
        exact OpR.ofR fun u h => slice3O_ok (hev x v hv) (evOpt_ok hev ha) (evOpt_ok hev hb) (hev m c hc) h
      · trivial
    | none =>
      simp only
      split
      · rename_i v a b hv ha hb
        exact OpR.ofR fun u h => sliceO_ok (hev x v hv) (evOpt_ok hev ha) (evOpt_ok hev hb) h
      · trivial
  case fieldAddr s x f =>
    cases hx : ev x with
    | none => trivial
    | some v => exact OpR.ofR fun u h => fieldAddrO_ok (hev x v hx) h
  case field s x f =>
    cases hx : ev x with
    | none => trivial
    | some v => exact OpR.ofR fun u h => fieldO_ok (hev x v hx) h
  case indexAddr t x i =>
    split
    · rename_i a b ha hb
      exact OpR.ofR fun u h => indexAddrO_ok (hev x a ha) (hev i b hb) h
    · trivial
  case index t x i =>
    split
    · rename_i a b ha hb
      exact OpR.ofR fun u h => indexO_ok (hev x a ha) (hev i b hb) h
    · trivial
  case lookup t x k ok =>
    split
    · rename_i a b ha hb
      exact OpR.ofR fun u h => lookO_ok hcf hr (hev x a ha) (hev k b hb) h
    · trivial
  case mapUpdate t m k x =>
    split
    · rename_i a b c ha hb hc
      obtain ⟨r, h1, h2⟩ := mapPutK_ok (R := K3) (t := t) hcf hr (hev m a ha) (hev k b hb) (hev x c hc) (K3.ofU 42)
      rw [h1]; exact OpR.ofU h2
    · trivial
  case insert t m k x =>
    split
    · rename_i a b c ha hb hc
      obtain ⟨r, h1, h2⟩ := mapPutK_ok (R := K3) (t := t) hcf hr (hev m a ha) (hev k b hb) (hev x c hc) (K3.ofU 42)
      rw [h1]; exact OpR.ofU h2
    · trivial
  case range t x =>
    cases hx : ev x with
    | none => trivial
    | some v => exact OpR.ofA fun o mk h => rangeO_ok hr (hev x v hx) h
  case next it s =>
    cases hx : ev it with
    | none => trivial
    | some v =>
      obtain ⟨r, h1, h2⟩ := nextK_ok (R := K3) (isStr := s) hr o.type (hev it v hx) (K3.ofW 48)
      simp only; rw [h1]; exact OpR.ofW h2
  case entry it =>
    cases hx : ev it with
    | none => trivial
    | some v => exact OpR.ofR fun u h => entryO_ok hr (hev it v hx) h
  case typeAssert x xt t ok =>
    cases hx : ev x with
    | none => trivial
    | some v => exact OpR.ofR fun u h => assertO_ok (hev x v hx) h
  case extract t i =>
    cases hx : ev t with
    | none => trivial
    | some v => exact OpR.ofR fun u h => extractO_ok (hev t v hx) h
  case call c => exact callK_ok hcf hr hev
  case defer c =>
    split
    · rename_i args f hargs hc
      split
      · rename_i g first cap hf
        have hfv := hev f _ hf
        have hvs := mapO_ev hev _ hargs
        generalize hρ : ρ f = fv at hfv
        cases hfv with
        | fn hfn h1 h2 =>
          cases hfn with
          | func =>
            rename_i first' cap'
            refine ⟨first' ++ c.args.toList.map ρ, cap', ?_, h1.append hvs, h2⟩
            simp only [resolve, hc, hρ, Deferred.ofValue, Sem.run_bind, Sem.run_pure, Result.andThen_ok]
            congr 3
            apply Array.ext'; simp
      · trivial
    · trivial
  case makeChan t n =>
    cases he : ev n with
    | none => trivial
    | some v => exact OpR.ofA (fun o mk h => makeChanO_ok (hev _ _ he) h)
  case select cs bl =>
    cases bl with
    | true => trivial
    | false =>
      show OpR G W0 E H w _ (selK G cs.toList ev H)
      unfold selK
      cases hcs : cs.toList with
      | nil => trivial
      | cons s rest =>
        cases rest with
        | cons s2 rest => trivial
        | nil =>
          simp only
          cases hsend : s.send with
          | some x => trivial
          | none =>
            simp only
            split
            · rename_i l hch
              split
              · rename_i cl hl
                split
                · rename_i z hz
                  obtain ⟨b, c', ob, e, _, hb, ho⟩ := hr.obj l _ hl
                  have hcv := hev _ _ hch
                  obtain ⟨z', hz1, hz2, _⟩ := zeroO_ok (w := w) hz E
                  cases ho with
                  | chan =>
                    rename_i cap sn rc tm
                    generalize hρ : ρ s.chan = cv at hcv
                    cases hcv with
                    | chan e' =>
                      rw [e] at e'; cases e'
                      have harr : cs = #[s] := by apply Array.ext'; simpa using hcs
                      subst harr
                      refine ⟨b, z', cap, sn, rc, cl, tm, ?_, hb, ?_⟩
                      · simp [hsend, hρ, hz1, Conc.rcase]
                      · refine VR.tup (vs := [_, _, _]) (.cons ?_ (.cons (.bool false) (.cons hz2 .nil)))
                        cases cl with
                        | false => exact .int .i64 (.lit (-1))
                        | true => exact .int .i64 (.lit 0)
                · trivial
              · trivial
            · trivial
  case panic x =>
    split
    · rename_i t v hx
      have hxv := hev x _ hx
      generalize hρ : ρ x = y at hxv
      cases hxv with
      | iface _ hv =>
        exact ⟨_, by simp [Instr.panic], .iface t hv⟩
    · trivial
end
end Go.Ai
