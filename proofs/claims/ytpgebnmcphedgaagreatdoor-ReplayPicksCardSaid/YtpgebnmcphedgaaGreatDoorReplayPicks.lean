/- gneiss/gneisslaw24.ReplayPicks answers true at every input, and leaves its arguments as they were. No conditions. -/
import Derived.Test.YtpgebnmcphedgaaGreatDoorRows
import Derived.WalkKit
import Derived.ProofKit
import Derived.OpenShut
import Derived.Below
import Derived.ChangeSame
import Derived.ShutString
import Derived.ChangeOld
import Derived.Test.YtpgebnmcphedgaaGreatDoorReplayPicksR0
import Derived.Test.YtpgebnmcphedgaaGreatDoorReplayPicksR1
import Derived.Test.YtpgebnmcphedgaaGreatDoorReplayPicksR2
import Derived.Test.YtpgebnmcphedgaaGreatDoorReplayPicksR3
import Derived.Test.YtpgebnmcphedgaaGreatDoorReplayPicksR4
import Derived.Test.YtpgebnmcphedgaaGreatDoorReplayPicksR5
import Derived.Test.YtpgebnmcphedgaaGreatDoorReplayPicksR6
import Derived.Test.YtpgebnmcphedgaaGreatDoorReplayPicksR7
import Derived.Test.YtpgebnmcphedgaaGreatDoorReplayPicksR8
import Derived.Test.YtpgebnmcphedgaaGreatDoorReplayPicksR9
import Derived.Test.YtpgebnmcphedgaaGreatDoorReplayPicksR10
import Derived.Test.YtpgebnmcphedgaaGreatDoorReplayPicksR11
import Derived.Test.YtpgebnmcphedgaaGreatDoorReplayPicksR12
import Derived.Test.YtpgebnmcphedgaaGreatDoorReplayPicksR13
import Derived.Test.YtpgebnmcphedgaaGreatDoorReplayPicksR14
import Derived.Test.YtpgebnmcphedgaaGreatDoorReplayPicksR15
import Derived.Test.YtpgebnmcphedgaaGreatDoorLaid
import Derived.Test.YtpgebnmcphedgaaGreatDoorTie
import Derived.Test.YtpgebnmcphedgaaGreatDoorReplayPicksJ
import Derived.Test.YtpgebnmcphedgaaGreatDoorCards
import Derived.SevenTiedAt
namespace Go.Proofs.YtpgebnmcphedgaaGreatDoor.replayPicks
open Go.Ai Go.ChangeShapes Go.WideShapes Go.ChangeAt Go.RowKit
set_option linter.unusedVariables false

theorem own : ownKnob Tryz.prog.godebug = none := by kernel_rfl

section
variable {H : Type} {enc : TypeId × Value → H} {P : Program}
theorem post_of_below {f : Func} {s : ChangeSpec} {apart fresh handsOn again : Bool} {W W' : World} {args : Array Value} {v : Value} {ds gs : List (DataW H)} {before pa pv : List MemPlace}
    (hW : DataW.Whole enc P f.params.toList s.vars apart W args.toList ds gs before)
    (hres : ∀ (b : Nat) (sp : Nat → Bool) (hd : Bool), DataW.TrodAll enc P W' b sp hd f.resultTypes.toList (v.resultList f.resultTypes.size) (s.fn H (ds ++ gs)).results [])
    (hargs : ∀ sp : Nat → Bool, (∀ p ∈ before, sp p.block = true) → DataW.TrodAll enc P W' 0 sp true f.params.toList args.toList (s.fn H (ds ++ gs)).args pa)
    (hvars : ∀ sp : Nat → Bool, (∀ p ∈ before, sp p.block = true) → DataW.TrodVars enc P W' sp s.vars (s.fn H (ds ++ gs)).vars pv)
    (hps : before = pa ++ pv) (hb : Below W.heap.size W W')
    (hok : ∀ (j : Nat) (t : TypeId) (r : Value), f.resultTypes[j]? = some t → (v.resultList f.resultTypes.size)[j]? = some r → Value.okWide P W' .any 0 t r) :
    s.post enc P f apart fresh handsOn again W args v W' := by
  have hlt : ∀ p ∈ before, p.block < W.heap.size := fun p hp => hW.lt p hp
  have hold : ∀ p ∈ before, (fun b => decide (b < W.heap.size)) p.block = true := fun p hp => by simpa using hlt p hp
  refine ⟨ds, gs, before, [], pa, pv, hW, hres _ _ _, hargs _ hold, hvars _ hold, World.keptBut_mono (fun p hp => ⟨hp, ?_⟩) (hb.frame (· ∈ before)), fun _ => ?_⟩
  · rw [hps, List.mem_append] at hp
    exact Or.inr hp
  · obtain ⟨_, _, _, _, _, hz, hn⟩ := hW
    refine ⟨hok, _, _, ([] ++ pa) ++ pv, ⟨[] ++ pa, pv, trodAll_append (hargs _ (fun _ _ => rfl)) (hres _ _ _), hvars _ (fun _ _ => rfl), rfl, ?_, ?_⟩, ?_⟩
    · intro b off hp
      have hin : MemPlace.cell b off ∈ before := by rw [hps]; simpa using hp
      rw [hb.frozen (hlt _ hin)]
      exact hz b off hin
    · intro ha
      have := hn ha
      rw [hps] at this
      simpa using this
    · intro p hp _
      rw [hps]
      simpa using hp
end
/-- what the walk is told of the slice that came in -/
def IsRow (k : IntKind) (w : World) (a : Option Addr) (len cap : Nat) (zs : List Int) : Prop :=
  (a = none ∧ len = 0 ∧ cap = 0 ∧ zs = []) ∨
  ∃ x, a = some x ∧ len ≤ cap ∧ cap ≤ maxLen ∧ zs.length = cap ∧ (∀ i, i < zs.length → w.cell? (x.add i) = some (.int k (zs.getD i 0))) ∧ ∀ n ∈ zs, (Lit.int k n).wf = true
/-! ### the walk: by the abstract machine -/
theorem walk0 (x : Addr) (len0 cap0 : Nat) (z0 : List Int) (w : World) (hz : len0 ≤ z0.length) (hmx : cap0 ≤ 9223372036854775807) (hl : len0 ≤ cap0) (hn : 0 ≤ len0) (hn2 : len0 ≤ 0) (hc : ∀ i, i < z0.length → w.cell? (x.add i) = some (.int .i64 (z0.getD i 0))) (hgl : GlOk gl w) :
    Calls Tryz.prog 3 #[.slice (some x) len0 cap0] w fun e w' => e = .returned (.bool true) ∧ Below w.heap.size w w' := by
  have l0 := Lo.zero z0
  exact good (m := 0) (lo := 0) (hi := 0) (k := 0) hz hc hl r0 l0 ⟨hn, hn2⟩ hgl
theorem walk1 (x : Addr) (len0 cap0 : Nat) (z0 : List Int) (w : World) (hz : len0 ≤ z0.length) (hmx : cap0 ≤ 9223372036854775807) (hl : len0 ≤ cap0) (hn : 1 ≤ len0) (hn2 : len0 ≤ 1) (hc : ∀ i, i < z0.length → w.cell? (x.add i) = some (.int .i64 (z0.getD i 0))) (hgl : GlOk gl w) :
    Calls Tryz.prog 3 #[.slice (some x) len0 cap0] w fun e w' => e = .returned (.bool true) ∧ Below w.heap.size w w' := by
  have l0 := Lo.zero z0
  exact good (m := 1) (lo := 1) (hi := 1) (k := 0) hz hc hl r1 l0 ⟨hn, hn2⟩ hgl
theorem walk2 (x : Addr) (len0 cap0 : Nat) (z0 : List Int) (w : World) (hz : len0 ≤ z0.length) (hmx : cap0 ≤ 9223372036854775807) (hl : len0 ≤ cap0) (hn : 2 ≤ len0) (hn2 : len0 ≤ 2) (hc : ∀ i, i < z0.length → w.cell? (x.add i) = some (.int .i64 (z0.getD i 0))) (hgl : GlOk gl w) :
    Calls Tryz.prog 3 #[.slice (some x) len0 cap0] w fun e w' => e = .returned (.bool true) ∧ Below w.heap.size w w' := by
  have l0 := Lo.zero z0
  have B := fun (k : Nat) {es : En} (r : yes (run A0 (cmB k) (ivF 2 2 2) es) = true) h q => bad_ (cap := cap0) (k := k) hz hc hl r h q ⟨hn, hn2⟩ hgl
  by_cases q : pv z0 1 < pv z0 0
  · exact B 0 r2_0 l0 q
  have l1 := l0.succ q
  exact good (m := 2) (lo := 2) (hi := 2) (k := 1) hz hc hl r2 l1 ⟨hn, hn2⟩ hgl
theorem walk3 (x : Addr) (len0 cap0 : Nat) (z0 : List Int) (w : World) (hz : len0 ≤ z0.length) (hmx : cap0 ≤ 9223372036854775807) (hl : len0 ≤ cap0) (hn : 3 ≤ len0) (hn2 : len0 ≤ 3) (hc : ∀ i, i < z0.length → w.cell? (x.add i) = some (.int .i64 (z0.getD i 0))) (hgl : GlOk gl w) :
    Calls Tryz.prog 3 #[.slice (some x) len0 cap0] w fun e w' => e = .returned (.bool true) ∧ Below w.heap.size w w' := by
  have l0 := Lo.zero z0
  have B := fun (k : Nat) {es : En} (r : yes (run A0 (cmB k) (ivF 3 3 3) es) = true) h q => bad_ (cap := cap0) (k := k) hz hc hl r h q ⟨hn, hn2⟩ hgl
  by_cases q : pv z0 1 < pv z0 0
  · exact B 0 r3_0 l0 q
  have l1 := l0.succ q
  by_cases q : pv z0 2 < pv z0 1
  · exact B 1 r3_1 l1 q
  have l2 := l1.succ q
  exact good (m := 3) (lo := 3) (hi := 3) (k := 2) hz hc hl r3 l2 ⟨hn, hn2⟩ hgl
theorem walk4 (x : Addr) (len0 cap0 : Nat) (z0 : List Int) (w : World) (hz : len0 ≤ z0.length) (hmx : cap0 ≤ 9223372036854775807) (hl : len0 ≤ cap0) (hn : 4 ≤ len0) (hn2 : len0 ≤ 4) (hc : ∀ i, i < z0.length → w.cell? (x.add i) = some (.int .i64 (z0.getD i 0))) (hgl : GlOk gl w) :
    Calls Tryz.prog 3 #[.slice (some x) len0 cap0] w fun e w' => e = .returned (.bool true) ∧ Below w.heap.size w w' := by
  have l0 := Lo.zero z0
  have B := fun (k : Nat) {es : En} (r : yes (run A0 (cmB k) (ivF 4 4 4) es) = true) h q => bad_ (cap := cap0) (k := k) hz hc hl r h q ⟨hn, hn2⟩ hgl
  by_cases q : pv z0 1 < pv z0 0
  · exact B 0 r4_0 l0 q
  have l1 := l0.succ q
  by_cases q : pv z0 2 < pv z0 1
  · exact B 1 r4_1 l1 q
  have l2 := l1.succ q
  by_cases q : pv z0 3 < pv z0 2
  · exact B 2 r4_2 l2 q
  have l3 := l2.succ q
  exact good (m := 4) (lo := 4) (hi := 4) (k := 3) hz hc hl r4 l3 ⟨hn, hn2⟩ hgl
theorem walk5 (x : Addr) (len0 cap0 : Nat) (z0 : List Int) (w : World) (hz : len0 ≤ z0.length) (hmx : cap0 ≤ 9223372036854775807) (hl : len0 ≤ cap0) (hn : 5 ≤ len0) (hn2 : len0 ≤ 5) (hc : ∀ i, i < z0.length → w.cell? (x.add i) = some (.int .i64 (z0.getD i 0))) (hgl : GlOk gl w) :
    Calls Tryz.prog 3 #[.slice (some x) len0 cap0] w fun e w' => e = .returned (.bool true) ∧ Below w.heap.size w w' := by
  have l0 := Lo.zero z0
  have B := fun (k : Nat) {es : En} (r : yes (run A0 (cmB k) (ivF 5 5 5) es) = true) h q => bad_ (cap := cap0) (k := k) hz hc hl r h q ⟨hn, hn2⟩ hgl
  by_cases q : pv z0 1 < pv z0 0
  · exact B 0 r5_0 l0 q
  have l1 := l0.succ q
  by_cases q : pv z0 2 < pv z0 1
  · exact B 1 r5_1 l1 q
  have l2 := l1.succ q
  by_cases q : pv z0 3 < pv z0 2
  · exact B 2 r5_2 l2 q
  have l3 := l2.succ q
  by_cases q : pv z0 4 < pv z0 3
  · exact B 3 r5_3 l3 q
  have l4 := l3.succ q
  exact good (m := 5) (lo := 5) (hi := 5) (k := 4) hz hc hl r5 l4 ⟨hn, hn2⟩ hgl
theorem walk6 (x : Addr) (len0 cap0 : Nat) (z0 : List Int) (w : World) (hz : len0 ≤ z0.length) (hmx : cap0 ≤ 9223372036854775807) (hl : len0 ≤ cap0) (hn : 6 ≤ len0) (hn2 : len0 ≤ 6) (hc : ∀ i, i < z0.length → w.cell? (x.add i) = some (.int .i64 (z0.getD i 0))) (hgl : GlOk gl w) :
    Calls Tryz.prog 3 #[.slice (some x) len0 cap0] w fun e w' => e = .returned (.bool true) ∧ Below w.heap.size w w' := by
  have l0 := Lo.zero z0
  have B := fun (k : Nat) {es : En} (r : yes (run A0 (cmB k) (ivF 6 6 6) es) = true) h q => bad_ (cap := cap0) (k := k) hz hc hl r h q ⟨hn, hn2⟩ hgl
  by_cases q : pv z0 1 < pv z0 0
  · exact B 0 r6_0 l0 q
  have l1 := l0.succ q
  by_cases q : pv z0 2 < pv z0 1
  · exact B 1 r6_1 l1 q
  have l2 := l1.succ q
  by_cases q : pv z0 3 < pv z0 2
  · exact B 2 r6_2 l2 q
  have l3 := l2.succ q
  by_cases q : pv z0 4 < pv z0 3
  · exact B 3 r6_3 l3 q
  have l4 := l3.succ q
  by_cases q : pv z0 5 < pv z0 4
  · exact B 4 r6_4 l4 q
  have l5 := l4.succ q
  exact good (m := 6) (lo := 6) (hi := 6) (k := 5) hz hc hl r6 l5 ⟨hn, hn2⟩ hgl
theorem walk7 (x : Addr) (len0 cap0 : Nat) (z0 : List Int) (w : World) (hz : len0 ≤ z0.length) (hmx : cap0 ≤ 9223372036854775807) (hl : len0 ≤ cap0) (hn : 7 ≤ len0) (hn2 : len0 ≤ 7) (hc : ∀ i, i < z0.length → w.cell? (x.add i) = some (.int .i64 (z0.getD i 0))) (hgl : GlOk gl w) :
    Calls Tryz.prog 3 #[.slice (some x) len0 cap0] w fun e w' => e = .returned (.bool true) ∧ Below w.heap.size w w' := by
  have l0 := Lo.zero z0
  have B := fun (k : Nat) {es : En} (r : yes (run A0 (cmB k) (ivF 7 7 7) es) = true) h q => bad_ (cap := cap0) (k := k) hz hc hl r h q ⟨hn, hn2⟩ hgl
  by_cases q : pv z0 1 < pv z0 0
  · exact B 0 r7_0 l0 q
  have l1 := l0.succ q
  by_cases q : pv z0 2 < pv z0 1
  · exact B 1 r7_1 l1 q
  have l2 := l1.succ q
  by_cases q : pv z0 3 < pv z0 2
  · exact B 2 r7_2 l2 q
  have l3 := l2.succ q
  by_cases q : pv z0 4 < pv z0 3
  · exact B 3 r7_3 l3 q
  have l4 := l3.succ q
  by_cases q : pv z0 5 < pv z0 4
  · exact B 4 r7_4 l4 q
  have l5 := l4.succ q
  by_cases q : pv z0 6 < pv z0 5
  · exact B 5 r7_5 l5 q
  have l6 := l5.succ q
  exact good (m := 7) (lo := 7) (hi := 7) (k := 6) hz hc hl r7 l6 ⟨hn, hn2⟩ hgl
theorem walk8 (x : Addr) (len0 cap0 : Nat) (z0 : List Int) (w : World) (hz : len0 ≤ z0.length) (hmx : cap0 ≤ 9223372036854775807) (hl : len0 ≤ cap0) (hn : 8 ≤ len0) (hn2 : len0 ≤ 8) (hc : ∀ i, i < z0.length → w.cell? (x.add i) = some (.int .i64 (z0.getD i 0))) (hgl : GlOk gl w) :
    Calls Tryz.prog 3 #[.slice (some x) len0 cap0] w fun e w' => e = .returned (.bool true) ∧ Below w.heap.size w w' := by
  have l0 := Lo.zero z0
  have B := fun (k : Nat) {es : En} (r : yes (run A0 (cmB k) (ivF 8 8 8) es) = true) h q => bad_ (cap := cap0) (k := k) hz hc hl r h q ⟨hn, hn2⟩ hgl
  by_cases q : pv z0 1 < pv z0 0
  · exact B 0 r8_0 l0 q
  have l1 := l0.succ q
  by_cases q : pv z0 2 < pv z0 1
  · exact B 1 r8_1 l1 q
  have l2 := l1.succ q
  by_cases q : pv z0 3 < pv z0 2
  · exact B 2 r8_2 l2 q
  have l3 := l2.succ q
  by_cases q : pv z0 4 < pv z0 3
  · exact B 3 r8_3 l3 q
  have l4 := l3.succ q
  by_cases q : pv z0 5 < pv z0 4
  · exact B 4 r8_4 l4 q
  have l5 := l4.succ q
  by_cases q : pv z0 6 < pv z0 5
  · exact B 5 r8_5 l5 q
  have l6 := l5.succ q
  by_cases q : pv z0 7 < pv z0 6
  · exact B 6 r8_6 l6 q
  have l7 := l6.succ q
  exact good (m := 8) (lo := 8) (hi := 8) (k := 7) hz hc hl r8 l7 ⟨hn, hn2⟩ hgl
theorem walk9 (x : Addr) (len0 cap0 : Nat) (z0 : List Int) (w : World) (hz : len0 ≤ z0.length) (hmx : cap0 ≤ 9223372036854775807) (hl : len0 ≤ cap0) (hn : 9 ≤ len0) (hn2 : len0 ≤ 9) (hc : ∀ i, i < z0.length → w.cell? (x.add i) = some (.int .i64 (z0.getD i 0))) (hgl : GlOk gl w) :
    Calls Tryz.prog 3 #[.slice (some x) len0 cap0] w fun e w' => e = .returned (.bool true) ∧ Below w.heap.size w w' := by
  have l0 := Lo.zero z0
  have B := fun (k : Nat) {es : En} (r : yes (run A0 (cmB k) (ivF 9 9 9) es) = true) h q => bad_ (cap := cap0) (k := k) hz hc hl r h q ⟨hn, hn2⟩ hgl
  by_cases q : pv z0 1 < pv z0 0
  · exact B 0 r9_0 l0 q
  have l1 := l0.succ q
  by_cases q : pv z0 2 < pv z0 1
  · exact B 1 r9_1 l1 q
  have l2 := l1.succ q
  by_cases q : pv z0 3 < pv z0 2
  · exact B 2 r9_2 l2 q
  have l3 := l2.succ q
  by_cases q : pv z0 4 < pv z0 3
  · exact B 3 r9_3 l3 q
  have l4 := l3.succ q
  by_cases q : pv z0 5 < pv z0 4
  · exact B 4 r9_4 l4 q
  have l5 := l4.succ q
  by_cases q : pv z0 6 < pv z0 5
  · exact B 5 r9_5 l5 q
  have l6 := l5.succ q
  by_cases q : pv z0 7 < pv z0 6
  · exact B 6 r9_6 l6 q
  have l7 := l6.succ q
  by_cases q : pv z0 8 < pv z0 7
  · exact B 7 r9_7 l7 q
  have l8 := l7.succ q
  exact good (m := 9) (lo := 9) (hi := 9) (k := 8) hz hc hl r9 l8 ⟨hn, hn2⟩ hgl
theorem walk10 (x : Addr) (len0 cap0 : Nat) (z0 : List Int) (w : World) (hz : len0 ≤ z0.length) (hmx : cap0 ≤ 9223372036854775807) (hl : len0 ≤ cap0) (hn : 10 ≤ len0) (hn2 : len0 ≤ 10) (hc : ∀ i, i < z0.length → w.cell? (x.add i) = some (.int .i64 (z0.getD i 0))) (hgl : GlOk gl w) :
    Calls Tryz.prog 3 #[.slice (some x) len0 cap0] w fun e w' => e = .returned (.bool true) ∧ Below w.heap.size w w' := by
  have l0 := Lo.zero z0
  have B := fun (k : Nat) {es : En} (r : yes (run A0 (cmB k) (ivF 10 10 10) es) = true) h q => bad_ (cap := cap0) (k := k) hz hc hl r h q ⟨hn, hn2⟩ hgl
  by_cases q : pv z0 1 < pv z0 0
  · exact B 0 r10_0 l0 q
  have l1 := l0.succ q
  by_cases q : pv z0 2 < pv z0 1
  · exact B 1 r10_1 l1 q
  have l2 := l1.succ q
  by_cases q : pv z0 3 < pv z0 2
  · exact B 2 r10_2 l2 q
  have l3 := l2.succ q
  by_cases q : pv z0 4 < pv z0 3
  · exact B 3 r10_3 l3 q
  have l4 := l3.succ q
  by_cases q : pv z0 5 < pv z0 4
  · exact B 4 r10_4 l4 q
  have l5 := l4.succ q
  by_cases q : pv z0 6 < pv z0 5
  · exact B 5 r10_5 l5 q
  have l6 := l5.succ q
  by_cases q : pv z0 7 < pv z0 6
  · exact B 6 r10_6 l6 q
  have l7 := l6.succ q
  by_cases q : pv z0 8 < pv z0 7
  · exact B 7 r10_7 l7 q
  have l8 := l7.succ q
  by_cases q : pv z0 9 < pv z0 8
  · exact B 8 r10_8 l8 q
  have l9 := l8.succ q
  exact good (m := 10) (lo := 10) (hi := 10) (k := 9) hz hc hl r10 l9 ⟨hn, hn2⟩ hgl
theorem walk11 (x : Addr) (len0 cap0 : Nat) (z0 : List Int) (w : World) (hz : len0 ≤ z0.length) (hmx : cap0 ≤ 9223372036854775807) (hl : len0 ≤ cap0) (hn : 11 ≤ len0) (hn2 : len0 ≤ 11) (hc : ∀ i, i < z0.length → w.cell? (x.add i) = some (.int .i64 (z0.getD i 0))) (hgl : GlOk gl w) :
    Calls Tryz.prog 3 #[.slice (some x) len0 cap0] w fun e w' => e = .returned (.bool true) ∧ Below w.heap.size w w' := by
  have l0 := Lo.zero z0
  have B := fun (k : Nat) {es : En} (r : yes (run A0 (cmB k) (ivF 11 11 11) es) = true) h q => bad_ (cap := cap0) (k := k) hz hc hl r h q ⟨hn, hn2⟩ hgl
  by_cases q : pv z0 1 < pv z0 0
  · exact B 0 r11_0 l0 q
  have l1 := l0.succ q
  by_cases q : pv z0 2 < pv z0 1
  · exact B 1 r11_1 l1 q
  have l2 := l1.succ q
  by_cases q : pv z0 3 < pv z0 2
  · exact B 2 r11_2 l2 q
  have l3 := l2.succ q
  by_cases q : pv z0 4 < pv z0 3
  · exact B 3 r11_3 l3 q
  have l4 := l3.succ q
  by_cases q : pv z0 5 < pv z0 4
  · exact B 4 r11_4 l4 q
  have l5 := l4.succ q
  by_cases q : pv z0 6 < pv z0 5
  · exact B 5 r11_5 l5 q
  have l6 := l5.succ q
  by_cases q : pv z0 7 < pv z0 6
  · exact B 6 r11_6 l6 q
  have l7 := l6.succ q
  by_cases q : pv z0 8 < pv z0 7
  · exact B 7 r11_7 l7 q
  have l8 := l7.succ q
  by_cases q : pv z0 9 < pv z0 8
  · exact B 8 r11_8 l8 q
  have l9 := l8.succ q
  by_cases q : pv z0 10 < pv z0 9
  · exact B 9 r11_9 l9 q
  have l10 := l9.succ q
  exact good (m := 11) (lo := 11) (hi := 11) (k := 10) hz hc hl r11 l10 ⟨hn, hn2⟩ hgl
theorem walk12 (x : Addr) (len0 cap0 : Nat) (z0 : List Int) (w : World) (hz : len0 ≤ z0.length) (hmx : cap0 ≤ 9223372036854775807) (hl : len0 ≤ cap0) (hn : 12 ≤ len0) (hn2 : len0 ≤ 12) (hc : ∀ i, i < z0.length → w.cell? (x.add i) = some (.int .i64 (z0.getD i 0))) (hgl : GlOk gl w) :
    Calls Tryz.prog 3 #[.slice (some x) len0 cap0] w fun e w' => e = .returned (.bool true) ∧ Below w.heap.size w w' := by
  have l0 := Lo.zero z0
  have B := fun (k : Nat) {es : En} (r : yes (run A0 (cmB k) (ivF 12 12 12) es) = true) h q => bad_ (cap := cap0) (k := k) hz hc hl r h q ⟨hn, hn2⟩ hgl
  by_cases q : pv z0 1 < pv z0 0
  · exact B 0 r12_0 l0 q
  have l1 := l0.succ q
  by_cases q : pv z0 2 < pv z0 1
  · exact B 1 r12_1 l1 q
  have l2 := l1.succ q
  by_cases q : pv z0 3 < pv z0 2
  · exact B 2 r12_2 l2 q
  have l3 := l2.succ q
  by_cases q : pv z0 4 < pv z0 3
  · exact B 3 r12_3 l3 q
  have l4 := l3.succ q
  by_cases q : pv z0 5 < pv z0 4
  · exact B 4 r12_4 l4 q
  have l5 := l4.succ q
  by_cases q : pv z0 6 < pv z0 5
  · exact B 5 r12_5 l5 q
  have l6 := l5.succ q
  by_cases q : pv z0 7 < pv z0 6
  · exact B 6 r12_6 l6 q
  have l7 := l6.succ q
  by_cases q : pv z0 8 < pv z0 7
  · exact B 7 r12_7 l7 q
  have l8 := l7.succ q
  by_cases q : pv z0 9 < pv z0 8
  · exact B 8 r12_8 l8 q
  have l9 := l8.succ q
  by_cases q : pv z0 10 < pv z0 9
  · exact B 9 r12_9 l9 q
  have l10 := l9.succ q
  by_cases q : pv z0 11 < pv z0 10
  · exact B 10 r12_10 l10 q
  have l11 := l10.succ q
  exact good (m := 12) (lo := 12) (hi := 12) (k := 11) hz hc hl r12 l11 ⟨hn, hn2⟩ hgl
theorem walk13 (x : Addr) (len0 cap0 : Nat) (z0 : List Int) (w : World) (hz : len0 ≤ z0.length) (hmx : cap0 ≤ 9223372036854775807) (hl : len0 ≤ cap0) (hn : 13 ≤ len0) (hn2 : len0 ≤ 13) (hc : ∀ i, i < z0.length → w.cell? (x.add i) = some (.int .i64 (z0.getD i 0))) (hgl : GlOk gl w) :
    Calls Tryz.prog 3 #[.slice (some x) len0 cap0] w fun e w' => e = .returned (.bool true) ∧ Below w.heap.size w w' := by
  have l0 := Lo.zero z0
  have B := fun (k : Nat) {es : En} (r : yes (run A0 (cmB k) (ivF 13 13 13) es) = true) h q => bad_ (cap := cap0) (k := k) hz hc hl r h q ⟨hn, hn2⟩ hgl
  by_cases q : pv z0 1 < pv z0 0
  · exact B 0 r13_0 l0 q
  have l1 := l0.succ q
  by_cases q : pv z0 2 < pv z0 1
  · exact B 1 r13_1 l1 q
  have l2 := l1.succ q
  by_cases q : pv z0 3 < pv z0 2
  · exact B 2 r13_2 l2 q
  have l3 := l2.succ q
  by_cases q : pv z0 4 < pv z0 3
  · exact B 3 r13_3 l3 q
  have l4 := l3.succ q
  by_cases q : pv z0 5 < pv z0 4
  · exact B 4 r13_4 l4 q
  have l5 := l4.succ q
  by_cases q : pv z0 6 < pv z0 5
  · exact B 5 r13_5 l5 q
  have l6 := l5.succ q
  by_cases q : pv z0 7 < pv z0 6
  · exact B 6 r13_6 l6 q
  have l7 := l6.succ q
  by_cases q : pv z0 8 < pv z0 7
  · exact B 7 r13_7 l7 q
  have l8 := l7.succ q
  by_cases q : pv z0 9 < pv z0 8
  · exact B 8 r13_8 l8 q
  have l9 := l8.succ q
  by_cases q : pv z0 10 < pv z0 9
  · exact B 9 r13_9 l9 q
  have l10 := l9.succ q
  by_cases q : pv z0 11 < pv z0 10
  · exact B 10 r13_10 l10 q
  have l11 := l10.succ q
  by_cases q : pv z0 12 < pv z0 11
  · exact B 11 r13_11 l11 q
  have l12 := l11.succ q
  exact good (m := 13) (lo := 13) (hi := 13) (k := 12) hz hc hl r13 l12 ⟨hn, hn2⟩ hgl
theorem walk14 (x : Addr) (len0 cap0 : Nat) (z0 : List Int) (w : World) (hz : len0 ≤ z0.length) (hmx : cap0 ≤ 9223372036854775807) (hl : len0 ≤ cap0) (hn : 14 ≤ len0) (hn2 : len0 ≤ 14) (hc : ∀ i, i < z0.length → w.cell? (x.add i) = some (.int .i64 (z0.getD i 0))) (hgl : GlOk gl w) :
    Calls Tryz.prog 3 #[.slice (some x) len0 cap0] w fun e w' => e = .returned (.bool true) ∧ Below w.heap.size w w' := by
  have l0 := Lo.zero z0
  have B := fun (k : Nat) {es : En} (r : yes (run A0 (cmB k) (ivF 14 14 14) es) = true) h q => bad_ (cap := cap0) (k := k) hz hc hl r h q ⟨hn, hn2⟩ hgl
  by_cases q : pv z0 1 < pv z0 0
  · exact B 0 r14_0 l0 q
  have l1 := l0.succ q
  by_cases q : pv z0 2 < pv z0 1
  · exact B 1 r14_1 l1 q
  have l2 := l1.succ q
  by_cases q : pv z0 3 < pv z0 2
  · exact B 2 r14_2 l2 q
  have l3 := l2.succ q
  by_cases q : pv z0 4 < pv z0 3
  · exact B 3 r14_3 l3 q
  have l4 := l3.succ q
  by_cases q : pv z0 5 < pv z0 4
  · exact B 4 r14_4 l4 q
  have l5 := l4.succ q
  by_cases q : pv z0 6 < pv z0 5
  · exact B 5 r14_5 l5 q
  have l6 := l5.succ q
  by_cases q : pv z0 7 < pv z0 6
  · exact B 6 r14_6 l6 q
  have l7 := l6.succ q
  by_cases q : pv z0 8 < pv z0 7
  · exact B 7 r14_7 l7 q
  have l8 := l7.succ q
  by_cases q : pv z0 9 < pv z0 8
  · exact B 8 r14_8 l8 q
  have l9 := l8.succ q
  by_cases q : pv z0 10 < pv z0 9
  · exact B 9 r14_9 l9 q
  have l10 := l9.succ q
  by_cases q : pv z0 11 < pv z0 10
  · exact B 10 r14_10 l10 q
  have l11 := l10.succ q
  by_cases q : pv z0 12 < pv z0 11
  · exact B 11 r14_11 l11 q
  have l12 := l11.succ q
  by_cases q : pv z0 13 < pv z0 12
  · exact B 12 r14_12 l12 q
  have l13 := l12.succ q
  exact good (m := 14) (lo := 14) (hi := 14) (k := 13) hz hc hl r14 l13 ⟨hn, hn2⟩ hgl
theorem walk15 (x : Addr) (len0 cap0 : Nat) (z0 : List Int) (w : World) (hz : len0 ≤ z0.length) (hmx : cap0 ≤ 9223372036854775807) (hl : len0 ≤ cap0) (hn : 15 ≤ len0) (hn2 : len0 ≤ 15) (hc : ∀ i, i < z0.length → w.cell? (x.add i) = some (.int .i64 (z0.getD i 0))) (hgl : GlOk gl w) :
    Calls Tryz.prog 3 #[.slice (some x) len0 cap0] w fun e w' => e = .returned (.bool true) ∧ Below w.heap.size w w' := by
  have l0 := Lo.zero z0
  have B := fun (k : Nat) {es : En} (r : yes (run A0 (cmB k) (ivF 15 15 15) es) = true) h q => bad_ (cap := cap0) (k := k) hz hc hl r h q ⟨hn, hn2⟩ hgl
  by_cases q : pv z0 1 < pv z0 0
  · exact B 0 r15_0 l0 q
  have l1 := l0.succ q
  by_cases q : pv z0 2 < pv z0 1
  · exact B 1 r15_1 l1 q
  have l2 := l1.succ q
  by_cases q : pv z0 3 < pv z0 2
  · exact B 2 r15_2 l2 q
  have l3 := l2.succ q
  by_cases q : pv z0 4 < pv z0 3
  · exact B 3 r15_3 l3 q
  have l4 := l3.succ q
  by_cases q : pv z0 5 < pv z0 4
  · exact B 4 r15_4 l4 q
  have l5 := l4.succ q
  by_cases q : pv z0 6 < pv z0 5
  · exact B 5 r15_5 l5 q
  have l6 := l5.succ q
  by_cases q : pv z0 7 < pv z0 6
  · exact B 6 r15_6 l6 q
  have l7 := l6.succ q
  by_cases q : pv z0 8 < pv z0 7
  · exact B 7 r15_7 l7 q
  have l8 := l7.succ q
  by_cases q : pv z0 9 < pv z0 8
  · exact B 8 r15_8 l8 q
  have l9 := l8.succ q
  by_cases q : pv z0 10 < pv z0 9
  · exact B 9 r15_9 l9 q
  have l10 := l9.succ q
  by_cases q : pv z0 11 < pv z0 10
  · exact B 10 r15_10 l10 q
  have l11 := l10.succ q
  by_cases q : pv z0 12 < pv z0 11
  · exact B 11 r15_11 l11 q
  have l12 := l11.succ q
  by_cases q : pv z0 13 < pv z0 12
  · exact B 12 r15_12 l12 q
  have l13 := l12.succ q
  by_cases q : pv z0 14 < pv z0 13
  · exact B 13 r15_13 l13 q
  have l14 := l13.succ q
  exact good (m := 15) (lo := 15) (hi := 15) (k := 14) hz hc hl r15 l14 ⟨hn, hn2⟩ hgl
theorem walk16 (x : Addr) (len0 cap0 : Nat) (z0 : List Int) (w : World) (hz : len0 ≤ z0.length) (hmx : cap0 ≤ 9223372036854775807) (hl : len0 ≤ cap0) (hn : 16 ≤ len0) (hn2 : len0 ≤ 16) (hc : ∀ i, i < z0.length → w.cell? (x.add i) = some (.int .i64 (z0.getD i 0))) (hgl : GlOk gl w) :
    Calls Tryz.prog 3 #[.slice (some x) len0 cap0] w fun e w' => e = .returned (.bool true) ∧ Below w.heap.size w w' := by
  have l0 := Lo.zero z0
  have B := fun (k : Nat) {es : En} (r : yes (run A0 (cmB k) (ivF 16 16 16) es) = true) h q => bad_ (cap := cap0) (k := k) hz hc hl r h q ⟨hn, hn2⟩ hgl
  by_cases q : pv z0 1 < pv z0 0
  · exact B 0 r16_0 l0 q
  have l1 := l0.succ q
  by_cases q : pv z0 2 < pv z0 1
  · exact B 1 r16_1 l1 q
  have l2 := l1.succ q
  by_cases q : pv z0 3 < pv z0 2
  · exact B 2 r16_2 l2 q
  have l3 := l2.succ q
  by_cases q : pv z0 4 < pv z0 3
  · exact B 3 r16_3 l3 q
  have l4 := l3.succ q
  by_cases q : pv z0 5 < pv z0 4
  · exact B 4 r16_4 l4 q
  have l5 := l4.succ q
  by_cases q : pv z0 6 < pv z0 5
  · exact B 5 r16_5 l5 q
  have l6 := l5.succ q
  by_cases q : pv z0 7 < pv z0 6
  · exact B 6 r16_6 l6 q
  have l7 := l6.succ q
  by_cases q : pv z0 8 < pv z0 7
  · exact B 7 r16_7 l7 q
  have l8 := l7.succ q
  by_cases q : pv z0 9 < pv z0 8
  · exact B 8 r16_8 l8 q
  have l9 := l8.succ q
  by_cases q : pv z0 10 < pv z0 9
  · exact B 9 r16_9 l9 q
  have l10 := l9.succ q
  by_cases q : pv z0 11 < pv z0 10
  · exact B 10 r16_10 l10 q
  have l11 := l10.succ q
  by_cases q : pv z0 12 < pv z0 11
  · exact B 11 r16_11 l11 q
  have l12 := l11.succ q
  by_cases q : pv z0 13 < pv z0 12
  · exact B 12 r16_12 l12 q
  have l13 := l12.succ q
  by_cases q : pv z0 14 < pv z0 13
  · exact B 13 r16_13 l13 q
  have l14 := l13.succ q
  by_cases q : pv z0 15 < pv z0 14
  · exact B 14 r16_14 l14 q
  have l15 := l14.succ q
  exact good (m := 16) (lo := 16) (hi := 16) (k := 15) hz hc hl r16 l15 ⟨hn, hn2⟩ hgl
theorem walk17 (x : Addr) (len0 cap0 : Nat) (z0 : List Int) (w : World) (hz : len0 ≤ z0.length) (hmx : cap0 ≤ 9223372036854775807) (hl : len0 ≤ cap0) (hn : 17 ≤ len0) (hn2 : len0 ≤ 17) (hc : ∀ i, i < z0.length → w.cell? (x.add i) = some (.int .i64 (z0.getD i 0))) (hgl : GlOk gl w) :
    Calls Tryz.prog 3 #[.slice (some x) len0 cap0] w fun e w' => e = .returned (.bool true) ∧ Below w.heap.size w w' := by
  have l0 := Lo.zero z0
  have B := fun (k : Nat) {es : En} (r : yes (run A0 (cmB k) (ivF 17 17 17) es) = true) h q => bad_ (cap := cap0) (k := k) hz hc hl r h q ⟨hn, hn2⟩ hgl
  by_cases q : pv z0 1 < pv z0 0
  · exact B 0 r17_0 l0 q
  have l1 := l0.succ q
  by_cases q : pv z0 2 < pv z0 1
  · exact B 1 r17_1 l1 q
  have l2 := l1.succ q
  by_cases q : pv z0 3 < pv z0 2
  · exact B 2 r17_2 l2 q
  have l3 := l2.succ q
  by_cases q : pv z0 4 < pv z0 3
  · exact B 3 r17_3 l3 q
  have l4 := l3.succ q
  by_cases q : pv z0 5 < pv z0 4
  · exact B 4 r17_4 l4 q
  have l5 := l4.succ q
  by_cases q : pv z0 6 < pv z0 5
  · exact B 5 r17_5 l5 q
  have l6 := l5.succ q
  by_cases q : pv z0 7 < pv z0 6
  · exact B 6 r17_6 l6 q
  have l7 := l6.succ q
  by_cases q : pv z0 8 < pv z0 7
  · exact B 7 r17_7 l7 q
  have l8 := l7.succ q
  by_cases q : pv z0 9 < pv z0 8
  · exact B 8 r17_8 l8 q
  have l9 := l8.succ q
  by_cases q : pv z0 10 < pv z0 9
  · exact B 9 r17_9 l9 q
  have l10 := l9.succ q
  by_cases q : pv z0 11 < pv z0 10
  · exact B 10 r17_10 l10 q
  have l11 := l10.succ q
  by_cases q : pv z0 12 < pv z0 11
  · exact B 11 r17_11 l11 q
  have l12 := l11.succ q
  by_cases q : pv z0 13 < pv z0 12
  · exact B 12 r17_12 l12 q
  have l13 := l12.succ q
  by_cases q : pv z0 14 < pv z0 13
  · exact B 13 r17_13 l13 q
  have l14 := l13.succ q
  by_cases q : pv z0 15 < pv z0 14
  · exact B 14 r17_14 l14 q
  have l15 := l14.succ q
  by_cases q : pv z0 16 < pv z0 15
  · exact B 15 r17_15 l15 q
  have l16 := l15.succ q
  exact good (m := 17) (lo := 17) (hi := 17) (k := 16) hz hc hl r17 l16 ⟨hn, hn2⟩ hgl
theorem walk18 (x : Addr) (len0 cap0 : Nat) (z0 : List Int) (w : World) (hz : len0 ≤ z0.length) (hmx : cap0 ≤ 9223372036854775807) (hl : len0 ≤ cap0) (hn : 18 ≤ len0) (hn2 : len0 ≤ 18) (hc : ∀ i, i < z0.length → w.cell? (x.add i) = some (.int .i64 (z0.getD i 0))) (hgl : GlOk gl w) :
    Calls Tryz.prog 3 #[.slice (some x) len0 cap0] w fun e w' => e = .returned (.bool true) ∧ Below w.heap.size w w' := by
  have l0 := Lo.zero z0
  have B := fun (k : Nat) {es : En} (r : yes (run A0 (cmB k) (ivF 18 18 18) es) = true) h q => bad_ (cap := cap0) (k := k) hz hc hl r h q ⟨hn, hn2⟩ hgl
  by_cases q : pv z0 1 < pv z0 0
  · exact B 0 r18_0 l0 q
  have l1 := l0.succ q
  by_cases q : pv z0 2 < pv z0 1
  · exact B 1 r18_1 l1 q
  have l2 := l1.succ q
  by_cases q : pv z0 3 < pv z0 2
  · exact B 2 r18_2 l2 q
  have l3 := l2.succ q
  by_cases q : pv z0 4 < pv z0 3
  · exact B 3 r18_3 l3 q
  have l4 := l3.succ q
  by_cases q : pv z0 5 < pv z0 4
  · exact B 4 r18_4 l4 q
  have l5 := l4.succ q
  by_cases q : pv z0 6 < pv z0 5
  · exact B 5 r18_5 l5 q
  have l6 := l5.succ q
  by_cases q : pv z0 7 < pv z0 6
  · exact B 6 r18_6 l6 q
  have l7 := l6.succ q
  by_cases q : pv z0 8 < pv z0 7
  · exact B 7 r18_7 l7 q
  have l8 := l7.succ q
  by_cases q : pv z0 9 < pv z0 8
  · exact B 8 r18_8 l8 q
  have l9 := l8.succ q
  by_cases q : pv z0 10 < pv z0 9
  · exact B 9 r18_9 l9 q
  have l10 := l9.succ q
  by_cases q : pv z0 11 < pv z0 10
  · exact B 10 r18_10 l10 q
  have l11 := l10.succ q
  by_cases q : pv z0 12 < pv z0 11
  · exact B 11 r18_11 l11 q
  have l12 := l11.succ q
  by_cases q : pv z0 13 < pv z0 12
  · exact B 12 r18_12 l12 q
  have l13 := l12.succ q
  by_cases q : pv z0 14 < pv z0 13
  · exact B 13 r18_13 l13 q
  have l14 := l13.succ q
  by_cases q : pv z0 15 < pv z0 14
  · exact B 14 r18_14 l14 q
  have l15 := l14.succ q
  by_cases q : pv z0 16 < pv z0 15
  · exact B 15 r18_15 l15 q
  have l16 := l15.succ q
  by_cases q : pv z0 17 < pv z0 16
  · exact B 16 r18_16 l16 q
  have l17 := l16.succ q
  exact good (m := 18) (lo := 18) (hi := 18) (k := 17) hz hc hl r18 l17 ⟨hn, hn2⟩ hgl
theorem walk19 (x : Addr) (len0 cap0 : Nat) (z0 : List Int) (w : World) (hz : len0 ≤ z0.length) (hmx : cap0 ≤ 9223372036854775807) (hl : len0 ≤ cap0) (hn : 19 ≤ len0) (hn2 : len0 ≤ 19) (hc : ∀ i, i < z0.length → w.cell? (x.add i) = some (.int .i64 (z0.getD i 0))) (hgl : GlOk gl w) :
    Calls Tryz.prog 3 #[.slice (some x) len0 cap0] w fun e w' => e = .returned (.bool true) ∧ Below w.heap.size w w' := by
  have l0 := Lo.zero z0
  have B := fun (k : Nat) {es : En} (r : yes (run A0 (cmB k) (ivF 19 19 19) es) = true) h q => bad_ (cap := cap0) (k := k) hz hc hl r h q ⟨hn, hn2⟩ hgl
  by_cases q : pv z0 1 < pv z0 0
  · exact B 0 r19_0 l0 q
  have l1 := l0.succ q
  by_cases q : pv z0 2 < pv z0 1
  · exact B 1 r19_1 l1 q
  have l2 := l1.succ q
  by_cases q : pv z0 3 < pv z0 2
  · exact B 2 r19_2 l2 q
  have l3 := l2.succ q
  by_cases q : pv z0 4 < pv z0 3
  · exact B 3 r19_3 l3 q
  have l4 := l3.succ q
  by_cases q : pv z0 5 < pv z0 4
  · exact B 4 r19_4 l4 q
  have l5 := l4.succ q
  by_cases q : pv z0 6 < pv z0 5
  · exact B 5 r19_5 l5 q
  have l6 := l5.succ q
  by_cases q : pv z0 7 < pv z0 6
  · exact B 6 r19_6 l6 q
  have l7 := l6.succ q
  by_cases q : pv z0 8 < pv z0 7
  · exact B 7 r19_7 l7 q
  have l8 := l7.succ q
  by_cases q : pv z0 9 < pv z0 8
  · exact B 8 r19_8 l8 q
  have l9 := l8.succ q
  by_cases q : pv z0 10 < pv z0 9
  · exact B 9 r19_9 l9 q
  have l10 := l9.succ q
  by_cases q : pv z0 11 < pv z0 10
  · exact B 10 r19_10 l10 q
  have l11 := l10.succ q
  by_cases q : pv z0 12 < pv z0 11
  · exact B 11 r19_11 l11 q
  have l12 := l11.succ q
  by_cases q : pv z0 13 < pv z0 12
  · exact B 12 r19_12 l12 q
  have l13 := l12.succ q
  by_cases q : pv z0 14 < pv z0 13
  · exact B 13 r19_13 l13 q
  have l14 := l13.succ q
  by_cases q : pv z0 15 < pv z0 14
  · exact B 14 r19_14 l14 q
  have l15 := l14.succ q
  by_cases q : pv z0 16 < pv z0 15
  · exact B 15 r19_15 l15 q
  have l16 := l15.succ q
  by_cases q : pv z0 17 < pv z0 16
  · exact B 16 r19_16 l16 q
  have l17 := l16.succ q
  by_cases q : pv z0 18 < pv z0 17
  · exact B 17 r19_17 l17 q
  have l18 := l17.succ q
  exact good (m := 19) (lo := 19) (hi := 19) (k := 18) hz hc hl r19 l18 ⟨hn, hn2⟩ hgl
theorem walk20 (x : Addr) (len0 cap0 : Nat) (z0 : List Int) (w : World) (hz : len0 ≤ z0.length) (hmx : cap0 ≤ 9223372036854775807) (hl : len0 ≤ cap0) (hn : 20 ≤ len0) (hn2 : len0 ≤ 20) (hc : ∀ i, i < z0.length → w.cell? (x.add i) = some (.int .i64 (z0.getD i 0))) (hgl : GlOk gl w) :
    Calls Tryz.prog 3 #[.slice (some x) len0 cap0] w fun e w' => e = .returned (.bool true) ∧ Below w.heap.size w w' := by
  have l0 := Lo.zero z0
  have B := fun (k : Nat) {es : En} (r : yes (run A0 (cmB k) (ivF 20 20 20) es) = true) h q => bad_ (cap := cap0) (k := k) hz hc hl r h q ⟨hn, hn2⟩ hgl
  by_cases q : pv z0 1 < pv z0 0
  · exact B 0 r20_0 l0 q
  have l1 := l0.succ q
  by_cases q : pv z0 2 < pv z0 1
  · exact B 1 r20_1 l1 q
  have l2 := l1.succ q
  by_cases q : pv z0 3 < pv z0 2
  · exact B 2 r20_2 l2 q
  have l3 := l2.succ q
  by_cases q : pv z0 4 < pv z0 3
  · exact B 3 r20_3 l3 q
  have l4 := l3.succ q
  by_cases q : pv z0 5 < pv z0 4
  · exact B 4 r20_4 l4 q
  have l5 := l4.succ q
  by_cases q : pv z0 6 < pv z0 5
  · exact B 5 r20_5 l5 q
  have l6 := l5.succ q
  by_cases q : pv z0 7 < pv z0 6
  · exact B 6 r20_6 l6 q
  have l7 := l6.succ q
  by_cases q : pv z0 8 < pv z0 7
  · exact B 7 r20_7 l7 q
  have l8 := l7.succ q
  by_cases q : pv z0 9 < pv z0 8
  · exact B 8 r20_8 l8 q
  have l9 := l8.succ q
  by_cases q : pv z0 10 < pv z0 9
  · exact B 9 r20_9 l9 q
  have l10 := l9.succ q
  by_cases q : pv z0 11 < pv z0 10
  · exact B 10 r20_10 l10 q
  have l11 := l10.succ q
  by_cases q : pv z0 12 < pv z0 11
  · exact B 11 r20_11 l11 q
  have l12 := l11.succ q
  by_cases q : pv z0 13 < pv z0 12
  · exact B 12 r20_12 l12 q
  have l13 := l12.succ q
  by_cases q : pv z0 14 < pv z0 13
  · exact B 13 r20_13 l13 q
  have l14 := l13.succ q
  by_cases q : pv z0 15 < pv z0 14
  · exact B 14 r20_14 l14 q
  have l15 := l14.succ q
  by_cases q : pv z0 16 < pv z0 15
  · exact B 15 r20_15 l15 q
  have l16 := l15.succ q
  by_cases q : pv z0 17 < pv z0 16
  · exact B 16 r20_16 l16 q
  have l17 := l16.succ q
  by_cases q : pv z0 18 < pv z0 17
  · exact B 17 r20_17 l17 q
  have l18 := l17.succ q
  by_cases q : pv z0 19 < pv z0 18
  · exact B 18 r20_18 l18 q
  have l19 := l18.succ q
  exact good (m := 20) (lo := 20) (hi := 20) (k := 19) hz hc hl r20 l19 ⟨hn, hn2⟩ hgl
theorem walk21 (x : Addr) (len0 cap0 : Nat) (z0 : List Int) (w : World) (hz : len0 ≤ z0.length) (hmx : cap0 ≤ 9223372036854775807) (hl : len0 ≤ cap0) (hn : 21 ≤ len0) (hn2 : len0 ≤ 9223372036854775807) (hc : ∀ i, i < z0.length → w.cell? (x.add i) = some (.int .i64 (z0.getD i 0))) (hgl : GlOk gl w) :
    Calls Tryz.prog 3 #[.slice (some x) len0 cap0] w fun e w' => e = .returned (.bool true) ∧ Below w.heap.size w w' := by
  have l0 := Lo.zero z0
  have B := fun (k : Nat) {es : En} (r : yes (run A0 (cmB k) (ivF 20 21 9223372036854775807) es) = true) h q => bad_ (cap := cap0) (k := k) hz hc hl r h q ⟨hn, hn2⟩ hgl
  by_cases q : pv z0 1 < pv z0 0
  · exact B 0 r21_0 l0 q
  have l1 := l0.succ q
  by_cases q : pv z0 2 < pv z0 1
  · exact B 1 r21_1 l1 q
  have l2 := l1.succ q
  by_cases q : pv z0 3 < pv z0 2
  · exact B 2 r21_2 l2 q
  have l3 := l2.succ q
  by_cases q : pv z0 4 < pv z0 3
  · exact B 3 r21_3 l3 q
  have l4 := l3.succ q
  by_cases q : pv z0 5 < pv z0 4
  · exact B 4 r21_4 l4 q
  have l5 := l4.succ q
  by_cases q : pv z0 6 < pv z0 5
  · exact B 5 r21_5 l5 q
  have l6 := l5.succ q
  by_cases q : pv z0 7 < pv z0 6
  · exact B 6 r21_6 l6 q
  have l7 := l6.succ q
  by_cases q : pv z0 8 < pv z0 7
  · exact B 7 r21_7 l7 q
  have l8 := l7.succ q
  by_cases q : pv z0 9 < pv z0 8
  · exact B 8 r21_8 l8 q
  have l9 := l8.succ q
  by_cases q : pv z0 10 < pv z0 9
  · exact B 9 r21_9 l9 q
  have l10 := l9.succ q
  by_cases q : pv z0 11 < pv z0 10
  · exact B 10 r21_10 l10 q
  have l11 := l10.succ q
  by_cases q : pv z0 12 < pv z0 11
  · exact B 11 r21_11 l11 q
  have l12 := l11.succ q
  by_cases q : pv z0 13 < pv z0 12
  · exact B 12 r21_12 l12 q
  have l13 := l12.succ q
  by_cases q : pv z0 14 < pv z0 13
  · exact B 13 r21_13 l13 q
  have l14 := l13.succ q
  by_cases q : pv z0 15 < pv z0 14
  · exact B 14 r21_14 l14 q
  have l15 := l14.succ q
  by_cases q : pv z0 16 < pv z0 15
  · exact B 15 r21_15 l15 q
  have l16 := l15.succ q
  by_cases q : pv z0 17 < pv z0 16
  · exact B 16 r21_16 l16 q
  have l17 := l16.succ q
  by_cases q : pv z0 18 < pv z0 17
  · exact B 17 r21_17 l17 q
  have l18 := l17.succ q
  by_cases q : pv z0 19 < pv z0 18
  · exact B 18 r21_18 l18 q
  have l19 := l18.succ q
  exact good (m := 20) (lo := 21) (hi := 9223372036854775807) (k := 19) hz hc hl r21 l19 ⟨hn, hn2⟩ hgl
theorem walk (a0 : Option Addr) (len0 cap0 : Nat) (z0 : List Int) (w : World) (w0 : IsRow .i64 w a0 len0 cap0 z0) (hgl : GlOk gl w) :
    Calls Tryz.prog 3 #[.slice a0 len0 cap0] w fun e w' => e = .returned (.bool true) ∧ Below w.heap.size w w' := by
  rcases w0 with ⟨rfl, rfl, rfl, rfl⟩ | ⟨x, rfl, hl, hmx, hzl, hc, _⟩
  · exact at_n rn hgl
  · have hz : len0 ≤ z0.length := by omega
    have hmx : cap0 ≤ 9223372036854775807 := Nat.le_trans hmx (by decide)
    by_cases g0 : len0 = 0
    · exact walk0 x len0 cap0 z0 w hz hmx hl (by omega) (by omega) hc hgl
    by_cases g1 : len0 = 1
    · exact walk1 x len0 cap0 z0 w hz hmx hl (by omega) (by omega) hc hgl
    by_cases g2 : len0 = 2
    · exact walk2 x len0 cap0 z0 w hz hmx hl (by omega) (by omega) hc hgl
    by_cases g3 : len0 = 3
    · exact walk3 x len0 cap0 z0 w hz hmx hl (by omega) (by omega) hc hgl
    by_cases g4 : len0 = 4
    · exact walk4 x len0 cap0 z0 w hz hmx hl (by omega) (by omega) hc hgl
    by_cases g5 : len0 = 5
    · exact walk5 x len0 cap0 z0 w hz hmx hl (by omega) (by omega) hc hgl
    by_cases g6 : len0 = 6
    · exact walk6 x len0 cap0 z0 w hz hmx hl (by omega) (by omega) hc hgl
    by_cases g7 : len0 = 7
    · exact walk7 x len0 cap0 z0 w hz hmx hl (by omega) (by omega) hc hgl
    by_cases g8 : len0 = 8
    · exact walk8 x len0 cap0 z0 w hz hmx hl (by omega) (by omega) hc hgl
    by_cases g9 : len0 = 9
    · exact walk9 x len0 cap0 z0 w hz hmx hl (by omega) (by omega) hc hgl
    by_cases g10 : len0 = 10
    · exact walk10 x len0 cap0 z0 w hz hmx hl (by omega) (by omega) hc hgl
    by_cases g11 : len0 = 11
    · exact walk11 x len0 cap0 z0 w hz hmx hl (by omega) (by omega) hc hgl
    by_cases g12 : len0 = 12
    · exact walk12 x len0 cap0 z0 w hz hmx hl (by omega) (by omega) hc hgl
    by_cases g13 : len0 = 13
    · exact walk13 x len0 cap0 z0 w hz hmx hl (by omega) (by omega) hc hgl
    by_cases g14 : len0 = 14
    · exact walk14 x len0 cap0 z0 w hz hmx hl (by omega) (by omega) hc hgl
    by_cases g15 : len0 = 15
    · exact walk15 x len0 cap0 z0 w hz hmx hl (by omega) (by omega) hc hgl
    by_cases g16 : len0 = 16
    · exact walk16 x len0 cap0 z0 w hz hmx hl (by omega) (by omega) hc hgl
    by_cases g17 : len0 = 17
    · exact walk17 x len0 cap0 z0 w hz hmx hl (by omega) (by omega) hc hgl
    by_cases g18 : len0 = 18
    · exact walk18 x len0 cap0 z0 w hz hmx hl (by omega) (by omega) hc hgl
    by_cases g19 : len0 = 19
    · exact walk19 x len0 cap0 z0 w hz hmx hl (by omega) (by omega) hc hgl
    by_cases g20 : len0 = 20
    · exact walk20 x len0 cap0 z0 w hz hmx hl (by omega) (by omega) hc hgl
    exact walk21 x len0 cap0 z0 w hz hmx hl (by omega) (by omega) hc hgl

/-! ### THE ROW's STEP: WRITTEN OUT: LEAVE IT -/
set_option maxRecDepth 100000 in
theorem lifted (os : Os) (started : os.Started) (H : Type) (enc : TypeId × Value → H) :
    ReturnsInHanded {} Tryz.checked os 3 .any (fun w args => (Rows.replayPicksSpec.pre enc Tryz.prog Tryz.f3 Rows.replayPicksRow.domain false w args ∧ laidMet Tryz.prog Rows.replayPicksRow.laid w) ∧ sizedMet enc Tryz.prog Tryz.f3 (OpenSpec.ofChange Rows.replayPicksSpec) false w args) (Rows.replayPicksSpec.post enc Tryz.prog Tryz.f3 false true false false) := by
  refine returnsInHanded_of_change_and (C := Tryz.checked) (X := fun w _ => laidMet Tryz.prog Rows.replayPicksRow.laid w) (fun _ _ _ hh h => h.of_heap hh) own started (by kernel_rfl) Tryz.func3
    (ChangeSpec.witness_shaped (enc := enc) (C := Tryz.checked) (os := os) (X := fun w _ => laidMet Tryz.prog Rows.replayPicksRow.laid w) false (laidWorld os #[.slice none 0 0]) #[.slice none 0 0] 8 rfl (World.shaped_of_RefB (by kernel_rfl) (by kernel_rfl)) (by kernel_rfl) (by kernel_rfl) (by kernel_rfl) (laid_met_replayPicks os _ _)) ?_
  intro W base args ds gs before hval0 hW hcnd _ hL _
  have hval : ∀ (j : Nat) t v, Tryz.f3.params[j]? = some t → args[j]? = some v → Value.okWide Tryz.prog W .any base t v := hval0
  have hW' := hW
  obtain ⟨p, q, hA0, hV, rfl, hfz, hnd⟩ := hW
  have hA : DataW.TrodAll enc Tryz.prog W 0 (fun _ => true) true Tryz.f3.params.toList args.toList ds p := hA0
  rw [Tryz.params3] at hA hval
  obtain ⟨v0, vs0, d0, ds0, p0, q0, hargs, rfl, rfl, h0, r0⟩ := trodAll_cons hA
  obtain ⟨rfl, rfl, rfl⟩ := trodAll_nil r0
  obtain rfl : args = #[v0] := by cases args; simp_all
  obtain ⟨rfl, rfl⟩ := trodVars_none hV
  obtain ⟨a0, len0, cap0, rfl⟩ := okWide_slice Tryz.underlying22 (hval 0 22 v0 rfl rfl)
  have k0 := h0
  have lt0 : ∀ x ∈ p0, x.block < W.heap.size := by obtain ⟨m, hm⟩ := k0; exact DataW.trod_lt m _ _ _ hm
  obtain ⟨z0, w0⟩ : ∃ zs, IsRow .i64 W a0 len0 cap0 zs := by
    obtain ⟨fuel, hf⟩ := h0
    rcases open_ints Tryz.underlying22 Tryz.underlying3 (by kernel_rfl) hf with ⟨hcs, _⟩ | ⟨x, l, c, zs, hcs, _, hl, hm, hz, _, hcell, hwz⟩
    · simp [Value.cells] at hcs
      obtain ⟨rfl, rfl, rfl⟩ := hcs
      exact ⟨[], .inl ⟨rfl, rfl, rfl, rfl⟩⟩
    · simp [Value.cells] at hcs
      obtain ⟨rfl, rfl, rfl⟩ := hcs
      exact ⟨zs, .inr ⟨_, rfl, hl, hm, by simpa using hz, hcell, hwz⟩⟩
  clear hA0 hval0
  refine (walk a0 len0 cap0 z0 W w0 (gl_of_laid_replayPicks hL)).mono fun e W' ⟨he, hg⟩ => ?_
  subst he
  exact ⟨_, rfl, post_of_below (pa := p0 ++ []) (pv := []) hW' (fun _ _ _ => (trodAll_cons_mk (shut_bool Tryz.underlying4 _) trodAll_mk0)) (fun sp hsp => (trodAll_cons_mk (WideElems.Trod_stays laidOut (by kernel_rfl) (of_decide_eq_true (by kernel_rfl)) k0 (fun x hx => hg.same (lt0 x hx)) (fun x hx => hsp x (by simp [hx]))) trodAll_mk0)) (fun _ _ => rfl) rfl
    hg (ok_one (by kernel_rfl) rfl (okWide_bool_mk Tryz.underlying4 _))⟩

theorem over : Rows.replayPicksRow.holds Tryz.pinned (OpenSpec.ofChange Rows.replayPicksSpec) :=
  OpenClaim.holds_of_wide 3 Tryz.f3 rfl rfl rfl rfl rfl rfl rfl ⟨rfl, rfl, rfl, rfl, rfl⟩ rfl rfl rfl rfl rfl (by kernel_rfl) Tryz.func3 joined
    (of_decide_eq_true (by kernel_rfl)) (by unfold Func.isWrapper; first | (rw [if_pos (by decide +kernel)]; kernel_rfl) | (rw [if_neg (by decide +kernel)]; exact ⟨rfl, rfl⟩))
    (fun os started H enc _ => lifted os started H enc)

/-- ████ THE STATEMENT ████ -/
theorem proved : Rows.ReplayPicksCardSaid :=
  Claim7.holds_tied_plain_at .later [] [.listed, .data] true (true, "07f3469dd057f09776f67c386160197768d9f903b1dd2b2a50d3a3ded0264c11") true
    over (fun _ h => by cases h) g0 (fun _ h => by cases h) replayPicks_row_tie rfl ⟨rfl, rfl⟩ g1 rfl
    (fun f fn hf hfn => by
      obtain rfl : f = 3 := Option.some.inj (g2.symm.trans hf) |>.symm
      obtain rfl : fn = Tryz.f3 := (Option.some.inj (Tryz.func3.symm.trans hfn)).symm
      exact ⟨g3, fun j t ht => by
        rw [Tryz.params3] at ht
        have hm : t ∈ (Tryz.f3.params : Array TypeId).toList := by
          rw [Tryz.params3]
          exact Array.mem_toList_iff.2 (Array.mem_of_getElem? ht)
        have := List.all_eq_true.1 g4 t hm
        have h2 : Tryz.prog.wantsStandIn t = false := by simpa using this
        exact h2⟩)
    g5
#print axioms proved
end Go.Proofs.YtpgebnmcphedgaaGreatDoor.replayPicks
