/- gneiss/gneisslaw21.ModelRefArrays answers true at every input, and leaves its arguments as they were. No conditions. -/
import Derived.Test.YtocficcmdlfafaaGreatDoorRows
import Derived.WalkKit
import Derived.ProofKit
import Derived.OpenShut
import Derived.Below
import Derived.ChangeSame
import Derived.Test.YtocficcmdlfafaaGreatDoorModelRefArraysE0
import Derived.Test.YtocficcmdlfafaaGreatDoorModelRefArraysE1
import Derived.Test.YtocficcmdlfafaaGreatDoorModelRefArraysR0
import Derived.Test.YtocficcmdlfafaaGreatDoorModelRefArraysR1
import Derived.Test.YtocficcmdlfafaaGreatDoorModelRefArraysR2
import Derived.Test.YtocficcmdlfafaaGreatDoorModelRefArraysR3
import Derived.Test.YtocficcmdlfafaaGreatDoorModelRefArraysR4
import Derived.Test.YtocficcmdlfafaaGreatDoorModelRefArraysR5
import Derived.Test.YtocficcmdlfafaaGreatDoorModelRefArraysR6
import Derived.Test.YtocficcmdlfafaaGreatDoorModelRefArraysR7
import Derived.Test.YtocficcmdlfafaaGreatDoorModelRefArraysR8
import Derived.Test.YtocficcmdlfafaaGreatDoorModelRefArraysR9
import Derived.Test.YtocficcmdlfafaaGreatDoorModelRefArraysR10
import Derived.Test.YtocficcmdlfafaaGreatDoorModelRefArraysR11
import Derived.Test.YtocficcmdlfafaaGreatDoorModelRefArraysR12
import Derived.Test.YtocficcmdlfafaaGreatDoorModelRefArraysR13
import Derived.Test.YtocficcmdlfafaaGreatDoorModelRefArraysR14
import Derived.Test.YtocficcmdlfafaaGreatDoorModelRefArraysR15
import Derived.Test.YtocficcmdlfafaaGreatDoorModelRefArraysR16
import Derived.Test.YtocficcmdlfafaaGreatDoorModelRefArraysR17
import Derived.Test.YtocficcmdlfafaaGreatDoorModelRefArraysR18
import Derived.Test.YtocficcmdlfafaaGreatDoorModelRefArraysR19
import Derived.Test.YtocficcmdlfafaaGreatDoorModelRefArraysR20
import Derived.Test.YtocficcmdlfafaaGreatDoorLaid
import Derived.Test.YtocficcmdlfafaaGreatDoorTie
import Derived.Test.YtocficcmdlfafaaGreatDoorModelRefArraysJ
import Derived.Test.YtocficcmdlfafaaGreatDoorCards
import Derived.SevenTiedAt
namespace Go.Proofs.YtocficcmdlfafaaGreatDoor.modelRefArrays
open Go.Ai Go.ChangeShapes Go.WideShapes Go.ChangeAt Go.RowKit
set_option linter.unusedVariables false

theorem own : ownKnob Tryz.prog.godebug = none := by kernel_rfl

section
variable {H : Type} {enc : TypeId × Value → H} {P : Program}
theorem post_of_below {f : Func} {s : ChangeSpec} {apart fresh handsOn again : Bool} {W W' : World} {args : Array Value} {v : Value} {ds gs : List (DataW H)} {before pa pv : List MemPlace}
    (hW : DataW.Whole enc P f.params.toList s.vars apart W args.toList ds gs before)
    (hres : ∀ (b : Nat) (sp : Nat → Bool) (hd : Bool), DataW.TrodAll enc P W' b sp hd f.resultTypes.toList (v.resultList f.resultTypes.size) (s.fn H (ds ++ gs)).results [])
    (hargs : ∀ sp : Nat → Bool, (∀ p ∈ before, sp p.block = true) → DataW.TrodAll enc P W' 0 sp true f.params.toList args.toList (s.fn H (ds ++ gs)).args pa)
    (hvars : ∀ sp : Nat → Bool, (∀ p ∈ before, sp p.block = true) → DataW.TrodVars enc P W' sp s.vars (s.fn H (ds ++ gs)).vars pv)
    (hps : before = pa ++ pv) (hb : Below W.heap.size W W')
    (hok : ∀ (j : Nat) (t : TypeId) (r : Value), f.resultTypes[j]? = some t → (v.resultList f.resultTypes.size)[j]? = some r → Value.okWide P W' .any 0 t r) :
    s.post enc P f apart fresh handsOn again W args v W' := by
  have hlt : ∀ p ∈ before, p.block < W.heap.size := fun p hp => hW.lt p hp
  have hold : ∀ p ∈ before, (fun b => decide (b < W.heap.size)) p.block = true := fun p hp => by simpa using hlt p hp
  refine ⟨ds, gs, before, [], pa, pv, hW, hres _ _ _, hargs _ hold, hvars _ hold, World.keptBut_mono (fun p hp => ⟨hp, ?_⟩) (hb.frame (· ∈ before)), fun _ => ?_⟩
  · rw [hps, List.mem_append] at hp
    exact Or.inr hp
  · obtain ⟨_, _, _, _, _, hz, hn⟩ := hW
    refine ⟨hok, _, _, ([] ++ pa) ++ pv, ⟨[] ++ pa, pv, trodAll_append (hargs _ (fun _ _ => rfl)) (hres _ _ _), hvars _ (fun _ _ => rfl), rfl, ?_, ?_⟩, ?_⟩
    · intro b off hp
      have hin : MemPlace.cell b off ∈ before := by rw [hps]; simpa using hp
      rw [hb.frozen (hlt _ hin)]
      exact hz b off hin
    · intro ha
      have := hn ha
      rw [hps] at this
      simpa using this
    · intro p hp _
      rw [hps]
      simpa using hp
end
/-! ### the walk: by the abstract machine -/
theorem at_ {a0 a1 : Int} {s k i : Int} (hf : fact s k = true) (r : yes (run s k i) = true) (e0 : opVal .and .i64 a0 31 = s) (e1 : opVal .rem .u64 (IntKind.wrap .u64 a1) k = i) (h0 : 0 ≤ i) (h1 : i ≤ s) (w : World) (hgl : GlOk gl w) : Calls Tryz.prog 4 #[.int .i64 a0, .int .i64 a1] w fun e w' => e = .returned (.bool true) ∧ Below w.heap.size w w' := by
  haveI : GlOk gl w := hgl
  haveI : GlOk (cfM s k i).gl w := hgl
  refine soundC comp.mixed comp.TOk (over := fun c => overC 8 (overN (cfM s k i) (m s k) c)) (cf := cfM s k i) (σ := fun i => if i = 0 then a0 else if i = 1 then a1 else 0) (xs := [.int .i64 a0, .int .i64 a1]) (fun _ h => aw_ok rfl (overN_ok (nwOk (g := 0) hf w) (okS h0 h1) h)) ?_
    (.cons (.int .i64 (.var 0)) (.cons (.int .i64 (.var 1)) .nil)) r
  have k0 : ek.ev (fun i => if i = 0 then a0 else if i = 1 then a1 else 0) = s := e0
  have k1 : (ei k).ev (fun i => if i = 0 then a0 else if i = 1 then a1 else 0) = i := e1
  refine ⟨fun x y hm => ?_, fun _ _ _ _ hm => (by cases hm), fun x lo hi hm => ?_, fun _ _ _ _ hm => (by cases hm)⟩
  · rcases List.mem_cons.1 hm with hm | hm
    · cases hm; exact k0
    · rcases List.mem_cons.1 hm with hm | hm
      · cases hm; exact k1
      · cases hm
  · rcases List.mem_cons.1 hm with hm | hm
    · cases hm; rw [k0]; exact ⟨Int.le_refl _, Int.le_refl _⟩
    · rcases List.mem_cons.1 hm with hm | hm
      · cases hm; rw [k1]; exact ⟨Int.le_refl _, Int.le_refl _⟩
      · cases hm
theorem rng0 (a : Int) : 0 ≤ opVal .and .i64 a 31 ∧ opVal .and .i64 a 31 ≤ 31 := by
  have h : (BitVec.ofInt 64 a &&& BitVec.ofInt 64 31).toNat ≤ 31 := by
    rw [BitVec.toNat_and]
    exact Nat.and_le_right
  show 0 ≤ IntKind.wrap .i64 ((BitVec.ofInt 64 a &&& BitVec.ofInt 64 31).toNat : Int) ∧ IntKind.wrap .i64 ((BitVec.ofInt 64 a &&& BitVec.ofInt 64 31).toNat : Int) ≤ 31
  rw [IntKind.wrap_i64]
  omega
theorem rng1 (k : Nat) (hk : 0 < k) (a : Int) : 0 ≤ opVal .rem .u64 (IntKind.wrap .u64 a) k ∧ opVal .rem .u64 (IntKind.wrap .u64 a) k < k := by
  have hw : 0 ≤ IntKind.wrap .u64 a := by
    rw [IntKind.wrap_u64]
    omega
  exact ⟨Int.tmod_nonneg _ hw, Int.tmod_lt_of_pos _ (by omega)⟩
/-- all the runs of a length -/
def AllR (s k : Int) : Nat → Prop
  | 0 => True
  | n + 1 => AllR s k n ∧ yes (run s k (.ofNat n)) = true
theorem nx {s k : Int} {n : Nat} (h : AllR s k n) (r : yes (run s k (.ofNat n)) = true) : AllR s k (n + 1) := ⟨h, r⟩
theorem AllR.pick {s k : Int} : ∀ {n : Nat}, AllR s k n → ∀ i, i < n → yes (run s k (.ofNat i)) = true
  | n + 1, h, i, hi => by
    by_cases e : i = n
    · subst e; exact h.2
    · exact h.1.pick i (by omega)
theorem at_k {a0 a1 : Int} {n : Nat} (hf : fact (.ofNat n) (.ofNat (n + 1)) = true) (hall : AllR (.ofNat n) (.ofNat (n + 1)) (n + 1)) (e0 : opVal .and .i64 a0 31 = .ofNat n) (w : World) (hgl : GlOk gl w) : Calls Tryz.prog 4 #[.int .i64 a0, .int .i64 a1] w fun e w' => e = .returned (.bool true) ∧ Below w.heap.size w w' := by
  have g1 := rng1 (n + 1) (by omega) a1
  have e1 : opVal .rem .u64 (IntKind.wrap .u64 a1) (.ofNat (n + 1)) = .ofNat (opVal .rem .u64 (IntKind.wrap .u64 a1) (.ofNat (n + 1))).toNat := (Int.toNat_of_nonneg g1.1).symm
  have hlt : (opVal .rem .u64 (IntKind.wrap .u64 a1) (.ofNat (n + 1))).toNat < n + 1 := by
    have := g1.1
    have h2 : opVal .rem .u64 (IntKind.wrap .u64 a1) (.ofNat (n + 1)) < ((n + 1 : Nat) : Int) := g1.2
    omega
  exact at_ hf (hall.pick _ hlt) e0 e1 (Int.natCast_nonneg _) (by show (((opVal .rem .u64 (IntKind.wrap .u64 a1) (.ofNat (n + 1))).toNat : Nat) : Int) ≤ ((n : Nat) : Int); omega) w hgl
theorem all1 : AllR (.ofNat (nat_lit 0)) (.ofNat (nat_lit 1)) (nat_lit 1) :=
  nx trivial r1_0
theorem all2 : AllR (.ofNat (nat_lit 1)) (.ofNat (nat_lit 2)) (nat_lit 2) :=
  nx (nx trivial r2_0) r2_1
theorem all3 : AllR (.ofNat (nat_lit 2)) (.ofNat (nat_lit 3)) (nat_lit 3) :=
  nx (nx (nx trivial r3_0) r3_1) r3_2
theorem all4 : AllR (.ofNat (nat_lit 3)) (.ofNat (nat_lit 4)) (nat_lit 4) :=
  nx (nx (nx (nx trivial r4_0) r4_1) r4_2) r4_3
theorem all5 : AllR (.ofNat (nat_lit 4)) (.ofNat (nat_lit 5)) (nat_lit 5) :=
  nx (nx (nx (nx (nx trivial r5_0) r5_1) r5_2) r5_3) r5_4
theorem all6 : AllR (.ofNat (nat_lit 5)) (.ofNat (nat_lit 6)) (nat_lit 6) :=
  nx (nx (nx (nx (nx (nx trivial r6_0) r6_1) r6_2) r6_3) r6_4) r6_5
theorem all7 : AllR (.ofNat (nat_lit 6)) (.ofNat (nat_lit 7)) (nat_lit 7) :=
  nx (nx (nx (nx (nx (nx (nx trivial r7_0) r7_1) r7_2) r7_3) r7_4) r7_5) r7_6
theorem all8 : AllR (.ofNat (nat_lit 7)) (.ofNat (nat_lit 8)) (nat_lit 8) :=
  nx (nx (nx (nx (nx (nx (nx (nx trivial r8_0) r8_1) r8_2) r8_3) r8_4) r8_5) r8_6) r8_7
theorem all9 : AllR (.ofNat (nat_lit 8)) (.ofNat (nat_lit 9)) (nat_lit 9) :=
  nx (nx (nx (nx (nx (nx (nx (nx (nx trivial r9_0) r9_1) r9_2) r9_3) r9_4) r9_5) r9_6) r9_7) r9_8
theorem all10 : AllR (.ofNat (nat_lit 9)) (.ofNat (nat_lit 10)) (nat_lit 10) :=
  nx (nx (nx (nx (nx (nx (nx (nx (nx (nx trivial r10_0) r10_1) r10_2) r10_3) r10_4) r10_5) r10_6) r10_7) r10_8) r10_9
theorem all11 : AllR (.ofNat (nat_lit 10)) (.ofNat (nat_lit 11)) (nat_lit 11) :=
  nx (nx (nx (nx (nx (nx (nx (nx (nx (nx (nx trivial r11_0) r11_1) r11_2) r11_3) r11_4) r11_5) r11_6) r11_7) r11_8) r11_9) r11_10
theorem all12 : AllR (.ofNat (nat_lit 11)) (.ofNat (nat_lit 12)) (nat_lit 12) :=
  nx (nx (nx (nx (nx (nx (nx (nx (nx (nx (nx (nx trivial r12_0) r12_1) r12_2) r12_3) r12_4) r12_5) r12_6) r12_7) r12_8) r12_9) r12_10) r12_11
theorem all13 : AllR (.ofNat (nat_lit 12)) (.ofNat (nat_lit 13)) (nat_lit 13) :=
  nx (nx (nx (nx (nx (nx (nx (nx (nx (nx (nx (nx (nx trivial r13_0) r13_1) r13_2) r13_3) r13_4) r13_5) r13_6) r13_7) r13_8) r13_9) r13_10) r13_11) r13_12
theorem all14 : AllR (.ofNat (nat_lit 13)) (.ofNat (nat_lit 14)) (nat_lit 14) :=
  nx (nx (nx (nx (nx (nx (nx (nx (nx (nx (nx (nx (nx (nx trivial r14_0) r14_1) r14_2) r14_3) r14_4) r14_5) r14_6) r14_7) r14_8) r14_9) r14_10) r14_11) r14_12) r14_13
theorem all15 : AllR (.ofNat (nat_lit 14)) (.ofNat (nat_lit 15)) (nat_lit 15) :=
  nx (nx (nx (nx (nx (nx (nx (nx (nx (nx (nx (nx (nx (nx (nx trivial r15_0) r15_1) r15_2) r15_3) r15_4) r15_5) r15_6) r15_7) r15_8) r15_9) r15_10) r15_11) r15_12) r15_13) r15_14
theorem all16 : AllR (.ofNat (nat_lit 15)) (.ofNat (nat_lit 16)) (nat_lit 16) :=
  nx (nx (nx (nx (nx (nx (nx (nx (nx (nx (nx (nx (nx (nx (nx (nx trivial r16_0) r16_1) r16_2) r16_3) r16_4) r16_5) r16_6) r16_7) r16_8) r16_9) r16_10) r16_11) r16_12) r16_13) r16_14) r16_15
theorem all17 : AllR (.ofNat (nat_lit 16)) (.ofNat (nat_lit 17)) (nat_lit 17) :=
  nx (nx (nx (nx (nx (nx (nx (nx (nx (nx (nx (nx (nx (nx (nx (nx (nx trivial r17_0) r17_1) r17_2) r17_3) r17_4) r17_5) r17_6) r17_7) r17_8) r17_9) r17_10) r17_11) r17_12) r17_13) r17_14) r17_15) r17_16
theorem all18 : AllR (.ofNat (nat_lit 17)) (.ofNat (nat_lit 18)) (nat_lit 18) :=
  nx (nx (nx (nx (nx (nx (nx (nx (nx (nx (nx (nx (nx (nx (nx (nx (nx (nx trivial r18_0) r18_1) r18_2) r18_3) r18_4) r18_5) r18_6) r18_7) r18_8) r18_9) r18_10) r18_11) r18_12) r18_13) r18_14) r18_15) r18_16) r18_17
theorem all19 : AllR (.ofNat (nat_lit 18)) (.ofNat (nat_lit 19)) (nat_lit 19) :=
  nx (nx (nx (nx (nx (nx (nx (nx (nx (nx (nx (nx (nx (nx (nx (nx (nx (nx (nx trivial r19_0) r19_1) r19_2) r19_3) r19_4) r19_5) r19_6) r19_7) r19_8) r19_9) r19_10) r19_11) r19_12) r19_13) r19_14) r19_15) r19_16) r19_17) r19_18
theorem all20 : AllR (.ofNat (nat_lit 19)) (.ofNat (nat_lit 20)) (nat_lit 20) :=
  nx (nx (nx (nx (nx (nx (nx (nx (nx (nx (nx (nx (nx (nx (nx (nx (nx (nx (nx (nx trivial r20_0) r20_1) r20_2) r20_3) r20_4) r20_5) r20_6) r20_7) r20_8) r20_9) r20_10) r20_11) r20_12) r20_13) r20_14) r20_15) r20_16) r20_17) r20_18) r20_19
theorem all21 : AllR (.ofNat (nat_lit 20)) (.ofNat (nat_lit 21)) (nat_lit 21) :=
  nx (nx (nx (nx (nx (nx (nx (nx (nx (nx (nx (nx (nx (nx (nx (nx (nx (nx (nx (nx (nx trivial r21_0) r21_1) r21_2) r21_3) r21_4) r21_5) r21_6) r21_7) r21_8) r21_9) r21_10) r21_11) r21_12) r21_13) r21_14) r21_15) r21_16) r21_17) r21_18) r21_19) r21_20
theorem all22 : AllR (.ofNat (nat_lit 21)) (.ofNat (nat_lit 22)) (nat_lit 22) :=
  nx (nx (nx (nx (nx (nx (nx (nx (nx (nx (nx (nx (nx (nx (nx (nx (nx (nx (nx (nx (nx (nx trivial r22_0) r22_1) r22_2) r22_3) r22_4) r22_5) r22_6) r22_7) r22_8) r22_9) r22_10) r22_11) r22_12) r22_13) r22_14) r22_15) r22_16) r22_17) r22_18) r22_19) r22_20) r22_21
theorem all23 : AllR (.ofNat (nat_lit 22)) (.ofNat (nat_lit 23)) (nat_lit 23) :=
  nx (nx (nx (nx (nx (nx (nx (nx (nx (nx (nx (nx (nx (nx (nx (nx (nx (nx (nx (nx (nx (nx (nx trivial r23_0) r23_1) r23_2) r23_3) r23_4) r23_5) r23_6) r23_7) r23_8) r23_9) r23_10) r23_11) r23_12) r23_13) r23_14) r23_15) r23_16) r23_17) r23_18) r23_19) r23_20) r23_21) r23_22
theorem all24 : AllR (.ofNat (nat_lit 23)) (.ofNat (nat_lit 24)) (nat_lit 24) :=
  nx (nx (nx (nx (nx (nx (nx (nx (nx (nx (nx (nx (nx (nx (nx (nx (nx (nx (nx (nx (nx (nx (nx (nx trivial r24_0) r24_1) r24_2) r24_3) r24_4) r24_5) r24_6) r24_7) r24_8) r24_9) r24_10) r24_11) r24_12) r24_13) r24_14) r24_15) r24_16) r24_17) r24_18) r24_19) r24_20) r24_21) r24_22) r24_23
theorem all25 : AllR (.ofNat (nat_lit 24)) (.ofNat (nat_lit 25)) (nat_lit 25) :=
  nx (nx (nx (nx (nx (nx (nx (nx (nx (nx (nx (nx (nx (nx (nx (nx (nx (nx (nx (nx (nx (nx (nx (nx (nx trivial r25_0) r25_1) r25_2) r25_3) r25_4) r25_5) r25_6) r25_7) r25_8) r25_9) r25_10) r25_11) r25_12) r25_13) r25_14) r25_15) r25_16) r25_17) r25_18) r25_19) r25_20) r25_21) r25_22) r25_23) r25_24
theorem all26 : AllR (.ofNat (nat_lit 25)) (.ofNat (nat_lit 26)) (nat_lit 26) :=
  nx (nx (nx (nx (nx (nx (nx (nx (nx (nx (nx (nx (nx (nx (nx (nx (nx (nx (nx (nx (nx (nx (nx (nx (nx (nx trivial r26_0) r26_1) r26_2) r26_3) r26_4) r26_5) r26_6) r26_7) r26_8) r26_9) r26_10) r26_11) r26_12) r26_13) r26_14) r26_15) r26_16) r26_17) r26_18) r26_19) r26_20) r26_21) r26_22) r26_23) r26_24) r26_25
theorem all27 : AllR (.ofNat (nat_lit 26)) (.ofNat (nat_lit 27)) (nat_lit 27) :=
  nx (nx (nx (nx (nx (nx (nx (nx (nx (nx (nx (nx (nx (nx (nx (nx (nx (nx (nx (nx (nx (nx (nx (nx (nx (nx (nx trivial r27_0) r27_1) r27_2) r27_3) r27_4) r27_5) r27_6) r27_7) r27_8) r27_9) r27_10) r27_11) r27_12) r27_13) r27_14) r27_15) r27_16) r27_17) r27_18) r27_19) r27_20) r27_21) r27_22) r27_23) r27_24) r27_25) r27_26
theorem all28 : AllR (.ofNat (nat_lit 27)) (.ofNat (nat_lit 28)) (nat_lit 28) :=
  nx (nx (nx (nx (nx (nx (nx (nx (nx (nx (nx (nx (nx (nx (nx (nx (nx (nx (nx (nx (nx (nx (nx (nx (nx (nx (nx (nx trivial r28_0) r28_1) r28_2) r28_3) r28_4) r28_5) r28_6) r28_7) r28_8) r28_9) r28_10) r28_11) r28_12) r28_13) r28_14) r28_15) r28_16) r28_17) r28_18) r28_19) r28_20) r28_21) r28_22) r28_23) r28_24) r28_25) r28_26) r28_27
theorem all29 : AllR (.ofNat (nat_lit 28)) (.ofNat (nat_lit 29)) (nat_lit 29) :=
  nx (nx (nx (nx (nx (nx (nx (nx (nx (nx (nx (nx (nx (nx (nx (nx (nx (nx (nx (nx (nx (nx (nx (nx (nx (nx (nx (nx (nx trivial r29_0) r29_1) r29_2) r29_3) r29_4) r29_5) r29_6) r29_7) r29_8) r29_9) r29_10) r29_11) r29_12) r29_13) r29_14) r29_15) r29_16) r29_17) r29_18) r29_19) r29_20) r29_21) r29_22) r29_23) r29_24) r29_25) r29_26) r29_27) r29_28
theorem all30 : AllR (.ofNat (nat_lit 29)) (.ofNat (nat_lit 30)) (nat_lit 30) :=
  nx (nx (nx (nx (nx (nx (nx (nx (nx (nx (nx (nx (nx (nx (nx (nx (nx (nx (nx (nx (nx (nx (nx (nx (nx (nx (nx (nx (nx (nx trivial r30_0) r30_1) r30_2) r30_3) r30_4) r30_5) r30_6) r30_7) r30_8) r30_9) r30_10) r30_11) r30_12) r30_13) r30_14) r30_15) r30_16) r30_17) r30_18) r30_19) r30_20) r30_21) r30_22) r30_23) r30_24) r30_25) r30_26) r30_27) r30_28) r30_29
theorem all31 : AllR (.ofNat (nat_lit 30)) (.ofNat (nat_lit 31)) (nat_lit 31) :=
  nx (nx (nx (nx (nx (nx (nx (nx (nx (nx (nx (nx (nx (nx (nx (nx (nx (nx (nx (nx (nx (nx (nx (nx (nx (nx (nx (nx (nx (nx (nx trivial r31_0) r31_1) r31_2) r31_3) r31_4) r31_5) r31_6) r31_7) r31_8) r31_9) r31_10) r31_11) r31_12) r31_13) r31_14) r31_15) r31_16) r31_17) r31_18) r31_19) r31_20) r31_21) r31_22) r31_23) r31_24) r31_25) r31_26) r31_27) r31_28) r31_29) r31_30
theorem all32 : AllR (.ofNat (nat_lit 31)) (.ofNat (nat_lit 32)) (nat_lit 32) :=
  nx (nx (nx (nx (nx (nx (nx (nx (nx (nx (nx (nx (nx (nx (nx (nx (nx (nx (nx (nx (nx (nx (nx (nx (nx (nx (nx (nx (nx (nx (nx (nx trivial r32_0) r32_1) r32_2) r32_3) r32_4) r32_5) r32_6) r32_7) r32_8) r32_9) r32_10) r32_11) r32_12) r32_13) r32_14) r32_15) r32_16) r32_17) r32_18) r32_19) r32_20) r32_21) r32_22) r32_23) r32_24) r32_25) r32_26) r32_27) r32_28) r32_29) r32_30) r32_31
theorem walk (a0 : Int) (a1 : Int) (w0 : (Lit.int .i64 a0).wf = true) (w1 : (Lit.int .i64 a1).wf = true) (w : World) (hgl : GlOk gl w) :
    Calls Tryz.prog 4 #[.int .i64 a0, .int .i64 a1] w fun e w' => e = .returned (.bool true) ∧ Below w.heap.size w w' := by
  have g0 := rng0 a0
  by_cases q1 : opVal .and .i64 a0 31 < 16
  ·
    by_cases q2 : opVal .and .i64 a0 31 < 8
    ·
      by_cases q3 : opVal .and .i64 a0 31 < 4
      ·
        by_cases q4 : opVal .and .i64 a0 31 < 2
        ·
          by_cases q5 : opVal .and .i64 a0 31 < 1
          ·
            exact at_k (n := nat_lit 0) f1 all1 (by show _ = (0 : Int); omega) w hgl
          ·
            exact at_k (n := nat_lit 1) f2 all2 (by show _ = (1 : Int); omega) w hgl
        ·
          by_cases q5 : opVal .and .i64 a0 31 < 3
          ·
            exact at_k (n := nat_lit 2) f3 all3 (by show _ = (2 : Int); omega) w hgl
          ·
            exact at_k (n := nat_lit 3) f4 all4 (by show _ = (3 : Int); omega) w hgl
      ·
        by_cases q4 : opVal .and .i64 a0 31 < 6
        ·
          by_cases q5 : opVal .and .i64 a0 31 < 5
          ·
            exact at_k (n := nat_lit 4) f5 all5 (by show _ = (4 : Int); omega) w hgl
          ·
            exact at_k (n := nat_lit 5) f6 all6 (by show _ = (5 : Int); omega) w hgl
        ·
          by_cases q5 : opVal .and .i64 a0 31 < 7
          ·
            exact at_k (n := nat_lit 6) f7 all7 (by show _ = (6 : Int); omega) w hgl
          ·
            exact at_k (n := nat_lit 7) f8 all8 (by show _ = (7 : Int); omega) w hgl
    ·
      by_cases q3 : opVal .and .i64 a0 31 < 12
      ·
        by_cases q4 : opVal .and .i64 a0 31 < 10
        ·
          by_cases q5 : opVal .and .i64 a0 31 < 9
          ·
            exact at_k (n := nat_lit 8) f9 all9 (by show _ = (8 : Int); omega) w hgl
          ·
            exact at_k (n := nat_lit 9) f10 all10 (by show _ = (9 : Int); omega) w hgl
        ·
          by_cases q5 : opVal .and .i64 a0 31 < 11
          ·
            exact at_k (n := nat_lit 10) f11 all11 (by show _ = (10 : Int); omega) w hgl
          ·
            exact at_k (n := nat_lit 11) f12 all12 (by show _ = (11 : Int); omega) w hgl
      ·
        by_cases q4 : opVal .and .i64 a0 31 < 14
        ·
          by_cases q5 : opVal .and .i64 a0 31 < 13
          ·
            exact at_k (n := nat_lit 12) f13 all13 (by show _ = (12 : Int); omega) w hgl
          ·
            exact at_k (n := nat_lit 13) f14 all14 (by show _ = (13 : Int); omega) w hgl
        ·
          by_cases q5 : opVal .and .i64 a0 31 < 15
          ·
            exact at_k (n := nat_lit 14) f15 all15 (by show _ = (14 : Int); omega) w hgl
          ·
            exact at_k (n := nat_lit 15) f16 all16 (by show _ = (15 : Int); omega) w hgl
  ·
    by_cases q2 : opVal .and .i64 a0 31 < 24
    ·
      by_cases q3 : opVal .and .i64 a0 31 < 20
      ·
        by_cases q4 : opVal .and .i64 a0 31 < 18
        ·
          by_cases q5 : opVal .and .i64 a0 31 < 17
          ·
            exact at_k (n := nat_lit 16) f17 all17 (by show _ = (16 : Int); omega) w hgl
          ·
            exact at_k (n := nat_lit 17) f18 all18 (by show _ = (17 : Int); omega) w hgl
        ·
          by_cases q5 : opVal .and .i64 a0 31 < 19
          ·
            exact at_k (n := nat_lit 18) f19 all19 (by show _ = (18 : Int); omega) w hgl
          ·
            exact at_k (n := nat_lit 19) f20 all20 (by show _ = (19 : Int); omega) w hgl
      ·
        by_cases q4 : opVal .and .i64 a0 31 < 22
        ·
          by_cases q5 : opVal .and .i64 a0 31 < 21
          ·
            exact at_k (n := nat_lit 20) f21 all21 (by show _ = (20 : Int); omega) w hgl
          ·
            exact at_k (n := nat_lit 21) f22 all22 (by show _ = (21 : Int); omega) w hgl
        ·
          by_cases q5 : opVal .and .i64 a0 31 < 23
          ·
            exact at_k (n := nat_lit 22) f23 all23 (by show _ = (22 : Int); omega) w hgl
          ·
            exact at_k (n := nat_lit 23) f24 all24 (by show _ = (23 : Int); omega) w hgl
    ·
      by_cases q3 : opVal .and .i64 a0 31 < 28
      ·
        by_cases q4 : opVal .and .i64 a0 31 < 26
        ·
          by_cases q5 : opVal .and .i64 a0 31 < 25
          ·
            exact at_k (n := nat_lit 24) f25 all25 (by show _ = (24 : Int); omega) w hgl
          ·
            exact at_k (n := nat_lit 25) f26 all26 (by show _ = (25 : Int); omega) w hgl
        ·
          by_cases q5 : opVal .and .i64 a0 31 < 27
          ·
            exact at_k (n := nat_lit 26) f27 all27 (by show _ = (26 : Int); omega) w hgl
          ·
            exact at_k (n := nat_lit 27) f28 all28 (by show _ = (27 : Int); omega) w hgl
      ·
        by_cases q4 : opVal .and .i64 a0 31 < 30
        ·
          by_cases q5 : opVal .and .i64 a0 31 < 29
          ·
            exact at_k (n := nat_lit 28) f29 all29 (by show _ = (28 : Int); omega) w hgl
          ·
            exact at_k (n := nat_lit 29) f30 all30 (by show _ = (29 : Int); omega) w hgl
        ·
          by_cases q5 : opVal .and .i64 a0 31 < 31
          ·
            exact at_k (n := nat_lit 30) f31 all31 (by show _ = (30 : Int); omega) w hgl
          ·
            exact at_k (n := nat_lit 31) f32 all32 (by show _ = (31 : Int); omega) w hgl

/-! ### THE ROW's STEP: WRITTEN OUT: LEAVE IT -/
set_option maxRecDepth 100000 in
theorem lifted (os : Os) (started : os.Started) (H : Type) (enc : TypeId × Value → H) :
    ReturnsInHanded {} Tryz.checked os 4 .any (fun w args => (Rows.modelRefArraysSpec.pre enc Tryz.prog Tryz.f4 Rows.modelRefArraysRow.domain false w args ∧ laidMet Tryz.prog Rows.modelRefArraysRow.laid w) ∧ sizedMet enc Tryz.prog Tryz.f4 (OpenSpec.ofChange Rows.modelRefArraysSpec) false w args) (Rows.modelRefArraysSpec.post enc Tryz.prog Tryz.f4 false true false false) := by
  refine returnsInHanded_of_change_and (C := Tryz.checked) (X := fun w _ => laidMet Tryz.prog Rows.modelRefArraysRow.laid w) (fun _ _ _ hh h => h.of_heap hh) own started (by kernel_rfl) Tryz.func4
    (ChangeSpec.witness_shaped (enc := enc) (C := Tryz.checked) (os := os) (X := fun w _ => laidMet Tryz.prog Rows.modelRefArraysRow.laid w) false (laidWorld os #[.int .i64 0, .int .i64 0]) #[.int .i64 0, .int .i64 0] 8 rfl (World.shaped_of_RefB (by kernel_rfl) (by kernel_rfl)) (by kernel_rfl) (by kernel_rfl) (by kernel_rfl) (laid_met_modelRefArrays os _ _)) ?_
  intro W base args ds gs before hval0 hW hcnd _ hL _
  have hval : ∀ (j : Nat) t v, Tryz.f4.params[j]? = some t → args[j]? = some v → Value.okWide Tryz.prog W .any base t v := hval0
  have hW' := hW
  obtain ⟨p, q, hA0, hV, rfl, hfz, hnd⟩ := hW
  have hA : DataW.TrodAll enc Tryz.prog W 0 (fun _ => true) true Tryz.f4.params.toList args.toList ds p := hA0
  rw [Tryz.params4] at hA hval
  obtain ⟨v0, vs0, d0, ds0, p0, q0, hargs, rfl, rfl, h0, r0⟩ := trodAll_cons hA
  obtain ⟨v1, vs1, d1, ds1, p1, q1, rfl, rfl, rfl, h1, r1⟩ := trodAll_cons r0
  obtain ⟨rfl, rfl, rfl⟩ := trodAll_nil r1
  obtain rfl : args = #[v0, v1] := by cases args; simp_all
  obtain ⟨rfl, rfl⟩ := trodVars_none hV
  obtain ⟨a0, rfl, rfl, rfl, w0⟩ := open_int Tryz.underlying3 (hval 0 3 v0 rfl rfl) h0
  obtain ⟨a1, rfl, rfl, rfl, w1⟩ := open_int Tryz.underlying3 (hval 1 3 v1 rfl rfl) h1
  clear hA0 hval0
  simp only [List.append_nil] at hW'
  refine (walk a0 a1 w0 w1 W (gl_of_laid_modelRefArrays hL)).mono fun e W' ⟨he, hg⟩ => ?_
  subst he
  exact ⟨_, rfl, post_of_below (pa := []) (pv := []) hW' (fun _ _ _ => (trodAll_cons_mk (shut_bool Tryz.underlying4 _) trodAll_mk0)) (fun sp _ => (trodAll_cons_mk (shut_int Tryz.underlying3 w0) (trodAll_cons_mk (shut_int Tryz.underlying3 w1) trodAll_mk0))) (fun _ _ => rfl) rfl
    hg (ok_one (by kernel_rfl) rfl (okWide_bool_mk Tryz.underlying4 _))⟩

theorem over : Rows.modelRefArraysRow.holds Tryz.pinned (OpenSpec.ofChange Rows.modelRefArraysSpec) :=
  OpenClaim.holds_of_wide 4 Tryz.f4 rfl rfl rfl rfl rfl rfl rfl ⟨rfl, rfl, rfl, rfl, rfl⟩ rfl rfl rfl rfl rfl (by kernel_rfl) Tryz.func4 joined
    (of_decide_eq_true (by kernel_rfl)) (by unfold Func.isWrapper; first | (rw [if_pos (by decide +kernel)]; kernel_rfl) | (rw [if_neg (by decide +kernel)]; exact ⟨rfl, rfl⟩))
    (fun os started H enc _ => lifted os started H enc)

/-- ████ THE STATEMENT ████ -/
theorem proved : Rows.ModelRefArraysCardSaid :=
  Claim7.holds_tied_plain_at .later [] [.listed, .data] true (true, "8609ea2ad4fb1bdddae7411b9f3c1d7cdb53ccd46ab9348ec24f64e3358e183c") true
    over (fun _ h => by cases h) g0 (fun _ h => by cases h) modelRefArrays_row_tie rfl ⟨rfl, rfl⟩ g1 rfl
    (fun f fn hf hfn => by
      obtain rfl : f = 4 := Option.some.inj (g2.symm.trans hf) |>.symm
      obtain rfl : fn = Tryz.f4 := (Option.some.inj (Tryz.func4.symm.trans hfn)).symm
      exact ⟨g3, fun j t ht => by
        rw [Tryz.params4] at ht
        have hm : t ∈ (Tryz.f4.params : Array TypeId).toList := by
          rw [Tryz.params4]
          exact Array.mem_toList_iff.2 (Array.mem_of_getElem? ht)
        have := List.all_eq_true.1 g4 t hm
        have h2 : Tryz.prog.wantsStandIn t = false := by simpa using this
        exact h2⟩)
    g5
#print axioms proved
end Go.Proofs.YtocficcmdlfafaaGreatDoor.modelRefArrays
