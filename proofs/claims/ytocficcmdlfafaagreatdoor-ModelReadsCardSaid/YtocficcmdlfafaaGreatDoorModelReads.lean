/- gneiss/gneisslaw21.ModelReads answers true at every input, and leaves its arguments as they were. No conditions. -/
import Derived.Test.YtocficcmdlfafaaGreatDoorRows
import Derived.WalkKit
import Derived.ProofKit
import Derived.OpenShut
import Derived.Below
import Derived.ChangeSame
import Derived.ShutString
import Derived.ChangeOld
import Derived.Test.YtocficcmdlfafaaGreatDoorModelReadsR0
import Derived.Test.YtocficcmdlfafaaGreatDoorModelReadsR1
import Derived.Test.YtocficcmdlfafaaGreatDoorModelReadsR2
import Derived.Test.YtocficcmdlfafaaGreatDoorModelReadsR3
import Derived.Test.YtocficcmdlfafaaGreatDoorModelReadsR4
import Derived.Test.YtocficcmdlfafaaGreatDoorModelReadsR5
import Derived.Test.YtocficcmdlfafaaGreatDoorModelReadsR6
import Derived.Test.YtocficcmdlfafaaGreatDoorModelReadsR7
import Derived.Test.YtocficcmdlfafaaGreatDoorModelReadsR8
import Derived.Test.YtocficcmdlfafaaGreatDoorModelReadsR9
import Derived.Test.YtocficcmdlfafaaGreatDoorModelReadsR10
import Derived.Test.YtocficcmdlfafaaGreatDoorLaid
import Derived.Test.YtocficcmdlfafaaGreatDoorTie
import Derived.Test.YtocficcmdlfafaaGreatDoorModelReadsJ
import Derived.Test.YtocficcmdlfafaaGreatDoorCards
import Derived.SevenTiedAt
namespace Go.Proofs.YtocficcmdlfafaaGreatDoor.modelReads
open Go.Ai Go.ChangeShapes Go.WideShapes Go.ChangeAt Go.RowKit
set_option linter.unusedVariables false

theorem own : ownKnob Tryz.prog.godebug = none := by kernel_rfl

section
variable {H : Type} {enc : TypeId × Value → H} {P : Program}
theorem post_of_below {f : Func} {s : ChangeSpec} {apart fresh handsOn again : Bool} {W W' : World} {args : Array Value} {v : Value} {ds gs : List (DataW H)} {before pa pv : List MemPlace}
    (hW : DataW.Whole enc P f.params.toList s.vars apart W args.toList ds gs before)
    (hres : ∀ (b : Nat) (sp : Nat → Bool) (hd : Bool), DataW.TrodAll enc P W' b sp hd f.resultTypes.toList (v.resultList f.resultTypes.size) (s.fn H (ds ++ gs)).results [])
    (hargs : ∀ sp : Nat → Bool, (∀ p ∈ before, sp p.block = true) → DataW.TrodAll enc P W' 0 sp true f.params.toList args.toList (s.fn H (ds ++ gs)).args pa)
    (hvars : ∀ sp : Nat → Bool, (∀ p ∈ before, sp p.block = true) → DataW.TrodVars enc P W' sp s.vars (s.fn H (ds ++ gs)).vars pv)
    (hps : before = pa ++ pv) (hb : Below W.heap.size W W')
    (hok : ∀ (j : Nat) (t : TypeId) (r : Value), f.resultTypes[j]? = some t → (v.resultList f.resultTypes.size)[j]? = some r → Value.okWide P W' .any 0 t r) :
    s.post enc P f apart fresh handsOn again W args v W' := by
  have hlt : ∀ p ∈ before, p.block < W.heap.size := fun p hp => hW.lt p hp
  have hold : ∀ p ∈ before, (fun b => decide (b < W.heap.size)) p.block = true := fun p hp => by simpa using hlt p hp
  refine ⟨ds, gs, before, [], pa, pv, hW, hres _ _ _, hargs _ hold, hvars _ hold, World.keptBut_mono (fun p hp => ⟨hp, ?_⟩) (hb.frame (· ∈ before)), fun _ => ?_⟩
  · rw [hps, List.mem_append] at hp
    exact Or.inr hp
  · obtain ⟨_, _, _, _, _, hz, hn⟩ := hW
    refine ⟨hok, _, _, ([] ++ pa) ++ pv, ⟨[] ++ pa, pv, trodAll_append (hargs _ (fun _ _ => rfl)) (hres _ _ _), hvars _ (fun _ _ => rfl), rfl, ?_, ?_⟩, ?_⟩
    · intro b off hp
      have hin : MemPlace.cell b off ∈ before := by rw [hps]; simpa using hp
      rw [hb.frozen (hlt _ hin)]
      exact hz b off hin
    · intro ha
      have := hn ha
      rw [hps] at this
      simpa using this
    · intro p hp _
      rw [hps]
      simpa using hp
end
/-- what the walk is told of the slice that came in -/
def IsRow (k : IntKind) (w : World) (a : Option Addr) (len cap : Nat) (zs : List Int) : Prop :=
  (a = none ∧ len = 0 ∧ cap = 0 ∧ zs = []) ∨
  ∃ x, a = some x ∧ len ≤ cap ∧ cap ≤ maxLen ∧ zs.length = cap ∧ (∀ i, i < zs.length → w.cell? (x.add i) = some (.int k (zs.getD i 0))) ∧ ∀ n ∈ zs, (Lit.int k n).wf = true
/-! ### the walk: by the abstract machine -/
theorem walk (a0 : Option Addr) (len0 cap0 : Nat) (z0 : List Int) (a1 : Int) (w : World) (w0 : IsRow .i64 w a0 len0 cap0 z0) (hgl : GlOk gl w) :
    Calls Tryz.prog 7 #[.slice a0 len0 cap0, .int .i64 a1] w fun e w' => e = .returned (.bool true) ∧ Below w.heap.size w w' := by
  have g1 := rng a1
  rcases w0 with ⟨rfl, rfl, rfl, rfl⟩ | ⟨x, rfl, hl, hmx, hzl, hc, _⟩
  ·
    by_cases q2 : opVal .and .i64 a1 7 < 4
    ·
      by_cases q3 : opVal .and .i64 a1 7 < 2
      ·
        by_cases q4 : opVal .and .i64 a1 7 < 1
        ·
          have hk : opVal .and .i64 a1 7 = 0 := by omega
          exact at_n rn_0 hk (by decide) hgl
        ·
          have hk : opVal .and .i64 a1 7 = 1 := by omega
          exact at_n rn_1 hk (by decide) hgl
      ·
        by_cases q4 : opVal .and .i64 a1 7 < 3
        ·
          have hk : opVal .and .i64 a1 7 = 2 := by omega
          exact at_n rn_2 hk (by decide) hgl
        ·
          have hk : opVal .and .i64 a1 7 = 3 := by omega
          exact at_n rn_3 hk (by decide) hgl
    ·
      by_cases q3 : opVal .and .i64 a1 7 < 6
      ·
        by_cases q4 : opVal .and .i64 a1 7 < 5
        ·
          have hk : opVal .and .i64 a1 7 = 4 := by omega
          exact at_n rn_4 hk (by decide) hgl
        ·
          have hk : opVal .and .i64 a1 7 = 5 := by omega
          exact at_n rn_5 hk (by decide) hgl
      ·
        by_cases q4 : opVal .and .i64 a1 7 < 7
        ·
          have hk : opVal .and .i64 a1 7 = 6 := by omega
          exact at_n rn_6 hk (by decide) hgl
        ·
          have hk : opVal .and .i64 a1 7 = 7 := by omega
          exact at_n rn_7 hk (by decide) hgl
  ·
    have hz : len0 ≤ z0.length := by omega
    have hmx : cap0 ≤ 9223372036854775807 := Nat.le_trans hmx (by decide)
    by_cases q2 : opVal .and .i64 a1 7 < 4
    ·
      by_cases q3 : opVal .and .i64 a1 7 < 2
      ·
        by_cases q4 : opVal .and .i64 a1 7 < 1
        ·
          have hk : opVal .and .i64 a1 7 = 0 := by omega
          by_cases p5 : len0 < 5
          ·
            by_cases p6 : len0 < 2
            ·
              by_cases p7 : len0 < 1
              ·
                exact at_x hz hc (by omega : 0 ≤ len0) r0_0 hk ⟨(by show (0 : Int) ≤ (len0 : Int); omega), (by show (len0 : Int) ≤ (0 : Int); omega)⟩ hgl
              ·
                exact at_x hz hc (by omega : 1 ≤ len0) r1_0 hk ⟨(by show (1 : Int) ≤ (len0 : Int); omega), (by show (len0 : Int) ≤ (1 : Int); omega)⟩ hgl
            ·
              by_cases p7 : len0 < 3
              ·
                exact at_x hz hc (by omega : 2 ≤ len0) r2_0 hk ⟨(by show (2 : Int) ≤ (len0 : Int); omega), (by show (len0 : Int) ≤ (2 : Int); omega)⟩ hgl
              ·
                by_cases p8 : len0 < 4
                ·
                  exact at_x hz hc (by omega : 3 ≤ len0) r3_0 hk ⟨(by show (3 : Int) ≤ (len0 : Int); omega), (by show (len0 : Int) ≤ (3 : Int); omega)⟩ hgl
                ·
                  exact at_x hz hc (by omega : 4 ≤ len0) r4_0 hk ⟨(by show (4 : Int) ≤ (len0 : Int); omega), (by show (len0 : Int) ≤ (4 : Int); omega)⟩ hgl
          ·
            by_cases p6 : len0 < 7
            ·
              by_cases p7 : len0 < 6
              ·
                exact at_x hz hc (by omega : 5 ≤ len0) r5_0 hk ⟨(by show (5 : Int) ≤ (len0 : Int); omega), (by show (len0 : Int) ≤ (5 : Int); omega)⟩ hgl
              ·
                exact at_x hz hc (by omega : 6 ≤ len0) r6_0 hk ⟨(by show (6 : Int) ≤ (len0 : Int); omega), (by show (len0 : Int) ≤ (6 : Int); omega)⟩ hgl
            ·
              by_cases p7 : len0 < 8
              ·
                exact at_x hz hc (by omega : 7 ≤ len0) r7_0 hk ⟨(by show (7 : Int) ≤ (len0 : Int); omega), (by show (len0 : Int) ≤ (7 : Int); omega)⟩ hgl
              ·
                by_cases p8 : len0 < 9
                ·
                  exact at_x hz hc (by omega : 8 ≤ len0) r8_0 hk ⟨(by show (8 : Int) ≤ (len0 : Int); omega), (by show (len0 : Int) ≤ (8 : Int); omega)⟩ hgl
                ·
                  exact at_x hz hc (by omega : 9 ≤ len0) r9_0 hk ⟨(by show (9 : Int) ≤ (len0 : Int); omega), (by show (len0 : Int) ≤ (9223372036854775807 : Int); omega)⟩ hgl
        ·
          have hk : opVal .and .i64 a1 7 = 1 := by omega
          by_cases p5 : len0 < 5
          ·
            by_cases p6 : len0 < 2
            ·
              by_cases p7 : len0 < 1
              ·
                exact at_x hz hc (by omega : 0 ≤ len0) r0_1 hk ⟨(by show (0 : Int) ≤ (len0 : Int); omega), (by show (len0 : Int) ≤ (0 : Int); omega)⟩ hgl
              ·
                exact at_x hz hc (by omega : 1 ≤ len0) r1_1 hk ⟨(by show (1 : Int) ≤ (len0 : Int); omega), (by show (len0 : Int) ≤ (1 : Int); omega)⟩ hgl
            ·
              by_cases p7 : len0 < 3
              ·
                exact at_x hz hc (by omega : 2 ≤ len0) r2_1 hk ⟨(by show (2 : Int) ≤ (len0 : Int); omega), (by show (len0 : Int) ≤ (2 : Int); omega)⟩ hgl
              ·
                by_cases p8 : len0 < 4
                ·
                  exact at_x hz hc (by omega : 3 ≤ len0) r3_1 hk ⟨(by show (3 : Int) ≤ (len0 : Int); omega), (by show (len0 : Int) ≤ (3 : Int); omega)⟩ hgl
                ·
                  exact at_x hz hc (by omega : 4 ≤ len0) r4_1 hk ⟨(by show (4 : Int) ≤ (len0 : Int); omega), (by show (len0 : Int) ≤ (4 : Int); omega)⟩ hgl
          ·
            by_cases p6 : len0 < 7
            ·
              by_cases p7 : len0 < 6
              ·
                exact at_x hz hc (by omega : 5 ≤ len0) r5_1 hk ⟨(by show (5 : Int) ≤ (len0 : Int); omega), (by show (len0 : Int) ≤ (5 : Int); omega)⟩ hgl
              ·
                exact at_x hz hc (by omega : 6 ≤ len0) r6_1 hk ⟨(by show (6 : Int) ≤ (len0 : Int); omega), (by show (len0 : Int) ≤ (6 : Int); omega)⟩ hgl
            ·
              by_cases p7 : len0 < 8
              ·
                exact at_x hz hc (by omega : 7 ≤ len0) r7_1 hk ⟨(by show (7 : Int) ≤ (len0 : Int); omega), (by show (len0 : Int) ≤ (7 : Int); omega)⟩ hgl
              ·
                by_cases p8 : len0 < 9
                ·
                  exact at_x hz hc (by omega : 8 ≤ len0) r8_1 hk ⟨(by show (8 : Int) ≤ (len0 : Int); omega), (by show (len0 : Int) ≤ (8 : Int); omega)⟩ hgl
                ·
                  exact at_x hz hc (by omega : 9 ≤ len0) r9_1 hk ⟨(by show (9 : Int) ≤ (len0 : Int); omega), (by show (len0 : Int) ≤ (9223372036854775807 : Int); omega)⟩ hgl
      ·
        by_cases q4 : opVal .and .i64 a1 7 < 3
        ·
          have hk : opVal .and .i64 a1 7 = 2 := by omega
          by_cases p5 : len0 < 5
          ·
            by_cases p6 : len0 < 2
            ·
              by_cases p7 : len0 < 1
              ·
                exact at_x hz hc (by omega : 0 ≤ len0) r0_2 hk ⟨(by show (0 : Int) ≤ (len0 : Int); omega), (by show (len0 : Int) ≤ (0 : Int); omega)⟩ hgl
              ·
                exact at_x hz hc (by omega : 1 ≤ len0) r1_2 hk ⟨(by show (1 : Int) ≤ (len0 : Int); omega), (by show (len0 : Int) ≤ (1 : Int); omega)⟩ hgl
            ·
              by_cases p7 : len0 < 3
              ·
                exact at_x hz hc (by omega : 2 ≤ len0) r2_2 hk ⟨(by show (2 : Int) ≤ (len0 : Int); omega), (by show (len0 : Int) ≤ (2 : Int); omega)⟩ hgl
              ·
                by_cases p8 : len0 < 4
                ·
                  exact at_x hz hc (by omega : 3 ≤ len0) r3_2 hk ⟨(by show (3 : Int) ≤ (len0 : Int); omega), (by show (len0 : Int) ≤ (3 : Int); omega)⟩ hgl
                ·
                  exact at_x hz hc (by omega : 4 ≤ len0) r4_2 hk ⟨(by show (4 : Int) ≤ (len0 : Int); omega), (by show (len0 : Int) ≤ (4 : Int); omega)⟩ hgl
          ·
            by_cases p6 : len0 < 7
            ·
              by_cases p7 : len0 < 6
              ·
                exact at_x hz hc (by omega : 5 ≤ len0) r5_2 hk ⟨(by show (5 : Int) ≤ (len0 : Int); omega), (by show (len0 : Int) ≤ (5 : Int); omega)⟩ hgl
              ·
                exact at_x hz hc (by omega : 6 ≤ len0) r6_2 hk ⟨(by show (6 : Int) ≤ (len0 : Int); omega), (by show (len0 : Int) ≤ (6 : Int); omega)⟩ hgl
            ·
              by_cases p7 : len0 < 8
              ·
                exact at_x hz hc (by omega : 7 ≤ len0) r7_2 hk ⟨(by show (7 : Int) ≤ (len0 : Int); omega), (by show (len0 : Int) ≤ (7 : Int); omega)⟩ hgl
              ·
                by_cases p8 : len0 < 9
                ·
                  exact at_x hz hc (by omega : 8 ≤ len0) r8_2 hk ⟨(by show (8 : Int) ≤ (len0 : Int); omega), (by show (len0 : Int) ≤ (8 : Int); omega)⟩ hgl
                ·
                  exact at_x hz hc (by omega : 9 ≤ len0) r9_2 hk ⟨(by show (9 : Int) ≤ (len0 : Int); omega), (by show (len0 : Int) ≤ (9223372036854775807 : Int); omega)⟩ hgl
        ·
          have hk : opVal .and .i64 a1 7 = 3 := by omega
          by_cases p5 : len0 < 5
          ·
            by_cases p6 : len0 < 2
            ·
              by_cases p7 : len0 < 1
              ·
                exact at_x hz hc (by omega : 0 ≤ len0) r0_3 hk ⟨(by show (0 : Int) ≤ (len0 : Int); omega), (by show (len0 : Int) ≤ (0 : Int); omega)⟩ hgl
              ·
                exact at_x hz hc (by omega : 1 ≤ len0) r1_3 hk ⟨(by show (1 : Int) ≤ (len0 : Int); omega), (by show (len0 : Int) ≤ (1 : Int); omega)⟩ hgl
            ·
              by_cases p7 : len0 < 3
              ·
                exact at_x hz hc (by omega : 2 ≤ len0) r2_3 hk ⟨(by show (2 : Int) ≤ (len0 : Int); omega), (by show (len0 : Int) ≤ (2 : Int); omega)⟩ hgl
              ·
                by_cases p8 : len0 < 4
                ·
                  exact at_x hz hc (by omega : 3 ≤ len0) r3_3 hk ⟨(by show (3 : Int) ≤ (len0 : Int); omega), (by show (len0 : Int) ≤ (3 : Int); omega)⟩ hgl
                ·
                  exact at_x hz hc (by omega : 4 ≤ len0) r4_3 hk ⟨(by show (4 : Int) ≤ (len0 : Int); omega), (by show (len0 : Int) ≤ (4 : Int); omega)⟩ hgl
          ·
            by_cases p6 : len0 < 7
            ·
              by_cases p7 : len0 < 6
              ·
                exact at_x hz hc (by omega : 5 ≤ len0) r5_3 hk ⟨(by show (5 : Int) ≤ (len0 : Int); omega), (by show (len0 : Int) ≤ (5 : Int); omega)⟩ hgl
              ·
                exact at_x hz hc (by omega : 6 ≤ len0) r6_3 hk ⟨(by show (6 : Int) ≤ (len0 : Int); omega), (by show (len0 : Int) ≤ (6 : Int); omega)⟩ hgl
            ·
              by_cases p7 : len0 < 8
              ·
                exact at_x hz hc (by omega : 7 ≤ len0) r7_3 hk ⟨(by show (7 : Int) ≤ (len0 : Int); omega), (by show (len0 : Int) ≤ (7 : Int); omega)⟩ hgl
              ·
                by_cases p8 : len0 < 9
                ·
                  exact at_x hz hc (by omega : 8 ≤ len0) r8_3 hk ⟨(by show (8 : Int) ≤ (len0 : Int); omega), (by show (len0 : Int) ≤ (8 : Int); omega)⟩ hgl
                ·
                  exact at_x hz hc (by omega : 9 ≤ len0) r9_3 hk ⟨(by show (9 : Int) ≤ (len0 : Int); omega), (by show (len0 : Int) ≤ (9223372036854775807 : Int); omega)⟩ hgl
    ·
      by_cases q3 : opVal .and .i64 a1 7 < 6
      ·
        by_cases q4 : opVal .and .i64 a1 7 < 5
        ·
          have hk : opVal .and .i64 a1 7 = 4 := by omega
          by_cases p5 : len0 < 5
          ·
            by_cases p6 : len0 < 2
            ·
              by_cases p7 : len0 < 1
              ·
                exact at_x hz hc (by omega : 0 ≤ len0) r0_4 hk ⟨(by show (0 : Int) ≤ (len0 : Int); omega), (by show (len0 : Int) ≤ (0 : Int); omega)⟩ hgl
              ·
                exact at_x hz hc (by omega : 1 ≤ len0) r1_4 hk ⟨(by show (1 : Int) ≤ (len0 : Int); omega), (by show (len0 : Int) ≤ (1 : Int); omega)⟩ hgl
            ·
              by_cases p7 : len0 < 3
              ·
                exact at_x hz hc (by omega : 2 ≤ len0) r2_4 hk ⟨(by show (2 : Int) ≤ (len0 : Int); omega), (by show (len0 : Int) ≤ (2 : Int); omega)⟩ hgl
              ·
                by_cases p8 : len0 < 4
                ·
                  exact at_x hz hc (by omega : 3 ≤ len0) r3_4 hk ⟨(by show (3 : Int) ≤ (len0 : Int); omega), (by show (len0 : Int) ≤ (3 : Int); omega)⟩ hgl
                ·
                  exact at_x hz hc (by omega : 4 ≤ len0) r4_4 hk ⟨(by show (4 : Int) ≤ (len0 : Int); omega), (by show (len0 : Int) ≤ (4 : Int); omega)⟩ hgl
          ·
            by_cases p6 : len0 < 7
            ·
              by_cases p7 : len0 < 6
              ·
                exact at_x hz hc (by omega : 5 ≤ len0) r5_4 hk ⟨(by show (5 : Int) ≤ (len0 : Int); omega), (by show (len0 : Int) ≤ (5 : Int); omega)⟩ hgl
              ·
                exact at_x hz hc (by omega : 6 ≤ len0) r6_4 hk ⟨(by show (6 : Int) ≤ (len0 : Int); omega), (by show (len0 : Int) ≤ (6 : Int); omega)⟩ hgl
            ·
              by_cases p7 : len0 < 8
              ·
                exact at_x hz hc (by omega : 7 ≤ len0) r7_4 hk ⟨(by show (7 : Int) ≤ (len0 : Int); omega), (by show (len0 : Int) ≤ (7 : Int); omega)⟩ hgl
              ·
                by_cases p8 : len0 < 9
                ·
                  exact at_x hz hc (by omega : 8 ≤ len0) r8_4 hk ⟨(by show (8 : Int) ≤ (len0 : Int); omega), (by show (len0 : Int) ≤ (8 : Int); omega)⟩ hgl
                ·
                  exact at_x hz hc (by omega : 9 ≤ len0) r9_4 hk ⟨(by show (9 : Int) ≤ (len0 : Int); omega), (by show (len0 : Int) ≤ (9223372036854775807 : Int); omega)⟩ hgl
        ·
          have hk : opVal .and .i64 a1 7 = 5 := by omega
          by_cases p5 : len0 < 5
          ·
            by_cases p6 : len0 < 2
            ·
              by_cases p7 : len0 < 1
              ·
                exact at_x hz hc (by omega : 0 ≤ len0) r0_5 hk ⟨(by show (0 : Int) ≤ (len0 : Int); omega), (by show (len0 : Int) ≤ (0 : Int); omega)⟩ hgl
              ·
                exact at_x hz hc (by omega : 1 ≤ len0) r1_5 hk ⟨(by show (1 : Int) ≤ (len0 : Int); omega), (by show (len0 : Int) ≤ (1 : Int); omega)⟩ hgl
            ·
              by_cases p7 : len0 < 3
              ·
                exact at_x hz hc (by omega : 2 ≤ len0) r2_5 hk ⟨(by show (2 : Int) ≤ (len0 : Int); omega), (by show (len0 : Int) ≤ (2 : Int); omega)⟩ hgl
              ·
                by_cases p8 : len0 < 4
                ·
                  exact at_x hz hc (by omega : 3 ≤ len0) r3_5 hk ⟨(by show (3 : Int) ≤ (len0 : Int); omega), (by show (len0 : Int) ≤ (3 : Int); omega)⟩ hgl
                ·
                  exact at_x hz hc (by omega : 4 ≤ len0) r4_5 hk ⟨(by show (4 : Int) ≤ (len0 : Int); omega), (by show (len0 : Int) ≤ (4 : Int); omega)⟩ hgl
          ·
            by_cases p6 : len0 < 7
            ·
              by_cases p7 : len0 < 6
              ·
                exact at_x hz hc (by omega : 5 ≤ len0) r5_5 hk ⟨(by show (5 : Int) ≤ (len0 : Int); omega), (by show (len0 : Int) ≤ (5 : Int); omega)⟩ hgl
              ·
                exact at_x hz hc (by omega : 6 ≤ len0) r6_5 hk ⟨(by show (6 : Int) ≤ (len0 : Int); omega), (by show (len0 : Int) ≤ (6 : Int); omega)⟩ hgl
            ·
              by_cases p7 : len0 < 8
              ·
                exact at_x hz hc (by omega : 7 ≤ len0) r7_5 hk ⟨(by show (7 : Int) ≤ (len0 : Int); omega), (by show (len0 : Int) ≤ (7 : Int); omega)⟩ hgl
              ·
                by_cases p8 : len0 < 9
                ·
                  exact at_x hz hc (by omega : 8 ≤ len0) r8_5 hk ⟨(by show (8 : Int) ≤ (len0 : Int); omega), (by show (len0 : Int) ≤ (8 : Int); omega)⟩ hgl
                ·
                  exact at_x hz hc (by omega : 9 ≤ len0) r9_5 hk ⟨(by show (9 : Int) ≤ (len0 : Int); omega), (by show (len0 : Int) ≤ (9223372036854775807 : Int); omega)⟩ hgl
      ·
        by_cases q4 : opVal .and .i64 a1 7 < 7
        ·
          have hk : opVal .and .i64 a1 7 = 6 := by omega
          by_cases p5 : len0 < 5
          ·
            by_cases p6 : len0 < 2
            ·
              by_cases p7 : len0 < 1
              ·
                exact at_x hz hc (by omega : 0 ≤ len0) r0_6 hk ⟨(by show (0 : Int) ≤ (len0 : Int); omega), (by show (len0 : Int) ≤ (0 : Int); omega)⟩ hgl
              ·
                exact at_x hz hc (by omega : 1 ≤ len0) r1_6 hk ⟨(by show (1 : Int) ≤ (len0 : Int); omega), (by show (len0 : Int) ≤ (1 : Int); omega)⟩ hgl
            ·
              by_cases p7 : len0 < 3
              ·
                exact at_x hz hc (by omega : 2 ≤ len0) r2_6 hk ⟨(by show (2 : Int) ≤ (len0 : Int); omega), (by show (len0 : Int) ≤ (2 : Int); omega)⟩ hgl
              ·
                by_cases p8 : len0 < 4
                ·
                  exact at_x hz hc (by omega : 3 ≤ len0) r3_6 hk ⟨(by show (3 : Int) ≤ (len0 : Int); omega), (by show (len0 : Int) ≤ (3 : Int); omega)⟩ hgl
                ·
                  exact at_x hz hc (by omega : 4 ≤ len0) r4_6 hk ⟨(by show (4 : Int) ≤ (len0 : Int); omega), (by show (len0 : Int) ≤ (4 : Int); omega)⟩ hgl
          ·
            by_cases p6 : len0 < 7
            ·
              by_cases p7 : len0 < 6
              ·
                exact at_x hz hc (by omega : 5 ≤ len0) r5_6 hk ⟨(by show (5 : Int) ≤ (len0 : Int); omega), (by show (len0 : Int) ≤ (5 : Int); omega)⟩ hgl
              ·
                exact at_x hz hc (by omega : 6 ≤ len0) r6_6 hk ⟨(by show (6 : Int) ≤ (len0 : Int); omega), (by show (len0 : Int) ≤ (6 : Int); omega)⟩ hgl
            ·
              by_cases p7 : len0 < 8
              ·
                exact at_x hz hc (by omega : 7 ≤ len0) r7_6 hk ⟨(by show (7 : Int) ≤ (len0 : Int); omega), (by show (len0 : Int) ≤ (7 : Int); omega)⟩ hgl
              ·
                by_cases p8 : len0 < 9
                ·
                  exact at_x hz hc (by omega : 8 ≤ len0) r8_6 hk ⟨(by show (8 : Int) ≤ (len0 : Int); omega), (by show (len0 : Int) ≤ (8 : Int); omega)⟩ hgl
                ·
                  exact at_x hz hc (by omega : 9 ≤ len0) r9_6 hk ⟨(by show (9 : Int) ≤ (len0 : Int); omega), (by show (len0 : Int) ≤ (9223372036854775807 : Int); omega)⟩ hgl
        ·
          have hk : opVal .and .i64 a1 7 = 7 := by omega
          by_cases p5 : len0 < 5
          ·
            by_cases p6 : len0 < 2
            ·
              by_cases p7 : len0 < 1
              ·
                exact at_x hz hc (by omega : 0 ≤ len0) r0_7 hk ⟨(by show (0 : Int) ≤ (len0 : Int); omega), (by show (len0 : Int) ≤ (0 : Int); omega)⟩ hgl
              ·
                exact at_x hz hc (by omega : 1 ≤ len0) r1_7 hk ⟨(by show (1 : Int) ≤ (len0 : Int); omega), (by show (len0 : Int) ≤ (1 : Int); omega)⟩ hgl
            ·
              by_cases p7 : len0 < 3
              ·
                exact at_x hz hc (by omega : 2 ≤ len0) r2_7 hk ⟨(by show (2 : Int) ≤ (len0 : Int); omega), (by show (len0 : Int) ≤ (2 : Int); omega)⟩ hgl
              ·
                by_cases p8 : len0 < 4
                ·
                  exact at_x hz hc (by omega : 3 ≤ len0) r3_7 hk ⟨(by show (3 : Int) ≤ (len0 : Int); omega), (by show (len0 : Int) ≤ (3 : Int); omega)⟩ hgl
                ·
                  exact at_x hz hc (by omega : 4 ≤ len0) r4_7 hk ⟨(by show (4 : Int) ≤ (len0 : Int); omega), (by show (len0 : Int) ≤ (4 : Int); omega)⟩ hgl
          ·
            by_cases p6 : len0 < 7
            ·
              by_cases p7 : len0 < 6
              ·
                exact at_x hz hc (by omega : 5 ≤ len0) r5_7 hk ⟨(by show (5 : Int) ≤ (len0 : Int); omega), (by show (len0 : Int) ≤ (5 : Int); omega)⟩ hgl
              ·
                exact at_x hz hc (by omega : 6 ≤ len0) r6_7 hk ⟨(by show (6 : Int) ≤ (len0 : Int); omega), (by show (len0 : Int) ≤ (6 : Int); omega)⟩ hgl
            ·
              by_cases p7 : len0 < 8
              ·
                exact at_x hz hc (by omega : 7 ≤ len0) r7_7 hk ⟨(by show (7 : Int) ≤ (len0 : Int); omega), (by show (len0 : Int) ≤ (7 : Int); omega)⟩ hgl
              ·
                by_cases p8 : len0 < 9
                ·
                  exact at_x hz hc (by omega : 8 ≤ len0) r8_7 hk ⟨(by show (8 : Int) ≤ (len0 : Int); omega), (by show (len0 : Int) ≤ (8 : Int); omega)⟩ hgl
                ·
                  exact at_x hz hc (by omega : 9 ≤ len0) r9_7 hk ⟨(by show (9 : Int) ≤ (len0 : Int); omega), (by show (len0 : Int) ≤ (9223372036854775807 : Int); omega)⟩ hgl

/-! ### THE ROW's STEP: WRITTEN OUT: LEAVE IT -/
set_option maxRecDepth 100000 in
theorem lifted (os : Os) (started : os.Started) (H : Type) (enc : TypeId × Value → H) :
    ReturnsInHanded {} Tryz.checked os 7 .any (fun w args => (Rows.modelReadsSpec.pre enc Tryz.prog Tryz.f7 Rows.modelReadsRow.domain false w args ∧ laidMet Tryz.prog Rows.modelReadsRow.laid w) ∧ sizedMet enc Tryz.prog Tryz.f7 (OpenSpec.ofChange Rows.modelReadsSpec) false w args) (Rows.modelReadsSpec.post enc Tryz.prog Tryz.f7 false true false false) := by
  refine returnsInHanded_of_change_and (C := Tryz.checked) (X := fun w _ => laidMet Tryz.prog Rows.modelReadsRow.laid w) (fun _ _ _ hh h => h.of_heap hh) own started (by kernel_rfl) Tryz.func7
    (ChangeSpec.witness_shaped (enc := enc) (C := Tryz.checked) (os := os) (X := fun w _ => laidMet Tryz.prog Rows.modelReadsRow.laid w) false (laidWorld os #[.slice none 0 0, .int .i64 0]) #[.slice none 0 0, .int .i64 0] 8 rfl (World.shaped_of_RefB (by kernel_rfl) (by kernel_rfl)) (by kernel_rfl) (by kernel_rfl) (by kernel_rfl) (laid_met_modelReads os _ _)) ?_
  intro W base args ds gs before hval0 hW hcnd _ hL _
  have hval : ∀ (j : Nat) t v, Tryz.f7.params[j]? = some t → args[j]? = some v → Value.okWide Tryz.prog W .any base t v := hval0
  have hW' := hW
  obtain ⟨p, q, hA0, hV, rfl, hfz, hnd⟩ := hW
  have hA : DataW.TrodAll enc Tryz.prog W 0 (fun _ => true) true Tryz.f7.params.toList args.toList ds p := hA0
  rw [Tryz.params7] at hA hval
  obtain ⟨v0, vs0, d0, ds0, p0, q0, hargs, rfl, rfl, h0, r0⟩ := trodAll_cons hA
  obtain ⟨v1, vs1, d1, ds1, p1, q1, rfl, rfl, rfl, h1, r1⟩ := trodAll_cons r0
  obtain ⟨rfl, rfl, rfl⟩ := trodAll_nil r1
  obtain rfl : args = #[v0, v1] := by cases args; simp_all
  obtain ⟨rfl, rfl⟩ := trodVars_none hV
  obtain ⟨a0, len0, cap0, rfl⟩ := okWide_slice Tryz.underlying36 (hval 0 36 v0 rfl rfl)
  have k0 := h0
  have lt0 : ∀ x ∈ p0, x.block < W.heap.size := by obtain ⟨m, hm⟩ := k0; exact DataW.trod_lt m _ _ _ hm
  obtain ⟨z0, w0⟩ : ∃ zs, IsRow .i64 W a0 len0 cap0 zs := by
    obtain ⟨fuel, hf⟩ := h0
    rcases open_ints Tryz.underlying36 Tryz.underlying3 (by kernel_rfl) hf with ⟨hcs, _⟩ | ⟨x, l, c, zs, hcs, _, hl, hm, hz, _, hcell, hwz⟩
    · simp [Value.cells] at hcs
      obtain ⟨rfl, rfl, rfl⟩ := hcs
      exact ⟨[], .inl ⟨rfl, rfl, rfl, rfl⟩⟩
    · simp [Value.cells] at hcs
      obtain ⟨rfl, rfl, rfl⟩ := hcs
      exact ⟨zs, .inr ⟨_, rfl, hl, hm, by simpa using hz, hcell, hwz⟩⟩
  obtain ⟨a1, rfl, rfl, rfl, w1⟩ := open_int Tryz.underlying3 (hval 1 3 v1 rfl rfl) h1
  clear hA0 hval0
  refine (walk a0 len0 cap0 z0 a1 W w0 (gl_of_laid_modelReads hL)).mono fun e W' ⟨he, hg⟩ => ?_
  subst he
  exact ⟨_, rfl, post_of_below (pa := p0 ++ ([] ++ [])) (pv := []) hW' (fun _ _ _ => (trodAll_cons_mk (shut_bool Tryz.underlying4 _) trodAll_mk0)) (fun sp hsp => (trodAll_cons_mk (WideElems.Trod_stays laidOut (by kernel_rfl) (of_decide_eq_true (by kernel_rfl)) k0 (fun x hx => hg.same (lt0 x hx)) (fun x hx => hsp x (by simp [hx]))) (trodAll_cons_mk (shut_int Tryz.underlying3 w1) trodAll_mk0))) (fun _ _ => rfl) rfl
    hg (ok_one (by kernel_rfl) rfl (okWide_bool_mk Tryz.underlying4 _))⟩

theorem over : Rows.modelReadsRow.holds Tryz.pinned (OpenSpec.ofChange Rows.modelReadsSpec) :=
  OpenClaim.holds_of_wide 7 Tryz.f7 rfl rfl rfl rfl rfl rfl rfl ⟨rfl, rfl, rfl, rfl, rfl⟩ rfl rfl rfl rfl rfl (by kernel_rfl) Tryz.func7 joined
    (of_decide_eq_true (by kernel_rfl)) (by unfold Func.isWrapper; first | (rw [if_pos (by decide +kernel)]; kernel_rfl) | (rw [if_neg (by decide +kernel)]; exact ⟨rfl, rfl⟩))
    (fun os started H enc _ => lifted os started H enc)

/-- ████ THE STATEMENT ████ -/
theorem proved : Rows.ModelReadsCardSaid :=
  Claim7.holds_tied_plain_at .later [] [.listed, .data] true (true, "8609ea2ad4fb1bdddae7411b9f3c1d7cdb53ccd46ab9348ec24f64e3358e183c") true
    over (fun _ h => by cases h) g0 (fun _ h => by cases h) modelReads_row_tie rfl ⟨rfl, rfl⟩ g1 rfl
    (fun f fn hf hfn => by
      obtain rfl : f = 7 := Option.some.inj (g2.symm.trans hf) |>.symm
      obtain rfl : fn = Tryz.f7 := (Option.some.inj (Tryz.func7.symm.trans hfn)).symm
      exact ⟨g3, fun j t ht => by
        rw [Tryz.params7] at ht
        have hm : t ∈ (Tryz.f7.params : Array TypeId).toList := by
          rw [Tryz.params7]
          exact Array.mem_toList_iff.2 (Array.mem_of_getElem? ht)
        have := List.all_eq_true.1 g4 t hm
        have h2 : Tryz.prog.wantsStandIn t = false := by simpa using this
        exact h2⟩)
    g5
#print axioms proved
end Go.Proofs.YtocficcmdlfafaaGreatDoor.modelReads
