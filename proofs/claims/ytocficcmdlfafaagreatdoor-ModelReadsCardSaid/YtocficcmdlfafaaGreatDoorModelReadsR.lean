/- The runs of gneiss/gneisslaw21.ModelReads: what they are. -/
import Derived.Test.YtocficcmdlfafaaGreatDoorCompK
import Derived.Test.YtocficcmdlfafaaGreatDoorAj2
import Derived.Test.YtocficcmdlfafaaGreatDoorFact
import Derived.Test.YtocficcmdlfafaaGreatDoorLaid
import Derived.Laws.Bits64
namespace Go.Proofs.YtocficcmdlfafaaGreatDoor.modelReads
set_option linter.unusedVariables false
open Go Go.RowKit Go.Proofs Go.Ai Go.Proofs.YtocficcmdlfafaaGreatDoor.comp
noncomputable def gl : Nat → Option (List AV) := laidGl
noncomputable def cfl : Cf := ⟨[], [], [], fun _ _ _ => none, gl⟩
noncomputable def ek : SI := .bin .and .i64 (.var 0) (.lit 7)
noncomputable def rwk (k : Int) : List (SI × SI) := [(ek, .lit k)]
noncomputable def cfR (k lo hi : Int) : Cf := ⟨rwk k, [], [(.var 1003, lo, hi)], fun _ _ _ => none, gl⟩
noncomputable def run (v : AV) (k lo hi : Int) : KR := runC Tryz.prog (cfR k lo hi) T (fun c => overC 8 (overF 9 (Go.Proofs.YtocficcmdlfafaaGreatDoor.fact.ruleR (rwk k)) c)) 1000000 200 7 [v, .int .i64 (.var 0)]
theorem awakes : Awake Tryz.prog gl 8 := fun w hw =>
  haveI : GlOk cfl.gl w := hw
  soundC mixed TOk (over := id) (cf := cfl) (fuel := 1000000) (d := 200) (f := 8) (avs := []) (xs := []) (σ := fun _ => 0) (fun _ h => h)
    ⟨fun _ _ hm => (by cases hm), fun _ _ _ _ hm => (by cases hm), fun _ _ _ hm => (by cases hm), fun _ _ _ _ hm => (by cases hm)⟩ .nil (by kernel_rfl)
theorem yes_of {G : Program} {f : Nat} {xs : List Value} {w : World} {avs : List AV} {k lo hi : Int} [hg : GlOk gl w] (v : AV) (σ : Nat → Int) (hv : VRs ⟨σ, fun _ => none⟩ [v, .int .i64 (.var 0)] xs) (hk : opVal .and .i64 (σ 0) 7 = k) (hl : lo ≤ σ 1003 ∧ σ 1003 ≤ hi)
    (hX : XOk w σ) (r : yes (run v k lo hi) = true) : Calls Tryz.prog 7 xs.toArray w fun e w' => e = .returned (.bool true) ∧ Below w.heap.size w w' := by
  haveI : GlOk (cfR k lo hi).gl w := hg
  refine soundC mixed TOk (over := (fun c => overC 8 (overF 9 (Go.Proofs.YtocficcmdlfafaaGreatDoor.fact.ruleR (rwk k)) c))) (cf := cfR k lo hi) (σ := σ) (xs := xs) (fun _ h => overC_ok awakes (overF_ok (Go.Proofs.YtocficcmdlfafaaGreatDoor.fact.okR (cfR k lo hi)) h)) ?_ hv r hX
  refine ⟨fun x y hm => ?_, fun _ _ _ _ hm => (by cases hm), fun x lo hi hm => ?_, fun _ _ _ _ hm => (by cases hm)⟩
  · rcases List.mem_cons.1 hm with hm | hm
    · cases hm; exact hk
    · cases hm
  · rcases List.mem_cons.1 hm with hm | hm
    · cases hm; exact hl
    · cases hm
/-! ### the caller's slice -/
def sg (x : Addr) (len : Nat) (z : List Int) (a : Int) (i : Nat) : Int := if i = 0 then a else if i = 1000 then 1 else if i = 1001 then x.block else if i = 1002 then x.off else if i = 1003 then len else z.getD (i - 1004) 0
theorem sg_at (x : Addr) (len : Nat) (z : List Int) (a : Int) (i : Nat) : sg x len z a (1004 + i) = z.getD i 0 := by
  unfold sg
  rw [if_neg (by omega), if_neg (by omega), if_neg (by omega), if_neg (by omega), if_neg (by omega), Nat.add_sub_cancel_left]
theorem cell_open {w : World} {a : Addr} {v : Value} (h : w.cell? a = some v) : ∃ arr ty fz, w.heap[a.block]? = some (.cells arr ty fz) ∧ arr[a.off]? = some v ∧ a.spot = none := by
  unfold World.cell? at h
  split at h
  · rename_i arr ty fz hb
    split at h
    · cases h
    · rename_i hs
      refine ⟨arr, ty, fz, hb, h, ?_⟩
      cases e : a.spot with
      | none => rfl
      | some s => rw [e] at hs; exact absurd rfl hs
  · cases h
theorem add_block (x : Addr) (i : Nat) : (x.add i).block = x.block := by unfold Addr.add; split <;> rfl
theorem add_off (x : Addr) (i : Nat) : (x.add i).off = x.off + i := by
  unfold Addr.add
  split
  · rename_i h; subst h; rfl
  · rfl
theorem xok {w : World} {x : Addr} {len : Nat} {z : List Int} (a : Int) (hl : len ≤ z.length) (hc : ∀ i, i < z.length → w.cell? (x.add i) = some (.int .i64 (z.getD i 0))) : XOk w (sg x len z a) := by
  intro _ i hi
  have hi : (i : Int) < (len : Int) := hi
  obtain ⟨arr, ty, fz, h1, h2, _⟩ := cell_open (hc i (by omega))
  rw [add_block] at h1
  rw [add_off] at h2
  refine ⟨arr, ty, fz, h1, ?_⟩
  rw [sg_at]
  exact h2
theorem at_x {w : World} {x : Addr} {len cap m : Nat} {z : List Int} {a k lo hi : Int} (hz : len ≤ z.length) (hc : ∀ i, i < z.length → w.cell? (x.add i) = some (.int .i64 (z.getD i 0))) (hm : m ≤ len) (r : yes (run (.xsl m) k lo hi) = true) (hk : opVal .and .i64 a 7 = k) (hl : lo ≤ (len : Int) ∧ (len : Int) ≤ hi) (hgl : GlOk gl w) :
    Calls Tryz.prog 7 #[.slice (some x) len cap, .int .i64 a] w fun e w' => e = .returned (.bool true) ∧ Below w.heap.size w w' := by
  haveI := hgl
  refine yes_of (G := Tryz.prog) (f := 7) (avs := []) (xs := [.slice (some x) len cap, .int .i64 a]) (.xsl m) (sg x len z a) (.cons (.xsl rfl (fun h => ?_) rfl hm) (.cons (.int .i64 (.var 0)) .nil)) hk hl (xok a hz hc) r
  obtain ⟨arr, ty, fz, _, _, h3⟩ := cell_open (hc 0 (by omega))
  obtain ⟨b, o, s⟩ := x
  have h3 : s = none := h3
  subst h3
  rfl
theorem at_n {w : World} {a k lo hi : Int} (r : yes (run .sl0 k lo hi) = true) (hk : opVal .and .i64 a 7 = k) (hl : lo ≤ 0 ∧ 0 ≤ hi) (hgl : GlOk gl w) :
    Calls Tryz.prog 7 #[.slice none 0 0, .int .i64 a] w fun e w' => e = .returned (.bool true) ∧ Below w.heap.size w w' := by
  haveI := hgl
  exact yes_of (G := Tryz.prog) (f := 7) (avs := []) (xs := [.slice none 0 0, .int .i64 a]) .sl0 (fun i => if i = 0 then a else 0) (.cons .sl0 (.cons (.int .i64 (.var 0)) .nil)) hk hl (XOk.none rfl) r
theorem rng (a : Int) : 0 ≤ opVal .and .i64 a 7 ∧ opVal .and .i64 a 7 ≤ 7 := by
  have h : (BitVec.ofInt 64 a &&& BitVec.ofInt 64 7).toNat ≤ 7 := by
    rw [BitVec.toNat_and]
    exact Nat.and_le_right
  show 0 ≤ IntKind.wrap .i64 ((BitVec.ofInt 64 a &&& BitVec.ofInt 64 7).toNat : Int) ∧ IntKind.wrap .i64 ((BitVec.ofInt 64 a &&& BitVec.ofInt 64 7).toNat : Int) ≤ 7
  rw [IntKind.wrap_i64]
  omega
end Go.Proofs.YtocficcmdlfafaaGreatDoor.modelReads
