/- gneiss/gneisslaw21.value brings a number into 32 bits: taken as a fact in the runs. -/
import Derived.Test.YtocficcmdlfafaaGreatDoorCompK
import Derived.Test.YtocficcmdlfafaaGreatDoorAj2
namespace Go.Proofs.YtocficcmdlfafaaGreatDoor.fact
open Go Go.RowKit Go.Proofs Go.Ai Go.Proofs.YtocficcmdlfafaaGreatDoor.comp
noncomputable def fcf (lo hi : Int) : Cf := ⟨[], [], [(.bin .rem .i64 (.var 0) (.lit 4294967296), lo, hi)], fun _ _ _ => none, fun _ => none⟩
noncomputable def rule (args : List AV) : Option AV := match args with
  | [.int .i64 e] => some (.int .i64 (.conv .i32 e))
  | _ => none
theorem mid : isRet (.int .i64 (.bin .rem .i64 (.var 0) (.lit 4294967296))) (runC Tryz.prog (fcf (.negSucc (nat_lit 2147483647)) (.ofNat (nat_lit 2147483647))) T id 100000 100 9 [.int .i64 (.var 0)]) = true := by kernel_rfl
theorem high : isRet (.int .i64 (.bin .sub .i64 (.bin .rem .i64 (.var 0) (.lit 4294967296)) (.lit 4294967296))) (runC Tryz.prog (fcf (.ofNat (nat_lit 2147483648)) (.ofNat (nat_lit 4294967295))) T id 100000 100 9 [.int .i64 (.var 0)]) = true := by kernel_rfl
theorem low : isRet (.int .i64 (.bin .add .i64 (.bin .rem .i64 (.var 0) (.lit 4294967296)) (.lit 4294967296))) (runC Tryz.prog (fcf (.negSucc (nat_lit 4294967294)) (.negSucc (nat_lit 2147483648))) T id 100000 100 9 [.int .i64 (.var 0)]) = true := by kernel_rfl
theorem at_ {n : Int} {lo hi : Int} {e : SI} (h1 : lo ≤ n.tmod 4294967296) (h2 : n.tmod 4294967296 ≤ hi) (h : isRet (.int .i64 e) (runC Tryz.prog (fcf lo hi) T id 100000 100 9 [.int .i64 (.var 0)]) = true) (he : e.ev (fun i => if i = 0 then n else 0) = IntKind.i32.wrap n) (w : World) :
    Calls Tryz.prog 9 #[.int .i64 n] w fun en w' => en = .returned (.int .i64 (IntKind.i32.wrap n)) ∧ Below w.heap.size w w' := by
  haveI : GlOk (fcf lo hi).gl w := GlOk.none (fun _ => rfl)
  have := soundV (w := w) mixed TOk (over := id) (cf := fcf lo hi) (σ := fun i => if i = 0 then n else 0) (xs := [.int .i64 n]) (fun _ h => h)
    ⟨fun _ _ hm => (by cases hm), fun _ _ _ _ hm => (by cases hm), fun x y z hm => (by
      simp only [fcf, List.mem_cons, List.not_mem_nil, or_false, Prod.mk.injEq] at hm
      obtain ⟨rfl, rfl, rfl⟩ := hm
      exact ⟨h1, h2⟩), fun _ _ _ _ hm => (by cases hm)⟩
    (.cons (.int .i64 (.var 0)) .nil) h
  refine Calls.mono this ?_
  rintro en w' ⟨E, x, rfl, hσ, hv, hb⟩
  cases hv
  rw [hσ, he]
  exact ⟨rfl, hb⟩
theorem runs (n : Int) (w : World) : Calls Tryz.prog 9 #[.int .i64 n] w fun en w' => en = .returned (.int .i64 (IntKind.i32.wrap n)) ∧ Below w.heap.size w w' := by
  have e1 : n = 4294967296 * n.tdiv 4294967296 + n.tmod 4294967296 := (Int.mul_tdiv_add_tmod n 4294967296).symm
  have a1 : n.tmod 4294967296 < 4294967296 := Int.tmod_lt_of_pos n (by omega)
  have a2 : -4294967296 < n.tmod 4294967296 := Int.lt_tmod_of_pos n (by omega)
  by_cases h1 : n.tmod 4294967296 < -2147483648
  · refine at_ (lo := .negSucc (nat_lit 4294967294)) (hi := .negSucc (nat_lit 2147483648)) (by show (-4294967295 : Int) ≤ _; omega) (by show _ ≤ (-2147483649 : Int); omega) low ?_ w
    show IntKind.i64.wrap (n.tmod 4294967296 + 4294967296) = IntKind.i32.wrap n
    rw [IntKind.wrap_i64, IntKind.wrap_i32]
    omega
  · by_cases h2 : n.tmod 4294967296 ≤ 2147483647
    · refine at_ (lo := .negSucc (nat_lit 2147483647)) (hi := .ofNat (nat_lit 2147483647)) (by show (-2147483648 : Int) ≤ _; omega) (by show _ ≤ (2147483647 : Int); omega) mid ?_ w
      show n.tmod 4294967296 = IntKind.i32.wrap n
      rw [IntKind.wrap_i32]
      omega
    · refine at_ (lo := .ofNat (nat_lit 2147483648)) (hi := .ofNat (nat_lit 4294967295)) (by show (2147483648 : Int) ≤ _; omega) (by show _ ≤ (4294967295 : Int); omega) high ?_ w
      show IntKind.i64.wrap (n.tmod 4294967296 - 4294967296) = IntKind.i32.wrap n
      rw [IntKind.wrap_i64, IntKind.wrap_i32]
      omega
theorem ok (cf : Cf) : FactOk Tryz.prog cf 9 rule := by
  intro args v h E xs hcf hx w
  unfold rule at h
  split at h
  · rename_i e
    cases h
    cases hx with
    | cons h1 h2 =>
      cases h2
      cases h1
      exact Calls.mono (runs (e.ev E.σ) w) (fun en w' h => ⟨_, h.1, .int .i64 (.conv .i32 e), h.2⟩)
  · cases h
/-- the same, written for what it may be written for -/
noncomputable def ruleR (rw : List (SI × SI)) (args : List AV) : Option AV := match args with
  | [.int .i64 e] => some (.int .i64 (findRw (.conv .i32 e) rw))
  | _ => none
theorem okR (cf : Cf) : FactOk Tryz.prog cf 9 (ruleR cf.rw) := by
  intro args v h E xs hcf hx w
  unfold ruleR at h
  split at h
  · rename_i e
    cases h
    cases hx with
    | cons h1 h2 =>
      cases h2
      cases h1
      have he : (findRw (.conv .i32 e) cf.rw).ev E.σ = IntKind.i32.wrap (e.ev E.σ) := findRw_ok (.conv .i32 e) cf.rw hcf.1
      exact Calls.mono (runs (e.ev E.σ) w) (fun en w' h => ⟨_, h.1, he ▸ VR.int (E := E) .i64 (findRw (.conv .i32 e) cf.rw), h.2⟩)
  · cases h
end Go.Proofs.YtocficcmdlfafaaGreatDoor.fact
