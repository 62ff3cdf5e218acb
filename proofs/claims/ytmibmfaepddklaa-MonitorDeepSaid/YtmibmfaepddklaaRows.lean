/-
  No cell of these rows narrows 'for every input' (looked for: loops, veiled, ifaces, maps, wideKeys, modest, calm, conditions, laid).
  DERIVED. THE GIVEN ROWS OF THIS SEAT. 2 by the template 'for every input the law returns true; each argument reads behind the call as it read before'; 0 by the template 'total and deterministic' (their statements: YtmibmfaepddklaaTotals.lean).
  GIVEN WITH THE SEED: the statements are not yours to turn. If you find one false, say at which input.
  Laid BY PROGRAM, IN A SANDBOX (cutbox-rows.mjs): the forced cells as the released guide's own fill.sh prints them over the translation af762843bf555be5… (all of the seat's roots in one cut). By AI agents, Wed Nov 11 2026. No macro, syntax, notation, axiom, sorry.
-/
import Derived.Test.YtmibmfaepddklaaChecked
import GoSem.Claim
import GoSem.ClaimJoined
import GoSem.ClaimMapViews
import Derived.JoinedTies
import Derived.KernelRfl
namespace Go.Proofs.Ytmibmfaepddklaa
/- THE CELL 'sum', in the pinned program and in every row, IS THE sha256 OF THE DUMP (.gsa) THAT YtmibmfaepddklaaProg.lean LOADS. Nothing in Lean hashes anything: it is a label: what it is worth is what the hold of that sum in a sandbox is worth. -/
noncomputable def Try.pinned : Pinned := { name := "ytmibmfaepddklaa", sum := "af762843bf555be51b833e2a11fb777bb6c4e4fd33f44090c98f016aa43820aa", checked := Try.checked }
namespace Rows
def none {H : Type} : Left H := { results := [], args := [] }

/-- 'gneisslaw20.MonitorDeep': WHATEVER THE INPUT: true; the input reads as it did. -/
def monitorDeepSpec : ChangeSpec := { name := "monitorDeep", fn := fun _ => fun
  | [d1, d2] => { results := [.lit (.bool true)], args := [d1, d2] }
  | _ => none }
def monitorDeepRow : OpenClaim := { program := "ytmibmfaepddklaa", sum := "af762843bf555be51b833e2a11fb777bb6c4e4fd33f44090c98f016aa43820aa", func := "gneiss/gneisslaw20.MonitorDeep", spec := "monitorDeep", apart := false }
def MonitorDeepSaid : Prop := monitorDeepRow.holds Try.pinned (OpenSpec.ofChange monitorDeepSpec)

/-- ITS FALSE NEIGHBOUR: 'it returns false'. Refute it at one input. -/
def monitorDeepWrong : ChangeSpec := { name := "monitorDeep", fn := fun _ => fun
  | [d1, d2] => { results := [.lit (.bool false)], args := [d1, d2] }
  | _ => none }
def MonitorDeepWrongFalsely : Prop := monitorDeepRow.holds Try.pinned (OpenSpec.ofChange monitorDeepWrong)

/-- 'gneisslaw20.MonitorRows': WHATEVER THE INPUT: true; the input reads as it did. -/
def monitorRowsSpec : ChangeSpec := { name := "monitorRows", fn := fun _ => fun
  | [d1, d2] => { results := [.lit (.bool true)], args := [d1, d2] }
  | _ => none }
def monitorRowsRow : OpenClaim := { program := "ytmibmfaepddklaa", sum := "af762843bf555be51b833e2a11fb777bb6c4e4fd33f44090c98f016aa43820aa", func := "gneiss/gneisslaw20.MonitorRows", spec := "monitorRows", apart := false }
def MonitorRowsSaid : Prop := monitorRowsRow.holds Try.pinned (OpenSpec.ofChange monitorRowsSpec)

/-- ITS FALSE NEIGHBOUR: 'it returns false'. Refute it at one input. -/
def monitorRowsWrong : ChangeSpec := { name := "monitorRows", fn := fun _ => fun
  | [d1, d2] => { results := [.lit (.bool false)], args := [d1, d2] }
  | _ => none }
def MonitorRowsWrongFalsely : Prop := monitorRowsRow.holds Try.pinned (OpenSpec.ofChange monitorRowsWrong)

/- THE SECOND FORM. 'bulk': how many values and letters a reading holds, each counted each time it is reached (what is shared counts as often as it is met; a slice's spare places count too). A statement '..UptoSaid' is the law's where the arguments, and the package variables that the reading takes, are together of bulk at most 1048576: NARROWER than '..Said'. Prove '..Said' where nothing that the law and all that it calls make is longer than what came in: it says more and counts as full. Else prove '..UptoSaid'. A law counts once. -/
mutual
def uptoBulk {H : Type} : DataW H → Nat
  | .lit (.string bytes) => bytes.length + 1
  | .lit _ => 1
  | .nil => 1
  | .ptr d => uptoBulk d + 1
  | .slice elems spare => uptoBulkAll elems + uptoBulkAll spare + 1
  | .agg parts => uptoBulkAll parts + 1
  | .iface _ d => uptoBulk d + 1
  | .map entries => uptoBulkEntries entries + 1
  | .held _ => 1
def uptoBulkAll {H : Type} : List (DataW H) → Nat
  | [] => 0
  | d :: r => uptoBulk d + uptoBulkAll r
def uptoBulkEntries {H : Type} : List (Lit × DataW H) → Nat
  | [] => 0
  | x :: r => uptoBulkEntry x + uptoBulkEntries r
def uptoBulkEntry {H : Type} : Lit × DataW H → Nat
  | (.string bytes, d) => bytes.length + uptoBulk d + 1
  | (_, d) => uptoBulk d + 1
 end
def uptoSmall : (H : Type) → List (DataW H) → Bool := fun _ ds => decide (uptoBulkAll ds ≤ 1048576)
def OpenSpec.upto (s : _root_.Go.ChangeSpec) : _root_.Go.OpenSpec := { _root_.Go.OpenSpec.ofChange s with cond := some uptoSmall }

/-- 'gneisslaw20.MonitorDeep', WHERE WHAT IT READS IS OF BULK AT MOST 1048576: true; the input reads as it did. -/
def monitorDeepUptoRow : OpenClaim := { program := "ytmibmfaepddklaa", sum := "af762843bf555be51b833e2a11fb777bb6c4e4fd33f44090c98f016aa43820aa", func := "gneiss/gneisslaw20.MonitorDeep", spec := "monitorDeep", apart := false, narrowed := true }
def MonitorDeepUptoSaid : Prop := monitorDeepUptoRow.holds Try.pinned (OpenSpec.upto monitorDeepSpec)

/-- 'gneisslaw20.MonitorRows', WHERE WHAT IT READS IS OF BULK AT MOST 1048576: true; the input reads as it did. -/
def monitorRowsUptoRow : OpenClaim := { program := "ytmibmfaepddklaa", sum := "af762843bf555be51b833e2a11fb777bb6c4e4fd33f44090c98f016aa43820aa", func := "gneiss/gneisslaw20.MonitorRows", spec := "monitorRows", apart := false, narrowed := true }
def MonitorRowsUptoSaid : Prop := monitorRowsUptoRow.holds Try.pinned (OpenSpec.upto monitorRowsSpec)

end Rows
end Go.Proofs.Ytmibmfaepddklaa
