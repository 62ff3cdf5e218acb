/-
  NARROWER THAN 'FOR EVERY INPUT', by the rows' own cells (each row's printed sentence says how): ModelHandlers: laid · ModelCallers: laid · ModelMonitors: laid · ModelStarts: laid · ModelReads: laid · ModelShort: laid · ModelFinals: laid · ModelWeaks: laid · ModelAlone: laid.
  DERIVED. THE GIVEN ROWS OF THIS SEAT. 9 by the template 'for every input the law returns true; each argument reads behind the call as it read before'; 0 by the template 'total and deterministic' (their statements: YtpogefeioedgeaaGreatDoorTotals.lean).
  GIVEN WITH THE SEED: the statements are not yours to turn. If you find one false, say at which input.
  Laid BY PROGRAM, IN A SANDBOX (cutbox-rows.mjs): the forced cells as the released guide's own fill.sh prints them over the translation a7b3196ed2306d99… (all of the seat's roots in one cut). By AI agents, Wed Nov 11 2026. No macro, syntax, notation, axiom, sorry.
-/
import Derived.Test.YtpogefeioedgeaaGreatDoorChecked
import GoSem.Claim
import GoSem.ClaimJoined
import GoSem.ClaimMapViews
import Derived.JoinedTies
import Derived.KernelRfl
namespace Go.Proofs.YtpogefeioedgeaaGreatDoor
/- THE CELL 'sum', in the pinned program and in every row, IS THE sha256 OF THE DUMP (.gsa) THAT YtpogefeioedgeaaGreatDoorProg.lean LOADS. Nothing in Lean hashes anything: it is a label: what it is worth is what the hold of that sum in a sandbox is worth. -/
noncomputable def Tryz.pinned : Pinned := { name := "ytpogefeioedgeaagreatdoor", sum := "a7b3196ed2306d9963da5f567e980db07a7b8f9986f4e9fadf0361ac5996da34", checked := Tryz.checked }
namespace Rows
def none {H : Type} : Left H := { results := [], args := [] }

/- WHAT THE LISTED PACKAGE-LEVEL VARIABLES READ AS WHEN THE CALL BEGINS. Each datum BY PROGRAM (the guide's laid-datum.mjs) off the statement by which the dump's own 'gosem.cut.vars' lays the variable. In a bare row this is a premise. The card (YtpogefeioedgeaaGreatDoorCards.lean) ties it to the program's text. -/
def laid_unicode_White_Space {H : Type} : DataW H := .ptr (.agg [.slice [.agg [.lit (.int .u16 9), .lit (.int .u16 13), .lit (.int .u16 1)], .agg [.lit (.int .u16 32), .lit (.int .u16 133), .lit (.int .u16 101)], .agg [.lit (.int .u16 160), .lit (.int .u16 5760), .lit (.int .u16 5600)], .agg [.lit (.int .u16 8192), .lit (.int .u16 8202), .lit (.int .u16 1)], .agg [.lit (.int .u16 8232), .lit (.int .u16 8233), .lit (.int .u16 1)], .agg [.lit (.int .u16 8239), .lit (.int .u16 8287), .lit (.int .u16 48)], .agg [.lit (.int .u16 12288), .lit (.int .u16 12288), .lit (.int .u16 1)]] [], .nil, .lit (.int .i64 2)])
def laid_strings_asciiSpace {H : Type} : DataW H := .agg [.lit (.int .u8 0), .lit (.int .u8 0), .lit (.int .u8 0), .lit (.int .u8 0), .lit (.int .u8 0), .lit (.int .u8 0), .lit (.int .u8 0), .lit (.int .u8 0), .lit (.int .u8 0), .lit (.int .u8 1), .lit (.int .u8 1), .lit (.int .u8 1), .lit (.int .u8 1), .lit (.int .u8 1), .lit (.int .u8 0), .lit (.int .u8 0), .lit (.int .u8 0), .lit (.int .u8 0), .lit (.int .u8 0), .lit (.int .u8 0), .lit (.int .u8 0), .lit (.int .u8 0), .lit (.int .u8 0), .lit (.int .u8 0), .lit (.int .u8 0), .lit (.int .u8 0), .lit (.int .u8 0), .lit (.int .u8 0), .lit (.int .u8 0), .lit (.int .u8 0), .lit (.int .u8 0), .lit (.int .u8 0), .lit (.int .u8 1), .lit (.int .u8 0), .lit (.int .u8 0), .lit (.int .u8 0), .lit (.int .u8 0), .lit (.int .u8 0), .lit (.int .u8 0), .lit (.int .u8 0), .lit (.int .u8 0), .lit (.int .u8 0), .lit (.int .u8 0), .lit (.int .u8 0), .lit (.int .u8 0), .lit (.int .u8 0), .lit (.int .u8 0), .lit (.int .u8 0), .lit (.int .u8 0), .lit (.int .u8 0), .lit (.int .u8 0), .lit (.int .u8 0), .lit (.int .u8 0), .lit (.int .u8 0), .lit (.int .u8 0), .lit (.int .u8 0), .lit (.int .u8 0), .lit (.int .u8 0), .lit (.int .u8 0), .lit (.int .u8 0), .lit (.int .u8 0), .lit (.int .u8 0), .lit (.int .u8 0), .lit (.int .u8 0), .lit (.int .u8 0), .lit (.int .u8 0), .lit (.int .u8 0), .lit (.int .u8 0), .lit (.int .u8 0), .lit (.int .u8 0), .lit (.int .u8 0), .lit (.int .u8 0), .lit (.int .u8 0), .lit (.int .u8 0), .lit (.int .u8 0), .lit (.int .u8 0), .lit (.int .u8 0), .lit (.int .u8 0), .lit (.int .u8 0), .lit (.int .u8 0), .lit (.int .u8 0), .lit (.int .u8 0), .lit (.int .u8 0), .lit (.int .u8 0), .lit (.int .u8 0), .lit (.int .u8 0), .lit (.int .u8 0), .lit (.int .u8 0), .lit (.int .u8 0), .lit (.int .u8 0), .lit (.int .u8 0), .lit (.int .u8 0), .lit (.int .u8 0), .lit (.int .u8 0), .lit (.int .u8 0), .lit (.int .u8 0), .lit (.int .u8 0), .lit (.int .u8 0), .lit (.int .u8 0), .lit (.int .u8 0), .lit (.int .u8 0), .lit (.int .u8 0), .lit (.int .u8 0), .lit (.int .u8 0), .lit (.int .u8 0), .lit (.int .u8 0), .lit (.int .u8 0), .lit (.int .u8 0), .lit (.int .u8 0), .lit (.int .u8 0), .lit (.int .u8 0), .lit (.int .u8 0), .lit (.int .u8 0), .lit (.int .u8 0), .lit (.int .u8 0), .lit (.int .u8 0), .lit (.int .u8 0), .lit (.int .u8 0), .lit (.int .u8 0), .lit (.int .u8 0), .lit (.int .u8 0), .lit (.int .u8 0), .lit (.int .u8 0), .lit (.int .u8 0), .lit (.int .u8 0), .lit (.int .u8 0), .lit (.int .u8 0), .lit (.int .u8 0), .lit (.int .u8 0), .lit (.int .u8 0), .lit (.int .u8 0), .lit (.int .u8 0), .lit (.int .u8 0), .lit (.int .u8 0), .lit (.int .u8 0), .lit (.int .u8 0), .lit (.int .u8 0), .lit (.int .u8 0), .lit (.int .u8 0), .lit (.int .u8 0), .lit (.int .u8 0), .lit (.int .u8 0), .lit (.int .u8 0), .lit (.int .u8 0), .lit (.int .u8 0), .lit (.int .u8 0), .lit (.int .u8 0), .lit (.int .u8 0), .lit (.int .u8 0), .lit (.int .u8 0), .lit (.int .u8 0), .lit (.int .u8 0), .lit (.int .u8 0), .lit (.int .u8 0), .lit (.int .u8 0), .lit (.int .u8 0), .lit (.int .u8 0), .lit (.int .u8 0), .lit (.int .u8 0), .lit (.int .u8 0), .lit (.int .u8 0), .lit (.int .u8 0), .lit (.int .u8 0), .lit (.int .u8 0), .lit (.int .u8 0), .lit (.int .u8 0), .lit (.int .u8 0), .lit (.int .u8 0), .lit (.int .u8 0), .lit (.int .u8 0), .lit (.int .u8 0), .lit (.int .u8 0), .lit (.int .u8 0), .lit (.int .u8 0), .lit (.int .u8 0), .lit (.int .u8 0), .lit (.int .u8 0), .lit (.int .u8 0), .lit (.int .u8 0), .lit (.int .u8 0), .lit (.int .u8 0), .lit (.int .u8 0), .lit (.int .u8 0), .lit (.int .u8 0), .lit (.int .u8 0), .lit (.int .u8 0), .lit (.int .u8 0), .lit (.int .u8 0), .lit (.int .u8 0), .lit (.int .u8 0), .lit (.int .u8 0), .lit (.int .u8 0), .lit (.int .u8 0), .lit (.int .u8 0), .lit (.int .u8 0), .lit (.int .u8 0), .lit (.int .u8 0), .lit (.int .u8 0), .lit (.int .u8 0), .lit (.int .u8 0), .lit (.int .u8 0), .lit (.int .u8 0), .lit (.int .u8 0), .lit (.int .u8 0), .lit (.int .u8 0), .lit (.int .u8 0), .lit (.int .u8 0), .lit (.int .u8 0), .lit (.int .u8 0), .lit (.int .u8 0), .lit (.int .u8 0), .lit (.int .u8 0), .lit (.int .u8 0), .lit (.int .u8 0), .lit (.int .u8 0), .lit (.int .u8 0), .lit (.int .u8 0), .lit (.int .u8 0), .lit (.int .u8 0), .lit (.int .u8 0), .lit (.int .u8 0), .lit (.int .u8 0), .lit (.int .u8 0), .lit (.int .u8 0), .lit (.int .u8 0), .lit (.int .u8 0), .lit (.int .u8 0), .lit (.int .u8 0), .lit (.int .u8 0), .lit (.int .u8 0), .lit (.int .u8 0), .lit (.int .u8 0), .lit (.int .u8 0), .lit (.int .u8 0), .lit (.int .u8 0), .lit (.int .u8 0), .lit (.int .u8 0), .lit (.int .u8 0), .lit (.int .u8 0), .lit (.int .u8 0), .lit (.int .u8 0), .lit (.int .u8 0), .lit (.int .u8 0), .lit (.int .u8 0), .lit (.int .u8 0), .lit (.int .u8 0), .lit (.int .u8 0), .lit (.int .u8 0), .lit (.int .u8 0), .lit (.int .u8 0), .lit (.int .u8 0), .lit (.int .u8 0), .lit (.int .u8 0), .lit (.int .u8 0), .lit (.int .u8 0), .lit (.int .u8 0)]

/-- 'gneisslaw21.ModelHandlers': WHATEVER THE INPUT: true; the input reads as it did. -/
def modelHandlersSpec : ChangeSpec := { name := "modelHandlers", fn := fun _ => fun
  | [d1, d2, d3] => { results := [.lit (.bool true)], args := [d1, d2, d3] }
  | _ => none }
def modelHandlersRow : OpenClaim := { program := "ytpogefeioedgeaagreatdoor", sum := "a7b3196ed2306d9963da5f567e980db07a7b8f9986f4e9fadf0361ac5996da34", func := "gneiss/gneisslaw21.ModelHandlers", spec := "modelHandlers", unfollowed := true, recurses := true, named := ["strings.asciiSpace", "unicode.White_Space"], plainKeys := false, apart := false, laid := [("unicode.White_Space", laid_unicode_White_Space), ("strings.asciiSpace", laid_strings_asciiSpace)] }
def ModelHandlersSaid : Prop := modelHandlersRow.holds Tryz.pinned (OpenSpec.ofChange modelHandlersSpec)

/-- ITS FALSE NEIGHBOUR: 'it returns false'. Refute it at one input. -/
def modelHandlersWrong : ChangeSpec := { name := "modelHandlers", fn := fun _ => fun
  | [d1, d2, d3] => { results := [.lit (.bool false)], args := [d1, d2, d3] }
  | _ => none }
def ModelHandlersWrongFalsely : Prop := modelHandlersRow.holds Tryz.pinned (OpenSpec.ofChange modelHandlersWrong)

/-- 'gneisslaw21.ModelCallers': WHATEVER THE INPUT: true; the input reads as it did. -/
def modelCallersSpec : ChangeSpec := { name := "modelCallers", fn := fun _ => fun
  | [d] => { results := [.lit (.bool true)], args := [d] }
  | _ => none }
def modelCallersRow : OpenClaim := { program := "ytpogefeioedgeaagreatdoor", sum := "a7b3196ed2306d9963da5f567e980db07a7b8f9986f4e9fadf0361ac5996da34", func := "gneiss/gneisslaw21.ModelCallers", spec := "modelCallers", unfollowed := true, recurses := true, named := ["strings.asciiSpace", "unicode.White_Space"], plainKeys := false, apart := false, laid := [("unicode.White_Space", laid_unicode_White_Space), ("strings.asciiSpace", laid_strings_asciiSpace)] }
def ModelCallersSaid : Prop := modelCallersRow.holds Tryz.pinned (OpenSpec.ofChange modelCallersSpec)

/-- ITS FALSE NEIGHBOUR: 'it returns false'. Refute it at one input. -/
def modelCallersWrong : ChangeSpec := { name := "modelCallers", fn := fun _ => fun
  | [d] => { results := [.lit (.bool false)], args := [d] }
  | _ => none }
def ModelCallersWrongFalsely : Prop := modelCallersRow.holds Tryz.pinned (OpenSpec.ofChange modelCallersWrong)

/-- 'gneisslaw21.ModelMonitors': WHATEVER THE INPUT: true; the input reads as it did. -/
def modelMonitorsSpec : ChangeSpec := { name := "modelMonitors", fn := fun _ => fun
  | [d1, d2] => { results := [.lit (.bool true)], args := [d1, d2] }
  | _ => none }
def modelMonitorsRow : OpenClaim := { program := "ytpogefeioedgeaagreatdoor", sum := "a7b3196ed2306d9963da5f567e980db07a7b8f9986f4e9fadf0361ac5996da34", func := "gneiss/gneisslaw21.ModelMonitors", spec := "modelMonitors", unfollowed := true, recurses := true, named := ["strings.asciiSpace", "unicode.White_Space"], plainKeys := false, apart := false, laid := [("unicode.White_Space", laid_unicode_White_Space), ("strings.asciiSpace", laid_strings_asciiSpace)] }
def ModelMonitorsSaid : Prop := modelMonitorsRow.holds Tryz.pinned (OpenSpec.ofChange modelMonitorsSpec)

/-- ITS FALSE NEIGHBOUR: 'it returns false'. Refute it at one input. -/
def modelMonitorsWrong : ChangeSpec := { name := "modelMonitors", fn := fun _ => fun
  | [d1, d2] => { results := [.lit (.bool false)], args := [d1, d2] }
  | _ => none }
def ModelMonitorsWrongFalsely : Prop := modelMonitorsRow.holds Tryz.pinned (OpenSpec.ofChange modelMonitorsWrong)

/-- 'gneisslaw21.ModelStarts': WHATEVER THE INPUT: true; the input reads as it did. -/
def modelStartsSpec : ChangeSpec := { name := "modelStarts", fn := fun _ => fun
  | [d1, d2] => { results := [.lit (.bool true)], args := [d1, d2] }
  | _ => none }
def modelStartsRow : OpenClaim := { program := "ytpogefeioedgeaagreatdoor", sum := "a7b3196ed2306d9963da5f567e980db07a7b8f9986f4e9fadf0361ac5996da34", func := "gneiss/gneisslaw21.ModelStarts", spec := "modelStarts", unfollowed := true, recurses := true, named := ["strings.asciiSpace", "unicode.White_Space"], plainKeys := false, apart := false, laid := [("unicode.White_Space", laid_unicode_White_Space), ("strings.asciiSpace", laid_strings_asciiSpace)] }
def ModelStartsSaid : Prop := modelStartsRow.holds Tryz.pinned (OpenSpec.ofChange modelStartsSpec)

/-- ITS FALSE NEIGHBOUR: 'it returns false'. Refute it at one input. -/
def modelStartsWrong : ChangeSpec := { name := "modelStarts", fn := fun _ => fun
  | [d1, d2] => { results := [.lit (.bool false)], args := [d1, d2] }
  | _ => none }
def ModelStartsWrongFalsely : Prop := modelStartsRow.holds Tryz.pinned (OpenSpec.ofChange modelStartsWrong)

/-- 'gneisslaw21.ModelReads': WHATEVER THE INPUT: true; the input reads as it did. -/
def modelReadsSpec : ChangeSpec := { name := "modelReads", fn := fun _ => fun
  | [d1, d2] => { results := [.lit (.bool true)], args := [d1, d2] }
  | _ => none }
def modelReadsRow : OpenClaim := { program := "ytpogefeioedgeaagreatdoor", sum := "a7b3196ed2306d9963da5f567e980db07a7b8f9986f4e9fadf0361ac5996da34", func := "gneiss/gneisslaw21.ModelReads", spec := "modelReads", unfollowed := true, recurses := true, named := ["strings.asciiSpace", "unicode.White_Space"], plainKeys := false, apart := false, laid := [("unicode.White_Space", laid_unicode_White_Space), ("strings.asciiSpace", laid_strings_asciiSpace)] }
def ModelReadsSaid : Prop := modelReadsRow.holds Tryz.pinned (OpenSpec.ofChange modelReadsSpec)

/-- ITS FALSE NEIGHBOUR: 'it returns false'. Refute it at one input. -/
def modelReadsWrong : ChangeSpec := { name := "modelReads", fn := fun _ => fun
  | [d1, d2] => { results := [.lit (.bool false)], args := [d1, d2] }
  | _ => none }
def ModelReadsWrongFalsely : Prop := modelReadsRow.holds Tryz.pinned (OpenSpec.ofChange modelReadsWrong)

/-- 'gneisslaw21.ModelShort': WHATEVER THE INPUT: true; the input reads as it did. -/
def modelShortSpec : ChangeSpec := { name := "modelShort", fn := fun _ => fun
  | [d1, d2] => { results := [.lit (.bool true)], args := [d1, d2] }
  | _ => none }
def modelShortRow : OpenClaim := { program := "ytpogefeioedgeaagreatdoor", sum := "a7b3196ed2306d9963da5f567e980db07a7b8f9986f4e9fadf0361ac5996da34", func := "gneiss/gneisslaw21.ModelShort", spec := "modelShort", unfollowed := true, recurses := true, named := ["strings.asciiSpace", "unicode.White_Space"], plainKeys := false, apart := false, laid := [("unicode.White_Space", laid_unicode_White_Space), ("strings.asciiSpace", laid_strings_asciiSpace)] }
def ModelShortSaid : Prop := modelShortRow.holds Tryz.pinned (OpenSpec.ofChange modelShortSpec)

/-- ITS FALSE NEIGHBOUR: 'it returns false'. Refute it at one input. -/
def modelShortWrong : ChangeSpec := { name := "modelShort", fn := fun _ => fun
  | [d1, d2] => { results := [.lit (.bool false)], args := [d1, d2] }
  | _ => none }
def ModelShortWrongFalsely : Prop := modelShortRow.holds Tryz.pinned (OpenSpec.ofChange modelShortWrong)

/-- 'gneisslaw21.ModelFinals': WHATEVER THE INPUT: true; the input reads as it did. -/
def modelFinalsSpec : ChangeSpec := { name := "modelFinals", fn := fun _ => fun
  | [d] => { results := [.lit (.bool true)], args := [d] }
  | _ => none }
def modelFinalsRow : OpenClaim := { program := "ytpogefeioedgeaagreatdoor", sum := "a7b3196ed2306d9963da5f567e980db07a7b8f9986f4e9fadf0361ac5996da34", func := "gneiss/gneisslaw21.ModelFinals", spec := "modelFinals", unfollowed := true, recurses := true, named := ["strings.asciiSpace", "unicode.White_Space"], plainKeys := false, apart := false, laid := [("unicode.White_Space", laid_unicode_White_Space), ("strings.asciiSpace", laid_strings_asciiSpace)] }
def ModelFinalsSaid : Prop := modelFinalsRow.holds Tryz.pinned (OpenSpec.ofChange modelFinalsSpec)

/-- ITS FALSE NEIGHBOUR: 'it returns false'. Refute it at one input. -/
def modelFinalsWrong : ChangeSpec := { name := "modelFinals", fn := fun _ => fun
  | [d] => { results := [.lit (.bool false)], args := [d] }
  | _ => none }
def ModelFinalsWrongFalsely : Prop := modelFinalsRow.holds Tryz.pinned (OpenSpec.ofChange modelFinalsWrong)

/-- 'gneisslaw21.ModelWeaks': WHATEVER THE INPUT: true; the input reads as it did. -/
def modelWeaksSpec : ChangeSpec := { name := "modelWeaks", fn := fun _ => fun
  | [d1, d2] => { results := [.lit (.bool true)], args := [d1, d2] }
  | _ => none }
def modelWeaksRow : OpenClaim := { program := "ytpogefeioedgeaagreatdoor", sum := "a7b3196ed2306d9963da5f567e980db07a7b8f9986f4e9fadf0361ac5996da34", func := "gneiss/gneisslaw21.ModelWeaks", spec := "modelWeaks", unfollowed := true, recurses := true, named := ["strings.asciiSpace", "unicode.White_Space"], plainKeys := false, apart := false, laid := [("unicode.White_Space", laid_unicode_White_Space), ("strings.asciiSpace", laid_strings_asciiSpace)] }
def ModelWeaksSaid : Prop := modelWeaksRow.holds Tryz.pinned (OpenSpec.ofChange modelWeaksSpec)

/-- ITS FALSE NEIGHBOUR: 'it returns false'. Refute it at one input. -/
def modelWeaksWrong : ChangeSpec := { name := "modelWeaks", fn := fun _ => fun
  | [d1, d2] => { results := [.lit (.bool false)], args := [d1, d2] }
  | _ => none }
def ModelWeaksWrongFalsely : Prop := modelWeaksRow.holds Tryz.pinned (OpenSpec.ofChange modelWeaksWrong)

/-- 'gneisslaw21.ModelAlone': WHATEVER THE INPUT: true; the input reads as it did. -/
def modelAloneSpec : ChangeSpec := { name := "modelAlone", fn := fun _ => fun
  | [d1, d2, d3] => { results := [.lit (.bool true)], args := [d1, d2, d3] }
  | _ => none }
def modelAloneRow : OpenClaim := { program := "ytpogefeioedgeaagreatdoor", sum := "a7b3196ed2306d9963da5f567e980db07a7b8f9986f4e9fadf0361ac5996da34", func := "gneiss/gneisslaw21.ModelAlone", spec := "modelAlone", unfollowed := true, recurses := true, named := ["strings.asciiSpace", "unicode.White_Space"], plainKeys := false, apart := false, laid := [("unicode.White_Space", laid_unicode_White_Space), ("strings.asciiSpace", laid_strings_asciiSpace)] }
def ModelAloneSaid : Prop := modelAloneRow.holds Tryz.pinned (OpenSpec.ofChange modelAloneSpec)

/-- ITS FALSE NEIGHBOUR: 'it returns false'. Refute it at one input. -/
def modelAloneWrong : ChangeSpec := { name := "modelAlone", fn := fun _ => fun
  | [d1, d2, d3] => { results := [.lit (.bool false)], args := [d1, d2, d3] }
  | _ => none }
def ModelAloneWrongFalsely : Prop := modelAloneRow.holds Tryz.pinned (OpenSpec.ofChange modelAloneWrong)

/- THE SECOND FORM. 'bulk': how many values and letters a reading holds, each counted each time it is reached (what is shared counts as often as it is met; a slice's spare places count too). A statement '..UptoSaid' is the law's where the arguments, and the package variables that the reading takes, are together of bulk at most 1048576: NARROWER than '..Said'. Prove '..Said' where nothing that the law and all that it calls make is longer than what came in: it says more and counts as full. Else prove '..UptoSaid'. A law counts once. -/
mutual
def uptoBulk {H : Type} : DataW H → Nat
  | .lit (.string bytes) => bytes.length + 1
  | .lit _ => 1
  | .nil => 1
  | .ptr d => uptoBulk d + 1
  | .slice elems spare => uptoBulkAll elems + uptoBulkAll spare + 1
  | .agg parts => uptoBulkAll parts + 1
  | .iface _ d => uptoBulk d + 1
  | .map entries => uptoBulkEntries entries + 1
  | .held _ => 1
def uptoBulkAll {H : Type} : List (DataW H) → Nat
  | [] => 0
  | d :: r => uptoBulk d + uptoBulkAll r
def uptoBulkEntries {H : Type} : List (Lit × DataW H) → Nat
  | [] => 0
  | x :: r => uptoBulkEntry x + uptoBulkEntries r
def uptoBulkEntry {H : Type} : Lit × DataW H → Nat
  | (.string bytes, d) => bytes.length + uptoBulk d + 1
  | (_, d) => uptoBulk d + 1
 end
def uptoSmall : (H : Type) → List (DataW H) → Bool := fun _ ds => decide (uptoBulkAll ds ≤ 1048576)
def OpenSpec.upto (s : _root_.Go.ChangeSpec) : _root_.Go.OpenSpec := { _root_.Go.OpenSpec.ofChange s with cond := some uptoSmall }

/-- 'gneisslaw21.ModelHandlers', WHERE WHAT IT READS IS OF BULK AT MOST 1048576: true; the input reads as it did. -/
def modelHandlersUptoRow : OpenClaim := { program := "ytpogefeioedgeaagreatdoor", sum := "a7b3196ed2306d9963da5f567e980db07a7b8f9986f4e9fadf0361ac5996da34", func := "gneiss/gneisslaw21.ModelHandlers", spec := "modelHandlers", unfollowed := true, recurses := true, named := ["strings.asciiSpace", "unicode.White_Space"], plainKeys := false, apart := false, laid := [("unicode.White_Space", laid_unicode_White_Space), ("strings.asciiSpace", laid_strings_asciiSpace)], narrowed := true }
def ModelHandlersUptoSaid : Prop := modelHandlersUptoRow.holds Tryz.pinned (OpenSpec.upto modelHandlersSpec)

/-- 'gneisslaw21.ModelCallers', WHERE WHAT IT READS IS OF BULK AT MOST 1048576: true; the input reads as it did. -/
def modelCallersUptoRow : OpenClaim := { program := "ytpogefeioedgeaagreatdoor", sum := "a7b3196ed2306d9963da5f567e980db07a7b8f9986f4e9fadf0361ac5996da34", func := "gneiss/gneisslaw21.ModelCallers", spec := "modelCallers", unfollowed := true, recurses := true, named := ["strings.asciiSpace", "unicode.White_Space"], plainKeys := false, apart := false, laid := [("unicode.White_Space", laid_unicode_White_Space), ("strings.asciiSpace", laid_strings_asciiSpace)], narrowed := true }
def ModelCallersUptoSaid : Prop := modelCallersUptoRow.holds Tryz.pinned (OpenSpec.upto modelCallersSpec)

/-- 'gneisslaw21.ModelMonitors', WHERE WHAT IT READS IS OF BULK AT MOST 1048576: true; the input reads as it did. -/
def modelMonitorsUptoRow : OpenClaim := { program := "ytpogefeioedgeaagreatdoor", sum := "a7b3196ed2306d9963da5f567e980db07a7b8f9986f4e9fadf0361ac5996da34", func := "gneiss/gneisslaw21.ModelMonitors", spec := "modelMonitors", unfollowed := true, recurses := true, named := ["strings.asciiSpace", "unicode.White_Space"], plainKeys := false, apart := false, laid := [("unicode.White_Space", laid_unicode_White_Space), ("strings.asciiSpace", laid_strings_asciiSpace)], narrowed := true }
def ModelMonitorsUptoSaid : Prop := modelMonitorsUptoRow.holds Tryz.pinned (OpenSpec.upto modelMonitorsSpec)

/-- 'gneisslaw21.ModelStarts', WHERE WHAT IT READS IS OF BULK AT MOST 1048576: true; the input reads as it did. -/
def modelStartsUptoRow : OpenClaim := { program := "ytpogefeioedgeaagreatdoor", sum := "a7b3196ed2306d9963da5f567e980db07a7b8f9986f4e9fadf0361ac5996da34", func := "gneiss/gneisslaw21.ModelStarts", spec := "modelStarts", unfollowed := true, recurses := true, named := ["strings.asciiSpace", "unicode.White_Space"], plainKeys := false, apart := false, laid := [("unicode.White_Space", laid_unicode_White_Space), ("strings.asciiSpace", laid_strings_asciiSpace)], narrowed := true }
def ModelStartsUptoSaid : Prop := modelStartsUptoRow.holds Tryz.pinned (OpenSpec.upto modelStartsSpec)

/-- 'gneisslaw21.ModelReads', WHERE WHAT IT READS IS OF BULK AT MOST 1048576: true; the input reads as it did. -/
def modelReadsUptoRow : OpenClaim := { program := "ytpogefeioedgeaagreatdoor", sum := "a7b3196ed2306d9963da5f567e980db07a7b8f9986f4e9fadf0361ac5996da34", func := "gneiss/gneisslaw21.ModelReads", spec := "modelReads", unfollowed := true, recurses := true, named := ["strings.asciiSpace", "unicode.White_Space"], plainKeys := false, apart := false, laid := [("unicode.White_Space", laid_unicode_White_Space), ("strings.asciiSpace", laid_strings_asciiSpace)], narrowed := true }
def ModelReadsUptoSaid : Prop := modelReadsUptoRow.holds Tryz.pinned (OpenSpec.upto modelReadsSpec)

/-- 'gneisslaw21.ModelShort', WHERE WHAT IT READS IS OF BULK AT MOST 1048576: true; the input reads as it did. -/
def modelShortUptoRow : OpenClaim := { program := "ytpogefeioedgeaagreatdoor", sum := "a7b3196ed2306d9963da5f567e980db07a7b8f9986f4e9fadf0361ac5996da34", func := "gneiss/gneisslaw21.ModelShort", spec := "modelShort", unfollowed := true, recurses := true, named := ["strings.asciiSpace", "unicode.White_Space"], plainKeys := false, apart := false, laid := [("unicode.White_Space", laid_unicode_White_Space), ("strings.asciiSpace", laid_strings_asciiSpace)], narrowed := true }
def ModelShortUptoSaid : Prop := modelShortUptoRow.holds Tryz.pinned (OpenSpec.upto modelShortSpec)

/-- 'gneisslaw21.ModelFinals', WHERE WHAT IT READS IS OF BULK AT MOST 1048576: true; the input reads as it did. -/
def modelFinalsUptoRow : OpenClaim := { program := "ytpogefeioedgeaagreatdoor", sum := "a7b3196ed2306d9963da5f567e980db07a7b8f9986f4e9fadf0361ac5996da34", func := "gneiss/gneisslaw21.ModelFinals", spec := "modelFinals", unfollowed := true, recurses := true, named := ["strings.asciiSpace", "unicode.White_Space"], plainKeys := false, apart := false, laid := [("unicode.White_Space", laid_unicode_White_Space), ("strings.asciiSpace", laid_strings_asciiSpace)], narrowed := true }
def ModelFinalsUptoSaid : Prop := modelFinalsUptoRow.holds Tryz.pinned (OpenSpec.upto modelFinalsSpec)

/-- 'gneisslaw21.ModelWeaks', WHERE WHAT IT READS IS OF BULK AT MOST 1048576: true; the input reads as it did. -/
def modelWeaksUptoRow : OpenClaim := { program := "ytpogefeioedgeaagreatdoor", sum := "a7b3196ed2306d9963da5f567e980db07a7b8f9986f4e9fadf0361ac5996da34", func := "gneiss/gneisslaw21.ModelWeaks", spec := "modelWeaks", unfollowed := true, recurses := true, named := ["strings.asciiSpace", "unicode.White_Space"], plainKeys := false, apart := false, laid := [("unicode.White_Space", laid_unicode_White_Space), ("strings.asciiSpace", laid_strings_asciiSpace)], narrowed := true }
def ModelWeaksUptoSaid : Prop := modelWeaksUptoRow.holds Tryz.pinned (OpenSpec.upto modelWeaksSpec)

/-- 'gneisslaw21.ModelAlone', WHERE WHAT IT READS IS OF BULK AT MOST 1048576: true; the input reads as it did. -/
def modelAloneUptoRow : OpenClaim := { program := "ytpogefeioedgeaagreatdoor", sum := "a7b3196ed2306d9963da5f567e980db07a7b8f9986f4e9fadf0361ac5996da34", func := "gneiss/gneisslaw21.ModelAlone", spec := "modelAlone", unfollowed := true, recurses := true, named := ["strings.asciiSpace", "unicode.White_Space"], plainKeys := false, apart := false, laid := [("unicode.White_Space", laid_unicode_White_Space), ("strings.asciiSpace", laid_strings_asciiSpace)], narrowed := true }
def ModelAloneUptoSaid : Prop := modelAloneUptoRow.holds Tryz.pinned (OpenSpec.upto modelAloneSpec)

end Rows
end Go.Proofs.YtpogefeioedgeaaGreatDoor
