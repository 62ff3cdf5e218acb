/-
  NARROWER THAN 'FOR EVERY INPUT', by the rows' own cells (each row's printed sentence says how): TypesFaces: laid · ModelStacks: laid · ModelLocals: laid · ModelJumps: laid · ModelRefs: laid · ModelFields: laid · ModelRecursion: laid · ModelVirtuals: laid · ModelCasts: laid · LegalWeak: laid · LegalQueue: laid · ReplayOuts: laid.
  DERIVED. THE GIVEN ROWS OF THIS SEAT. 12 by the template 'for every input the law returns true; each argument reads behind the call as it read before'; 0 by the template 'total and deterministic' (their statements: YtfedjkcigdgcoaaGreatDoorTotals.lean).
  GIVEN WITH THE SEED: the statements are not yours to turn. If you find one false, say at which input.
  Laid BY PROGRAM, IN A SANDBOX (cutbox-rows.mjs): the forced cells as the released guide's own fill.sh prints them over the translation 1beda7659bf0ba15… (all of the seat's roots in one cut). By AI agents, Wed Nov 11 2026. No macro, syntax, notation, axiom, sorry.
-/
import Derived.Test.YtfedjkcigdgcoaaGreatDoorChecked
import GoSem.Claim
import GoSem.ClaimJoined
import GoSem.ClaimMapViews
import Derived.JoinedTies
import Derived.KernelRfl
namespace Go.Proofs.YtfedjkcigdgcoaaGreatDoor
/- THE CELL 'sum', in the pinned program and in every row, IS THE sha256 OF THE DUMP (.gsa) THAT YtfedjkcigdgcoaaGreatDoorProg.lean LOADS. Nothing in Lean hashes anything: it is a label: what it is worth is what the hold of that sum in a sandbox is worth. -/
noncomputable def Tryz.pinned : Pinned := { name := "ytfedjkcigdgcoaagreatdoor", sum := "1beda7659bf0ba1509fd7ad8896787517c6b1d7c8c6e646a8caaee6faba96f55", checked := Tryz.checked }
namespace Rows
def none {H : Type} : Left H := { results := [], args := [] }

/- WHAT THE LISTED PACKAGE-LEVEL VARIABLES READ AS WHEN THE CALL BEGINS. Each datum BY PROGRAM (the guide's laid-datum.mjs) off the statement by which the dump's own 'gosem.cut.vars' lays the variable. In a bare row this is a premise. The card (YtfedjkcigdgcoaaGreatDoorCards.lean) ties it to the program's text. -/
def laid_math_bits_deBruijn32tab {H : Type} : DataW H := .agg [.lit (.int .u8 0), .lit (.int .u8 1), .lit (.int .u8 28), .lit (.int .u8 2), .lit (.int .u8 29), .lit (.int .u8 14), .lit (.int .u8 24), .lit (.int .u8 3), .lit (.int .u8 30), .lit (.int .u8 22), .lit (.int .u8 20), .lit (.int .u8 15), .lit (.int .u8 25), .lit (.int .u8 17), .lit (.int .u8 4), .lit (.int .u8 8), .lit (.int .u8 31), .lit (.int .u8 27), .lit (.int .u8 13), .lit (.int .u8 23), .lit (.int .u8 21), .lit (.int .u8 19), .lit (.int .u8 16), .lit (.int .u8 7), .lit (.int .u8 26), .lit (.int .u8 12), .lit (.int .u8 18), .lit (.int .u8 6), .lit (.int .u8 11), .lit (.int .u8 5), .lit (.int .u8 10), .lit (.int .u8 9)]
def laid_math_bits_deBruijn64tab {H : Type} : DataW H := .agg [.lit (.int .u8 0), .lit (.int .u8 1), .lit (.int .u8 56), .lit (.int .u8 2), .lit (.int .u8 57), .lit (.int .u8 49), .lit (.int .u8 28), .lit (.int .u8 3), .lit (.int .u8 61), .lit (.int .u8 58), .lit (.int .u8 42), .lit (.int .u8 50), .lit (.int .u8 38), .lit (.int .u8 29), .lit (.int .u8 17), .lit (.int .u8 4), .lit (.int .u8 62), .lit (.int .u8 47), .lit (.int .u8 59), .lit (.int .u8 36), .lit (.int .u8 45), .lit (.int .u8 43), .lit (.int .u8 51), .lit (.int .u8 22), .lit (.int .u8 53), .lit (.int .u8 39), .lit (.int .u8 33), .lit (.int .u8 30), .lit (.int .u8 24), .lit (.int .u8 18), .lit (.int .u8 12), .lit (.int .u8 5), .lit (.int .u8 63), .lit (.int .u8 55), .lit (.int .u8 48), .lit (.int .u8 27), .lit (.int .u8 60), .lit (.int .u8 41), .lit (.int .u8 37), .lit (.int .u8 16), .lit (.int .u8 46), .lit (.int .u8 35), .lit (.int .u8 44), .lit (.int .u8 21), .lit (.int .u8 52), .lit (.int .u8 32), .lit (.int .u8 23), .lit (.int .u8 11), .lit (.int .u8 54), .lit (.int .u8 26), .lit (.int .u8 40), .lit (.int .u8 15), .lit (.int .u8 34), .lit (.int .u8 20), .lit (.int .u8 31), .lit (.int .u8 10), .lit (.int .u8 25), .lit (.int .u8 14), .lit (.int .u8 19), .lit (.int .u8 9), .lit (.int .u8 13), .lit (.int .u8 8), .lit (.int .u8 7), .lit (.int .u8 6)]
def laid_internal_strconv_uint64pow10 {H : Type} : DataW H := .agg [.lit (.int .u64 1), .lit (.int .u64 10), .lit (.int .u64 100), .lit (.int .u64 1000), .lit (.int .u64 10000), .lit (.int .u64 100000), .lit (.int .u64 1000000), .lit (.int .u64 10000000), .lit (.int .u64 100000000), .lit (.int .u64 1000000000), .lit (.int .u64 10000000000), .lit (.int .u64 100000000000), .lit (.int .u64 1000000000000), .lit (.int .u64 10000000000000), .lit (.int .u64 100000000000000), .lit (.int .u64 1000000000000000), .lit (.int .u64 10000000000000000), .lit (.int .u64 100000000000000000), .lit (.int .u64 1000000000000000000), .lit (.int .u64 10000000000000000000)]
def laid_unicode_White_Space {H : Type} : DataW H := .ptr (.agg [.slice [.agg [.lit (.int .u16 9), .lit (.int .u16 13), .lit (.int .u16 1)], .agg [.lit (.int .u16 32), .lit (.int .u16 133), .lit (.int .u16 101)], .agg [.lit (.int .u16 160), .lit (.int .u16 5760), .lit (.int .u16 5600)], .agg [.lit (.int .u16 8192), .lit (.int .u16 8202), .lit (.int .u16 1)], .agg [.lit (.int .u16 8232), .lit (.int .u16 8233), .lit (.int .u16 1)], .agg [.lit (.int .u16 8239), .lit (.int .u16 8287), .lit (.int .u16 48)], .agg [.lit (.int .u16 12288), .lit (.int .u16 12288), .lit (.int .u16 1)]] [], .nil, .lit (.int .i64 2)])
def laid_strings_asciiSpace {H : Type} : DataW H := .agg [.lit (.int .u8 0), .lit (.int .u8 0), .lit (.int .u8 0), .lit (.int .u8 0), .lit (.int .u8 0), .lit (.int .u8 0), .lit (.int .u8 0), .lit (.int .u8 0), .lit (.int .u8 0), .lit (.int .u8 1), .lit (.int .u8 1), .lit (.int .u8 1), .lit (.int .u8 1), .lit (.int .u8 1), .lit (.int .u8 0), .lit (.int .u8 0), .lit (.int .u8 0), .lit (.int .u8 0), .lit (.int .u8 0), .lit (.int .u8 0), .lit (.int .u8 0), .lit (.int .u8 0), .lit (.int .u8 0), .lit (.int .u8 0), .lit (.int .u8 0), .lit (.int .u8 0), .lit (.int .u8 0), .lit (.int .u8 0), .lit (.int .u8 0), .lit (.int .u8 0), .lit (.int .u8 0), .lit (.int .u8 0), .lit (.int .u8 1), .lit (.int .u8 0), .lit (.int .u8 0), .lit (.int .u8 0), .lit (.int .u8 0), .lit (.int .u8 0), .lit (.int .u8 0), .lit (.int .u8 0), .lit (.int .u8 0), .lit (.int .u8 0), .lit (.int .u8 0), .lit (.int .u8 0), .lit (.int .u8 0), .lit (.int .u8 0), .lit (.int .u8 0), .lit (.int .u8 0), .lit (.int .u8 0), .lit (.int .u8 0), .lit (.int .u8 0), .lit (.int .u8 0), .lit (.int .u8 0), .lit (.int .u8 0), .lit (.int .u8 0), .lit (.int .u8 0), .lit (.int .u8 0), .lit (.int .u8 0), .lit (.int .u8 0), .lit (.int .u8 0), .lit (.int .u8 0), .lit (.int .u8 0), .lit (.int .u8 0), .lit (.int .u8 0), .lit (.int .u8 0), .lit (.int .u8 0), .lit (.int .u8 0), .lit (.int .u8 0), .lit (.int .u8 0), .lit (.int .u8 0), .lit (.int .u8 0), .lit (.int .u8 0), .lit (.int .u8 0), .lit (.int .u8 0), .lit (.int .u8 0), .lit (.int .u8 0), .lit (.int .u8 0), .lit (.int .u8 0), .lit (.int .u8 0), .lit (.int .u8 0), .lit (.int .u8 0), .lit (.int .u8 0), .lit (.int .u8 0), .lit (.int .u8 0), .lit (.int .u8 0), .lit (.int .u8 0), .lit (.int .u8 0), .lit (.int .u8 0), .lit (.int .u8 0), .lit (.int .u8 0), .lit (.int .u8 0), .lit (.int .u8 0), .lit (.int .u8 0), .lit (.int .u8 0), .lit (.int .u8 0), .lit (.int .u8 0), .lit (.int .u8 0), .lit (.int .u8 0), .lit (.int .u8 0), .lit (.int .u8 0), .lit (.int .u8 0), .lit (.int .u8 0), .lit (.int .u8 0), .lit (.int .u8 0), .lit (.int .u8 0), .lit (.int .u8 0), .lit (.int .u8 0), .lit (.int .u8 0), .lit (.int .u8 0), .lit (.int .u8 0), .lit (.int .u8 0), .lit (.int .u8 0), .lit (.int .u8 0), .lit (.int .u8 0), .lit (.int .u8 0), .lit (.int .u8 0), .lit (.int .u8 0), .lit (.int .u8 0), .lit (.int .u8 0), .lit (.int .u8 0), .lit (.int .u8 0), .lit (.int .u8 0), .lit (.int .u8 0), .lit (.int .u8 0), .lit (.int .u8 0), .lit (.int .u8 0), .lit (.int .u8 0), .lit (.int .u8 0), .lit (.int .u8 0), .lit (.int .u8 0), .lit (.int .u8 0), .lit (.int .u8 0), .lit (.int .u8 0), .lit (.int .u8 0), .lit (.int .u8 0), .lit (.int .u8 0), .lit (.int .u8 0), .lit (.int .u8 0), .lit (.int .u8 0), .lit (.int .u8 0), .lit (.int .u8 0), .lit (.int .u8 0), .lit (.int .u8 0), .lit (.int .u8 0), .lit (.int .u8 0), .lit (.int .u8 0), .lit (.int .u8 0), .lit (.int .u8 0), .lit (.int .u8 0), .lit (.int .u8 0), .lit (.int .u8 0), .lit (.int .u8 0), .lit (.int .u8 0), .lit (.int .u8 0), .lit (.int .u8 0), .lit (.int .u8 0), .lit (.int .u8 0), .lit (.int .u8 0), .lit (.int .u8 0), .lit (.int .u8 0), .lit (.int .u8 0), .lit (.int .u8 0), .lit (.int .u8 0), .lit (.int .u8 0), .lit (.int .u8 0), .lit (.int .u8 0), .lit (.int .u8 0), .lit (.int .u8 0), .lit (.int .u8 0), .lit (.int .u8 0), .lit (.int .u8 0), .lit (.int .u8 0), .lit (.int .u8 0), .lit (.int .u8 0), .lit (.int .u8 0), .lit (.int .u8 0), .lit (.int .u8 0), .lit (.int .u8 0), .lit (.int .u8 0), .lit (.int .u8 0), .lit (.int .u8 0), .lit (.int .u8 0), .lit (.int .u8 0), .lit (.int .u8 0), .lit (.int .u8 0), .lit (.int .u8 0), .lit (.int .u8 0), .lit (.int .u8 0), .lit (.int .u8 0), .lit (.int .u8 0), .lit (.int .u8 0), .lit (.int .u8 0), .lit (.int .u8 0), .lit (.int .u8 0), .lit (.int .u8 0), .lit (.int .u8 0), .lit (.int .u8 0), .lit (.int .u8 0), .lit (.int .u8 0), .lit (.int .u8 0), .lit (.int .u8 0), .lit (.int .u8 0), .lit (.int .u8 0), .lit (.int .u8 0), .lit (.int .u8 0), .lit (.int .u8 0), .lit (.int .u8 0), .lit (.int .u8 0), .lit (.int .u8 0), .lit (.int .u8 0), .lit (.int .u8 0), .lit (.int .u8 0), .lit (.int .u8 0), .lit (.int .u8 0), .lit (.int .u8 0), .lit (.int .u8 0), .lit (.int .u8 0), .lit (.int .u8 0), .lit (.int .u8 0), .lit (.int .u8 0), .lit (.int .u8 0), .lit (.int .u8 0), .lit (.int .u8 0), .lit (.int .u8 0), .lit (.int .u8 0), .lit (.int .u8 0), .lit (.int .u8 0), .lit (.int .u8 0), .lit (.int .u8 0), .lit (.int .u8 0), .lit (.int .u8 0), .lit (.int .u8 0), .lit (.int .u8 0), .lit (.int .u8 0), .lit (.int .u8 0), .lit (.int .u8 0), .lit (.int .u8 0), .lit (.int .u8 0), .lit (.int .u8 0), .lit (.int .u8 0), .lit (.int .u8 0), .lit (.int .u8 0), .lit (.int .u8 0), .lit (.int .u8 0), .lit (.int .u8 0), .lit (.int .u8 0), .lit (.int .u8 0), .lit (.int .u8 0), .lit (.int .u8 0), .lit (.int .u8 0), .lit (.int .u8 0), .lit (.int .u8 0), .lit (.int .u8 0), .lit (.int .u8 0), .lit (.int .u8 0), .lit (.int .u8 0)]

/-- 'gneisslaw17.TypesFaces': WHATEVER THE INPUT: true; the input reads as it did. -/
def typesFacesSpec : ChangeSpec := { name := "typesFaces", fn := fun _ => fun
  | [d1, d2] => { results := [.lit (.bool true)], args := [d1, d2] }
  | _ => none }
def typesFacesRow : OpenClaim := { program := "ytfedjkcigdgcoaagreatdoor", sum := "1beda7659bf0ba1509fd7ad8896787517c6b1d7c8c6e646a8caaee6faba96f55", func := "gneiss/gneisslaw17.TypesFaces", spec := "typesFaces", unfollowed := true, recurses := true, named := ["internal/strconv.uint64pow10", "math/bits.deBruijn32tab", "math/bits.deBruijn64tab"], plainKeys := false, apart := false, laid := [("math/bits.deBruijn32tab", laid_math_bits_deBruijn32tab), ("math/bits.deBruijn64tab", laid_math_bits_deBruijn64tab), ("internal/strconv.uint64pow10", laid_internal_strconv_uint64pow10)] }
def TypesFacesSaid : Prop := typesFacesRow.holds Tryz.pinned (OpenSpec.ofChange typesFacesSpec)

/-- ITS FALSE NEIGHBOUR: 'it returns false'. Refute it at one input. -/
def typesFacesWrong : ChangeSpec := { name := "typesFaces", fn := fun _ => fun
  | [d1, d2] => { results := [.lit (.bool false)], args := [d1, d2] }
  | _ => none }
def TypesFacesWrongFalsely : Prop := typesFacesRow.holds Tryz.pinned (OpenSpec.ofChange typesFacesWrong)

/-- 'gneisslaw21.ModelStacks': WHATEVER THE INPUT: true; the input reads as it did. -/
def modelStacksSpec : ChangeSpec := { name := "modelStacks", fn := fun _ => fun
  | [d1, d2] => { results := [.lit (.bool true)], args := [d1, d2] }
  | _ => none }
def modelStacksRow : OpenClaim := { program := "ytfedjkcigdgcoaagreatdoor", sum := "1beda7659bf0ba1509fd7ad8896787517c6b1d7c8c6e646a8caaee6faba96f55", func := "gneiss/gneisslaw21.ModelStacks", spec := "modelStacks", unfollowed := true, recurses := true, named := ["strings.asciiSpace", "unicode.White_Space"], plainKeys := false, apart := false, laid := [("unicode.White_Space", laid_unicode_White_Space), ("strings.asciiSpace", laid_strings_asciiSpace)] }
def ModelStacksSaid : Prop := modelStacksRow.holds Tryz.pinned (OpenSpec.ofChange modelStacksSpec)

/-- ITS FALSE NEIGHBOUR: 'it returns false'. Refute it at one input. -/
def modelStacksWrong : ChangeSpec := { name := "modelStacks", fn := fun _ => fun
  | [d1, d2] => { results := [.lit (.bool false)], args := [d1, d2] }
  | _ => none }
def ModelStacksWrongFalsely : Prop := modelStacksRow.holds Tryz.pinned (OpenSpec.ofChange modelStacksWrong)

/-- 'gneisslaw21.ModelLocals': WHATEVER THE INPUT: true; the input reads as it did. -/
def modelLocalsSpec : ChangeSpec := { name := "modelLocals", fn := fun _ => fun
  | [d1, d2] => { results := [.lit (.bool true)], args := [d1, d2] }
  | _ => none }
def modelLocalsRow : OpenClaim := { program := "ytfedjkcigdgcoaagreatdoor", sum := "1beda7659bf0ba1509fd7ad8896787517c6b1d7c8c6e646a8caaee6faba96f55", func := "gneiss/gneisslaw21.ModelLocals", spec := "modelLocals", unfollowed := true, recurses := true, named := ["strings.asciiSpace", "unicode.White_Space"], plainKeys := false, apart := false, laid := [("unicode.White_Space", laid_unicode_White_Space), ("strings.asciiSpace", laid_strings_asciiSpace)] }
def ModelLocalsSaid : Prop := modelLocalsRow.holds Tryz.pinned (OpenSpec.ofChange modelLocalsSpec)

/-- ITS FALSE NEIGHBOUR: 'it returns false'. Refute it at one input. -/
def modelLocalsWrong : ChangeSpec := { name := "modelLocals", fn := fun _ => fun
  | [d1, d2] => { results := [.lit (.bool false)], args := [d1, d2] }
  | _ => none }
def ModelLocalsWrongFalsely : Prop := modelLocalsRow.holds Tryz.pinned (OpenSpec.ofChange modelLocalsWrong)

/-- 'gneisslaw21.ModelJumps': WHATEVER THE INPUT: true; the input reads as it did. -/
def modelJumpsSpec : ChangeSpec := { name := "modelJumps", fn := fun _ => fun
  | [d1, d2] => { results := [.lit (.bool true)], args := [d1, d2] }
  | _ => none }
def modelJumpsRow : OpenClaim := { program := "ytfedjkcigdgcoaagreatdoor", sum := "1beda7659bf0ba1509fd7ad8896787517c6b1d7c8c6e646a8caaee6faba96f55", func := "gneiss/gneisslaw21.ModelJumps", spec := "modelJumps", unfollowed := true, recurses := true, named := ["strings.asciiSpace", "unicode.White_Space"], plainKeys := false, apart := false, laid := [("unicode.White_Space", laid_unicode_White_Space), ("strings.asciiSpace", laid_strings_asciiSpace)] }
def ModelJumpsSaid : Prop := modelJumpsRow.holds Tryz.pinned (OpenSpec.ofChange modelJumpsSpec)

/-- ITS FALSE NEIGHBOUR: 'it returns false'. Refute it at one input. -/
def modelJumpsWrong : ChangeSpec := { name := "modelJumps", fn := fun _ => fun
  | [d1, d2] => { results := [.lit (.bool false)], args := [d1, d2] }
  | _ => none }
def ModelJumpsWrongFalsely : Prop := modelJumpsRow.holds Tryz.pinned (OpenSpec.ofChange modelJumpsWrong)

/-- 'gneisslaw21.ModelRefs': WHATEVER THE INPUT: true; the input reads as it did. -/
def modelRefsSpec : ChangeSpec := { name := "modelRefs", fn := fun _ => fun
  | [d] => { results := [.lit (.bool true)], args := [d] }
  | _ => none }
def modelRefsRow : OpenClaim := { program := "ytfedjkcigdgcoaagreatdoor", sum := "1beda7659bf0ba1509fd7ad8896787517c6b1d7c8c6e646a8caaee6faba96f55", func := "gneiss/gneisslaw21.ModelRefs", spec := "modelRefs", unfollowed := true, recurses := true, named := ["strings.asciiSpace", "unicode.White_Space"], plainKeys := false, apart := false, laid := [("unicode.White_Space", laid_unicode_White_Space), ("strings.asciiSpace", laid_strings_asciiSpace)] }
def ModelRefsSaid : Prop := modelRefsRow.holds Tryz.pinned (OpenSpec.ofChange modelRefsSpec)

/-- ITS FALSE NEIGHBOUR: 'it returns false'. Refute it at one input. -/
def modelRefsWrong : ChangeSpec := { name := "modelRefs", fn := fun _ => fun
  | [d] => { results := [.lit (.bool false)], args := [d] }
  | _ => none }
def ModelRefsWrongFalsely : Prop := modelRefsRow.holds Tryz.pinned (OpenSpec.ofChange modelRefsWrong)

/-- 'gneisslaw21.ModelFields': WHATEVER THE INPUT: true; the input reads as it did. -/
def modelFieldsSpec : ChangeSpec := { name := "modelFields", fn := fun _ => fun
  | [d] => { results := [.lit (.bool true)], args := [d] }
  | _ => none }
def modelFieldsRow : OpenClaim := { program := "ytfedjkcigdgcoaagreatdoor", sum := "1beda7659bf0ba1509fd7ad8896787517c6b1d7c8c6e646a8caaee6faba96f55", func := "gneiss/gneisslaw21.ModelFields", spec := "modelFields", unfollowed := true, recurses := true, named := ["strings.asciiSpace", "unicode.White_Space"], plainKeys := false, apart := false, laid := [("unicode.White_Space", laid_unicode_White_Space), ("strings.asciiSpace", laid_strings_asciiSpace)] }
def ModelFieldsSaid : Prop := modelFieldsRow.holds Tryz.pinned (OpenSpec.ofChange modelFieldsSpec)

/-- ITS FALSE NEIGHBOUR: 'it returns false'. Refute it at one input. -/
def modelFieldsWrong : ChangeSpec := { name := "modelFields", fn := fun _ => fun
  | [d] => { results := [.lit (.bool false)], args := [d] }
  | _ => none }
def ModelFieldsWrongFalsely : Prop := modelFieldsRow.holds Tryz.pinned (OpenSpec.ofChange modelFieldsWrong)

/-- 'gneisslaw21.ModelRecursion': WHATEVER THE INPUT: true; the input reads as it did. -/
def modelRecursionSpec : ChangeSpec := { name := "modelRecursion", fn := fun _ => fun
  | [d] => { results := [.lit (.bool true)], args := [d] }
  | _ => none }
def modelRecursionRow : OpenClaim := { program := "ytfedjkcigdgcoaagreatdoor", sum := "1beda7659bf0ba1509fd7ad8896787517c6b1d7c8c6e646a8caaee6faba96f55", func := "gneiss/gneisslaw21.ModelRecursion", spec := "modelRecursion", unfollowed := true, recurses := true, named := ["strings.asciiSpace", "unicode.White_Space"], plainKeys := false, apart := false, laid := [("unicode.White_Space", laid_unicode_White_Space), ("strings.asciiSpace", laid_strings_asciiSpace)] }
def ModelRecursionSaid : Prop := modelRecursionRow.holds Tryz.pinned (OpenSpec.ofChange modelRecursionSpec)

/-- ITS FALSE NEIGHBOUR: 'it returns false'. Refute it at one input. -/
def modelRecursionWrong : ChangeSpec := { name := "modelRecursion", fn := fun _ => fun
  | [d] => { results := [.lit (.bool false)], args := [d] }
  | _ => none }
def ModelRecursionWrongFalsely : Prop := modelRecursionRow.holds Tryz.pinned (OpenSpec.ofChange modelRecursionWrong)

/-- 'gneisslaw21.ModelVirtuals': WHATEVER THE INPUT: true; the input reads as it did. -/
def modelVirtualsSpec : ChangeSpec := { name := "modelVirtuals", fn := fun _ => fun
  | [d1, d2] => { results := [.lit (.bool true)], args := [d1, d2] }
  | _ => none }
def modelVirtualsRow : OpenClaim := { program := "ytfedjkcigdgcoaagreatdoor", sum := "1beda7659bf0ba1509fd7ad8896787517c6b1d7c8c6e646a8caaee6faba96f55", func := "gneiss/gneisslaw21.ModelVirtuals", spec := "modelVirtuals", unfollowed := true, recurses := true, named := ["strings.asciiSpace", "unicode.White_Space"], plainKeys := false, apart := false, laid := [("unicode.White_Space", laid_unicode_White_Space), ("strings.asciiSpace", laid_strings_asciiSpace)] }
def ModelVirtualsSaid : Prop := modelVirtualsRow.holds Tryz.pinned (OpenSpec.ofChange modelVirtualsSpec)

/-- ITS FALSE NEIGHBOUR: 'it returns false'. Refute it at one input. -/
def modelVirtualsWrong : ChangeSpec := { name := "modelVirtuals", fn := fun _ => fun
  | [d1, d2] => { results := [.lit (.bool false)], args := [d1, d2] }
  | _ => none }
def ModelVirtualsWrongFalsely : Prop := modelVirtualsRow.holds Tryz.pinned (OpenSpec.ofChange modelVirtualsWrong)

/-- 'gneisslaw21.ModelCasts': WHATEVER THE INPUT: true; the input reads as it did. -/
def modelCastsSpec : ChangeSpec := { name := "modelCasts", fn := fun _ => fun
  | [d1, d2] => { results := [.lit (.bool true)], args := [d1, d2] }
  | _ => none }
def modelCastsRow : OpenClaim := { program := "ytfedjkcigdgcoaagreatdoor", sum := "1beda7659bf0ba1509fd7ad8896787517c6b1d7c8c6e646a8caaee6faba96f55", func := "gneiss/gneisslaw21.ModelCasts", spec := "modelCasts", unfollowed := true, recurses := true, named := ["strings.asciiSpace", "unicode.White_Space"], plainKeys := false, apart := false, laid := [("unicode.White_Space", laid_unicode_White_Space), ("strings.asciiSpace", laid_strings_asciiSpace)] }
def ModelCastsSaid : Prop := modelCastsRow.holds Tryz.pinned (OpenSpec.ofChange modelCastsSpec)

/-- ITS FALSE NEIGHBOUR: 'it returns false'. Refute it at one input. -/
def modelCastsWrong : ChangeSpec := { name := "modelCasts", fn := fun _ => fun
  | [d1, d2] => { results := [.lit (.bool false)], args := [d1, d2] }
  | _ => none }
def ModelCastsWrongFalsely : Prop := modelCastsRow.holds Tryz.pinned (OpenSpec.ofChange modelCastsWrong)

/-- 'gneisslaw22.LegalWeak': WHATEVER THE INPUT: true; the input reads as it did. -/
def legalWeakSpec : ChangeSpec := { name := "legalWeak", fn := fun _ => fun
  | [d1, d2] => { results := [.lit (.bool true)], args := [d1, d2] }
  | _ => none }
def legalWeakRow : OpenClaim := { program := "ytfedjkcigdgcoaagreatdoor", sum := "1beda7659bf0ba1509fd7ad8896787517c6b1d7c8c6e646a8caaee6faba96f55", func := "gneiss/gneisslaw22.LegalWeak", spec := "legalWeak", unfollowed := true, recurses := true, named := ["strings.asciiSpace", "unicode.White_Space"], plainKeys := false, apart := false, laid := [("unicode.White_Space", laid_unicode_White_Space), ("strings.asciiSpace", laid_strings_asciiSpace)] }
def LegalWeakSaid : Prop := legalWeakRow.holds Tryz.pinned (OpenSpec.ofChange legalWeakSpec)

/-- ITS FALSE NEIGHBOUR: 'it returns false'. Refute it at one input. -/
def legalWeakWrong : ChangeSpec := { name := "legalWeak", fn := fun _ => fun
  | [d1, d2] => { results := [.lit (.bool false)], args := [d1, d2] }
  | _ => none }
def LegalWeakWrongFalsely : Prop := legalWeakRow.holds Tryz.pinned (OpenSpec.ofChange legalWeakWrong)

/-- 'gneisslaw22.LegalQueue': WHATEVER THE INPUT: true; the input reads as it did. -/
def legalQueueSpec : ChangeSpec := { name := "legalQueue", fn := fun _ => fun
  | [d] => { results := [.lit (.bool true)], args := [d] }
  | _ => none }
def legalQueueRow : OpenClaim := { program := "ytfedjkcigdgcoaagreatdoor", sum := "1beda7659bf0ba1509fd7ad8896787517c6b1d7c8c6e646a8caaee6faba96f55", func := "gneiss/gneisslaw22.LegalQueue", spec := "legalQueue", unfollowed := true, recurses := true, named := ["strings.asciiSpace", "unicode.White_Space"], plainKeys := false, apart := false, laid := [("unicode.White_Space", laid_unicode_White_Space), ("strings.asciiSpace", laid_strings_asciiSpace)] }
def LegalQueueSaid : Prop := legalQueueRow.holds Tryz.pinned (OpenSpec.ofChange legalQueueSpec)

/-- ITS FALSE NEIGHBOUR: 'it returns false'. Refute it at one input. -/
def legalQueueWrong : ChangeSpec := { name := "legalQueue", fn := fun _ => fun
  | [d] => { results := [.lit (.bool false)], args := [d] }
  | _ => none }
def LegalQueueWrongFalsely : Prop := legalQueueRow.holds Tryz.pinned (OpenSpec.ofChange legalQueueWrong)

/-- 'gneisslaw24.ReplayOuts': WHATEVER THE INPUT: true; the input reads as it did. -/
def replayOutsSpec : ChangeSpec := { name := "replayOuts", fn := fun _ => fun
  | [d1, d2] => { results := [.lit (.bool true)], args := [d1, d2] }
  | _ => none }
def replayOutsRow : OpenClaim := { program := "ytfedjkcigdgcoaagreatdoor", sum := "1beda7659bf0ba1509fd7ad8896787517c6b1d7c8c6e646a8caaee6faba96f55", func := "gneiss/gneisslaw24.ReplayOuts", spec := "replayOuts", unfollowed := true, recurses := true, named := ["strings.asciiSpace", "unicode.White_Space"], plainKeys := false, apart := false, laid := [("unicode.White_Space", laid_unicode_White_Space), ("strings.asciiSpace", laid_strings_asciiSpace)] }
def ReplayOutsSaid : Prop := replayOutsRow.holds Tryz.pinned (OpenSpec.ofChange replayOutsSpec)

/-- ITS FALSE NEIGHBOUR: 'it returns false'. Refute it at one input. -/
def replayOutsWrong : ChangeSpec := { name := "replayOuts", fn := fun _ => fun
  | [d1, d2] => { results := [.lit (.bool false)], args := [d1, d2] }
  | _ => none }
def ReplayOutsWrongFalsely : Prop := replayOutsRow.holds Tryz.pinned (OpenSpec.ofChange replayOutsWrong)

/- THE SECOND FORM. 'bulk': how many values and letters a reading holds, each counted each time it is reached (what is shared counts as often as it is met; a slice's spare places count too). A statement '..UptoSaid' is the law's where the arguments, and the package variables that the reading takes, are together of bulk at most 1048576: NARROWER than '..Said'. Prove '..Said' where nothing that the law and all that it calls make is longer than what came in: it says more and counts as full. Else prove '..UptoSaid'. A law counts once. -/
mutual
def uptoBulk {H : Type} : DataW H → Nat
  | .lit (.string bytes) => bytes.length + 1
  | .lit _ => 1
  | .nil => 1
  | .ptr d => uptoBulk d + 1
  | .slice elems spare => uptoBulkAll elems + uptoBulkAll spare + 1
  | .agg parts => uptoBulkAll parts + 1
  | .iface _ d => uptoBulk d + 1
  | .map entries => uptoBulkEntries entries + 1
  | .held _ => 1
def uptoBulkAll {H : Type} : List (DataW H) → Nat
  | [] => 0
  | d :: r => uptoBulk d + uptoBulkAll r
def uptoBulkEntries {H : Type} : List (Lit × DataW H) → Nat
  | [] => 0
  | x :: r => uptoBulkEntry x + uptoBulkEntries r
def uptoBulkEntry {H : Type} : Lit × DataW H → Nat
  | (.string bytes, d) => bytes.length + uptoBulk d + 1
  | (_, d) => uptoBulk d + 1
 end
def uptoSmall : (H : Type) → List (DataW H) → Bool := fun _ ds => decide (uptoBulkAll ds ≤ 1048576)
def OpenSpec.upto (s : _root_.Go.ChangeSpec) : _root_.Go.OpenSpec := { _root_.Go.OpenSpec.ofChange s with cond := some uptoSmall }

/-- 'gneisslaw17.TypesFaces', WHERE WHAT IT READS IS OF BULK AT MOST 1048576: true; the input reads as it did. -/
def typesFacesUptoRow : OpenClaim := { program := "ytfedjkcigdgcoaagreatdoor", sum := "1beda7659bf0ba1509fd7ad8896787517c6b1d7c8c6e646a8caaee6faba96f55", func := "gneiss/gneisslaw17.TypesFaces", spec := "typesFaces", unfollowed := true, recurses := true, named := ["internal/strconv.uint64pow10", "math/bits.deBruijn32tab", "math/bits.deBruijn64tab"], plainKeys := false, apart := false, laid := [("math/bits.deBruijn32tab", laid_math_bits_deBruijn32tab), ("math/bits.deBruijn64tab", laid_math_bits_deBruijn64tab), ("internal/strconv.uint64pow10", laid_internal_strconv_uint64pow10)], narrowed := true }
def TypesFacesUptoSaid : Prop := typesFacesUptoRow.holds Tryz.pinned (OpenSpec.upto typesFacesSpec)

/-- 'gneisslaw21.ModelStacks', WHERE WHAT IT READS IS OF BULK AT MOST 1048576: true; the input reads as it did. -/
def modelStacksUptoRow : OpenClaim := { program := "ytfedjkcigdgcoaagreatdoor", sum := "1beda7659bf0ba1509fd7ad8896787517c6b1d7c8c6e646a8caaee6faba96f55", func := "gneiss/gneisslaw21.ModelStacks", spec := "modelStacks", unfollowed := true, recurses := true, named := ["strings.asciiSpace", "unicode.White_Space"], plainKeys := false, apart := false, laid := [("unicode.White_Space", laid_unicode_White_Space), ("strings.asciiSpace", laid_strings_asciiSpace)], narrowed := true }
def ModelStacksUptoSaid : Prop := modelStacksUptoRow.holds Tryz.pinned (OpenSpec.upto modelStacksSpec)

/-- 'gneisslaw21.ModelLocals', WHERE WHAT IT READS IS OF BULK AT MOST 1048576: true; the input reads as it did. -/
def modelLocalsUptoRow : OpenClaim := { program := "ytfedjkcigdgcoaagreatdoor", sum := "1beda7659bf0ba1509fd7ad8896787517c6b1d7c8c6e646a8caaee6faba96f55", func := "gneiss/gneisslaw21.ModelLocals", spec := "modelLocals", unfollowed := true, recurses := true, named := ["strings.asciiSpace", "unicode.White_Space"], plainKeys := false, apart := false, laid := [("unicode.White_Space", laid_unicode_White_Space), ("strings.asciiSpace", laid_strings_asciiSpace)], narrowed := true }
def ModelLocalsUptoSaid : Prop := modelLocalsUptoRow.holds Tryz.pinned (OpenSpec.upto modelLocalsSpec)

/-- 'gneisslaw21.ModelJumps', WHERE WHAT IT READS IS OF BULK AT MOST 1048576: true; the input reads as it did. -/
def modelJumpsUptoRow : OpenClaim := { program := "ytfedjkcigdgcoaagreatdoor", sum := "1beda7659bf0ba1509fd7ad8896787517c6b1d7c8c6e646a8caaee6faba96f55", func := "gneiss/gneisslaw21.ModelJumps", spec := "modelJumps", unfollowed := true, recurses := true, named := ["strings.asciiSpace", "unicode.White_Space"], plainKeys := false, apart := false, laid := [("unicode.White_Space", laid_unicode_White_Space), ("strings.asciiSpace", laid_strings_asciiSpace)], narrowed := true }
def ModelJumpsUptoSaid : Prop := modelJumpsUptoRow.holds Tryz.pinned (OpenSpec.upto modelJumpsSpec)

/-- 'gneisslaw21.ModelRefs', WHERE WHAT IT READS IS OF BULK AT MOST 1048576: true; the input reads as it did. -/
def modelRefsUptoRow : OpenClaim := { program := "ytfedjkcigdgcoaagreatdoor", sum := "1beda7659bf0ba1509fd7ad8896787517c6b1d7c8c6e646a8caaee6faba96f55", func := "gneiss/gneisslaw21.ModelRefs", spec := "modelRefs", unfollowed := true, recurses := true, named := ["strings.asciiSpace", "unicode.White_Space"], plainKeys := false, apart := false, laid := [("unicode.White_Space", laid_unicode_White_Space), ("strings.asciiSpace", laid_strings_asciiSpace)], narrowed := true }
def ModelRefsUptoSaid : Prop := modelRefsUptoRow.holds Tryz.pinned (OpenSpec.upto modelRefsSpec)

/-- 'gneisslaw21.ModelFields', WHERE WHAT IT READS IS OF BULK AT MOST 1048576: true; the input reads as it did. -/
def modelFieldsUptoRow : OpenClaim := { program := "ytfedjkcigdgcoaagreatdoor", sum := "1beda7659bf0ba1509fd7ad8896787517c6b1d7c8c6e646a8caaee6faba96f55", func := "gneiss/gneisslaw21.ModelFields", spec := "modelFields", unfollowed := true, recurses := true, named := ["strings.asciiSpace", "unicode.White_Space"], plainKeys := false, apart := false, laid := [("unicode.White_Space", laid_unicode_White_Space), ("strings.asciiSpace", laid_strings_asciiSpace)], narrowed := true }
def ModelFieldsUptoSaid : Prop := modelFieldsUptoRow.holds Tryz.pinned (OpenSpec.upto modelFieldsSpec)

/-- 'gneisslaw21.ModelRecursion', WHERE WHAT IT READS IS OF BULK AT MOST 1048576: true; the input reads as it did. -/
def modelRecursionUptoRow : OpenClaim := { program := "ytfedjkcigdgcoaagreatdoor", sum := "1beda7659bf0ba1509fd7ad8896787517c6b1d7c8c6e646a8caaee6faba96f55", func := "gneiss/gneisslaw21.ModelRecursion", spec := "modelRecursion", unfollowed := true, recurses := true, named := ["strings.asciiSpace", "unicode.White_Space"], plainKeys := false, apart := false, laid := [("unicode.White_Space", laid_unicode_White_Space), ("strings.asciiSpace", laid_strings_asciiSpace)], narrowed := true }
def ModelRecursionUptoSaid : Prop := modelRecursionUptoRow.holds Tryz.pinned (OpenSpec.upto modelRecursionSpec)

/-- 'gneisslaw21.ModelVirtuals', WHERE WHAT IT READS IS OF BULK AT MOST 1048576: true; the input reads as it did. -/
def modelVirtualsUptoRow : OpenClaim := { program := "ytfedjkcigdgcoaagreatdoor", sum := "1beda7659bf0ba1509fd7ad8896787517c6b1d7c8c6e646a8caaee6faba96f55", func := "gneiss/gneisslaw21.ModelVirtuals", spec := "modelVirtuals", unfollowed := true, recurses := true, named := ["strings.asciiSpace", "unicode.White_Space"], plainKeys := false, apart := false, laid := [("unicode.White_Space", laid_unicode_White_Space), ("strings.asciiSpace", laid_strings_asciiSpace)], narrowed := true }
def ModelVirtualsUptoSaid : Prop := modelVirtualsUptoRow.holds Tryz.pinned (OpenSpec.upto modelVirtualsSpec)

/-- 'gneisslaw21.ModelCasts', WHERE WHAT IT READS IS OF BULK AT MOST 1048576: true; the input reads as it did. -/
def modelCastsUptoRow : OpenClaim := { program := "ytfedjkcigdgcoaagreatdoor", sum := "1beda7659bf0ba1509fd7ad8896787517c6b1d7c8c6e646a8caaee6faba96f55", func := "gneiss/gneisslaw21.ModelCasts", spec := "modelCasts", unfollowed := true, recurses := true, named := ["strings.asciiSpace", "unicode.White_Space"], plainKeys := false, apart := false, laid := [("unicode.White_Space", laid_unicode_White_Space), ("strings.asciiSpace", laid_strings_asciiSpace)], narrowed := true }
def ModelCastsUptoSaid : Prop := modelCastsUptoRow.holds Tryz.pinned (OpenSpec.upto modelCastsSpec)

/-- 'gneisslaw22.LegalWeak', WHERE WHAT IT READS IS OF BULK AT MOST 1048576: true; the input reads as it did. -/
def legalWeakUptoRow : OpenClaim := { program := "ytfedjkcigdgcoaagreatdoor", sum := "1beda7659bf0ba1509fd7ad8896787517c6b1d7c8c6e646a8caaee6faba96f55", func := "gneiss/gneisslaw22.LegalWeak", spec := "legalWeak", unfollowed := true, recurses := true, named := ["strings.asciiSpace", "unicode.White_Space"], plainKeys := false, apart := false, laid := [("unicode.White_Space", laid_unicode_White_Space), ("strings.asciiSpace", laid_strings_asciiSpace)], narrowed := true }
def LegalWeakUptoSaid : Prop := legalWeakUptoRow.holds Tryz.pinned (OpenSpec.upto legalWeakSpec)

/-- 'gneisslaw22.LegalQueue', WHERE WHAT IT READS IS OF BULK AT MOST 1048576: true; the input reads as it did. -/
def legalQueueUptoRow : OpenClaim := { program := "ytfedjkcigdgcoaagreatdoor", sum := "1beda7659bf0ba1509fd7ad8896787517c6b1d7c8c6e646a8caaee6faba96f55", func := "gneiss/gneisslaw22.LegalQueue", spec := "legalQueue", unfollowed := true, recurses := true, named := ["strings.asciiSpace", "unicode.White_Space"], plainKeys := false, apart := false, laid := [("unicode.White_Space", laid_unicode_White_Space), ("strings.asciiSpace", laid_strings_asciiSpace)], narrowed := true }
def LegalQueueUptoSaid : Prop := legalQueueUptoRow.holds Tryz.pinned (OpenSpec.upto legalQueueSpec)

/-- 'gneisslaw24.ReplayOuts', WHERE WHAT IT READS IS OF BULK AT MOST 1048576: true; the input reads as it did. -/
def replayOutsUptoRow : OpenClaim := { program := "ytfedjkcigdgcoaagreatdoor", sum := "1beda7659bf0ba1509fd7ad8896787517c6b1d7c8c6e646a8caaee6faba96f55", func := "gneiss/gneisslaw24.ReplayOuts", spec := "replayOuts", unfollowed := true, recurses := true, named := ["strings.asciiSpace", "unicode.White_Space"], plainKeys := false, apart := false, laid := [("unicode.White_Space", laid_unicode_White_Space), ("strings.asciiSpace", laid_strings_asciiSpace)], narrowed := true }
def ReplayOutsUptoSaid : Prop := replayOutsUptoRow.holds Tryz.pinned (OpenSpec.upto replayOutsSpec)

end Rows
end Go.Proofs.YtfedjkcigdgcoaaGreatDoor
