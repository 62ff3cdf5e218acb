/-
  No cell of these rows narrows 'for every input' (looked for: loops, veiled, ifaces, maps, wideKeys, modest, calm, conditions, laid).
  DERIVED. THE GIVEN ROWS OF THIS SEAT. 10 by the template 'for every input the law returns true; each argument reads behind the call as it read before'; 0 by the template 'total and deterministic' (their statements: YtcnhjhkjefmjaaaTotals.lean).
  GIVEN WITH THE SEED: the statements are not yours to turn. If you find one false, say at which input.
  Laid BY PROGRAM, IN A SANDBOX (cutbox-rows.mjs): the forced cells as the released guide's own fill.sh prints them over the translation f04b0fc288313a37… (all of the seat's roots in one cut). By AI agents, Wed Nov 11 2026. No macro, syntax, notation, axiom, sorry.
-/
import Derived.Test.YtcnhjhkjefmjaaaChecked
import GoSem.Claim
import GoSem.ClaimJoined
import GoSem.ClaimMapViews
import Derived.JoinedTies
import Derived.KernelRfl
namespace Go.Proofs.Ytcnhjhkjefmjaaa
/- THE CELL 'sum', in the pinned program and in every row, IS THE sha256 OF THE DUMP (.gsa) THAT YtcnhjhkjefmjaaaProg.lean LOADS. Nothing in Lean hashes anything: it is a label: what it is worth is what the hold of that sum in a sandbox is worth. -/
noncomputable def Try.pinned : Pinned := { name := "ytcnhjhkjefmjaaa", sum := "f04b0fc288313a3732c60bea77dbdd82ffc8ce179ffb8c82078e19a238e42c3d", checked := Try.checked }
namespace Rows
def none {H : Type} : Left H := { results := [], args := [] }

/-- 'gneisslaw15.LoadSupers': WHATEVER THE INPUT: true; the input reads as it did. -/
def loadSupersSpec : ChangeSpec := { name := "loadSupers", fn := fun _ => fun
  | [d] => { results := [.lit (.bool true)], args := [d] }
  | _ => none }
def loadSupersRow : OpenClaim := { program := "ytcnhjhkjefmjaaa", sum := "f04b0fc288313a3732c60bea77dbdd82ffc8ce179ffb8c82078e19a238e42c3d", func := "gneiss/gneisslaw15.LoadSupers", spec := "loadSupers", unfollowed := true, recurses := true, apart := false }
def LoadSupersSaid : Prop := loadSupersRow.holds Try.pinned (OpenSpec.ofChange loadSupersSpec)

/-- ITS FALSE NEIGHBOUR: 'it returns false'. Refute it at one input. -/
def loadSupersWrong : ChangeSpec := { name := "loadSupers", fn := fun _ => fun
  | [d] => { results := [.lit (.bool false)], args := [d] }
  | _ => none }
def LoadSupersWrongFalsely : Prop := loadSupersRow.holds Try.pinned (OpenSpec.ofChange loadSupersWrong)

/-- 'gneisslaw15.LoadCycles': WHATEVER THE INPUT: true; the input reads as it did. -/
def loadCyclesSpec : ChangeSpec := { name := "loadCycles", fn := fun _ => fun
  | [d1, d2] => { results := [.lit (.bool true)], args := [d1, d2] }
  | _ => none }
def loadCyclesRow : OpenClaim := { program := "ytcnhjhkjefmjaaa", sum := "f04b0fc288313a3732c60bea77dbdd82ffc8ce179ffb8c82078e19a238e42c3d", func := "gneiss/gneisslaw15.LoadCycles", spec := "loadCycles", unfollowed := true, recurses := true, apart := false }
def LoadCyclesSaid : Prop := loadCyclesRow.holds Try.pinned (OpenSpec.ofChange loadCyclesSpec)

/-- ITS FALSE NEIGHBOUR: 'it returns false'. Refute it at one input. -/
def loadCyclesWrong : ChangeSpec := { name := "loadCycles", fn := fun _ => fun
  | [d1, d2] => { results := [.lit (.bool false)], args := [d1, d2] }
  | _ => none }
def LoadCyclesWrongFalsely : Prop := loadCyclesRow.holds Try.pinned (OpenSpec.ofChange loadCyclesWrong)

/-- 'gneisslaw15.LoadFaces': WHATEVER THE INPUT: true; the input reads as it did. -/
def loadFacesSpec : ChangeSpec := { name := "loadFaces", fn := fun _ => fun
  | [d] => { results := [.lit (.bool true)], args := [d] }
  | _ => none }
def loadFacesRow : OpenClaim := { program := "ytcnhjhkjefmjaaa", sum := "f04b0fc288313a3732c60bea77dbdd82ffc8ce179ffb8c82078e19a238e42c3d", func := "gneiss/gneisslaw15.LoadFaces", spec := "loadFaces", unfollowed := true, recurses := true, apart := false }
def LoadFacesSaid : Prop := loadFacesRow.holds Try.pinned (OpenSpec.ofChange loadFacesSpec)

/-- ITS FALSE NEIGHBOUR: 'it returns false'. Refute it at one input. -/
def loadFacesWrong : ChangeSpec := { name := "loadFaces", fn := fun _ => fun
  | [d] => { results := [.lit (.bool false)], args := [d] }
  | _ => none }
def LoadFacesWrongFalsely : Prop := loadFacesRow.holds Try.pinned (OpenSpec.ofChange loadFacesWrong)

/-- 'gneisslaw15.LoadTypes': WHATEVER THE INPUT: true; the input reads as it did. -/
def loadTypesSpec : ChangeSpec := { name := "loadTypes", fn := fun _ => fun
  | [d1, d2] => { results := [.lit (.bool true)], args := [d1, d2] }
  | _ => none }
def loadTypesRow : OpenClaim := { program := "ytcnhjhkjefmjaaa", sum := "f04b0fc288313a3732c60bea77dbdd82ffc8ce179ffb8c82078e19a238e42c3d", func := "gneiss/gneisslaw15.LoadTypes", spec := "loadTypes", unfollowed := true, recurses := true, apart := false }
def LoadTypesSaid : Prop := loadTypesRow.holds Try.pinned (OpenSpec.ofChange loadTypesSpec)

/-- ITS FALSE NEIGHBOUR: 'it returns false'. Refute it at one input. -/
def loadTypesWrong : ChangeSpec := { name := "loadTypes", fn := fun _ => fun
  | [d1, d2] => { results := [.lit (.bool false)], args := [d1, d2] }
  | _ => none }
def LoadTypesWrongFalsely : Prop := loadTypesRow.holds Try.pinned (OpenSpec.ofChange loadTypesWrong)

/-- 'gneisslaw15.LoadTwice': WHATEVER THE INPUT: true; the input reads as it did. -/
def loadTwiceSpec : ChangeSpec := { name := "loadTwice", fn := fun _ => fun
  | [d1, d2] => { results := [.lit (.bool true)], args := [d1, d2] }
  | _ => none }
def loadTwiceRow : OpenClaim := { program := "ytcnhjhkjefmjaaa", sum := "f04b0fc288313a3732c60bea77dbdd82ffc8ce179ffb8c82078e19a238e42c3d", func := "gneiss/gneisslaw15.LoadTwice", spec := "loadTwice", unfollowed := true, recurses := true, apart := false }
def LoadTwiceSaid : Prop := loadTwiceRow.holds Try.pinned (OpenSpec.ofChange loadTwiceSpec)

/-- ITS FALSE NEIGHBOUR: 'it returns false'. Refute it at one input. -/
def loadTwiceWrong : ChangeSpec := { name := "loadTwice", fn := fun _ => fun
  | [d1, d2] => { results := [.lit (.bool false)], args := [d1, d2] }
  | _ => none }
def LoadTwiceWrongFalsely : Prop := loadTwiceRow.holds Try.pinned (OpenSpec.ofChange loadTwiceWrong)

/-- 'gneisslaw15.LoadMissing': WHATEVER THE INPUT: true; the input reads as it did. -/
def loadMissingSpec : ChangeSpec := { name := "loadMissing", fn := fun _ => fun
  | [d] => { results := [.lit (.bool true)], args := [d] }
  | _ => none }
def loadMissingRow : OpenClaim := { program := "ytcnhjhkjefmjaaa", sum := "f04b0fc288313a3732c60bea77dbdd82ffc8ce179ffb8c82078e19a238e42c3d", func := "gneiss/gneisslaw15.LoadMissing", spec := "loadMissing", unfollowed := true, recurses := true, apart := false }
def LoadMissingSaid : Prop := loadMissingRow.holds Try.pinned (OpenSpec.ofChange loadMissingSpec)

/-- ITS FALSE NEIGHBOUR: 'it returns false'. Refute it at one input. -/
def loadMissingWrong : ChangeSpec := { name := "loadMissing", fn := fun _ => fun
  | [d] => { results := [.lit (.bool false)], args := [d] }
  | _ => none }
def LoadMissingWrongFalsely : Prop := loadMissingRow.holds Try.pinned (OpenSpec.ofChange loadMissingWrong)

/-- 'gneisslaw15.LoadFinals': WHATEVER THE INPUT: true; the input reads as it did. -/
def loadFinalsSpec : ChangeSpec := { name := "loadFinals", fn := fun _ => fun
  | [d] => { results := [.lit (.bool true)], args := [d] }
  | _ => none }
def loadFinalsRow : OpenClaim := { program := "ytcnhjhkjefmjaaa", sum := "f04b0fc288313a3732c60bea77dbdd82ffc8ce179ffb8c82078e19a238e42c3d", func := "gneiss/gneisslaw15.LoadFinals", spec := "loadFinals", unfollowed := true, recurses := true, apart := false }
def LoadFinalsSaid : Prop := loadFinalsRow.holds Try.pinned (OpenSpec.ofChange loadFinalsSpec)

/-- ITS FALSE NEIGHBOUR: 'it returns false'. Refute it at one input. -/
def loadFinalsWrong : ChangeSpec := { name := "loadFinals", fn := fun _ => fun
  | [d] => { results := [.lit (.bool false)], args := [d] }
  | _ => none }
def LoadFinalsWrongFalsely : Prop := loadFinalsRow.holds Try.pinned (OpenSpec.ofChange loadFinalsWrong)

/-- 'gneisslaw15.LoadMains': WHATEVER THE INPUT: true; the input reads as it did. -/
def loadMainsSpec : ChangeSpec := { name := "loadMains", fn := fun _ => fun
  | [d1, d2] => { results := [.lit (.bool true)], args := [d1, d2] }
  | _ => none }
def loadMainsRow : OpenClaim := { program := "ytcnhjhkjefmjaaa", sum := "f04b0fc288313a3732c60bea77dbdd82ffc8ce179ffb8c82078e19a238e42c3d", func := "gneiss/gneisslaw15.LoadMains", spec := "loadMains", unfollowed := true, recurses := true, apart := false }
def LoadMainsSaid : Prop := loadMainsRow.holds Try.pinned (OpenSpec.ofChange loadMainsSpec)

/-- ITS FALSE NEIGHBOUR: 'it returns false'. Refute it at one input. -/
def loadMainsWrong : ChangeSpec := { name := "loadMains", fn := fun _ => fun
  | [d1, d2] => { results := [.lit (.bool false)], args := [d1, d2] }
  | _ => none }
def LoadMainsWrongFalsely : Prop := loadMainsRow.holds Try.pinned (OpenSpec.ofChange loadMainsWrong)

/-- 'gneisslaw15.LoadFields': WHATEVER THE INPUT: true; the input reads as it did. -/
def loadFieldsSpec : ChangeSpec := { name := "loadFields", fn := fun _ => fun
  | [d1, d2] => { results := [.lit (.bool true)], args := [d1, d2] }
  | _ => none }
def loadFieldsRow : OpenClaim := { program := "ytcnhjhkjefmjaaa", sum := "f04b0fc288313a3732c60bea77dbdd82ffc8ce179ffb8c82078e19a238e42c3d", func := "gneiss/gneisslaw15.LoadFields", spec := "loadFields", unfollowed := true, recurses := true, apart := false }
def LoadFieldsSaid : Prop := loadFieldsRow.holds Try.pinned (OpenSpec.ofChange loadFieldsSpec)

/-- ITS FALSE NEIGHBOUR: 'it returns false'. Refute it at one input. -/
def loadFieldsWrong : ChangeSpec := { name := "loadFields", fn := fun _ => fun
  | [d1, d2] => { results := [.lit (.bool false)], args := [d1, d2] }
  | _ => none }
def LoadFieldsWrongFalsely : Prop := loadFieldsRow.holds Try.pinned (OpenSpec.ofChange loadFieldsWrong)

/-- 'gneisslaw15.LoadAbove': WHATEVER THE INPUT: true; the input reads as it did. -/
def loadAboveSpec : ChangeSpec := { name := "loadAbove", fn := fun _ => fun
  | [d] => { results := [.lit (.bool true)], args := [d] }
  | _ => none }
def loadAboveRow : OpenClaim := { program := "ytcnhjhkjefmjaaa", sum := "f04b0fc288313a3732c60bea77dbdd82ffc8ce179ffb8c82078e19a238e42c3d", func := "gneiss/gneisslaw15.LoadAbove", spec := "loadAbove", unfollowed := true, recurses := true, apart := false }
def LoadAboveSaid : Prop := loadAboveRow.holds Try.pinned (OpenSpec.ofChange loadAboveSpec)

/-- ITS FALSE NEIGHBOUR: 'it returns false'. Refute it at one input. -/
def loadAboveWrong : ChangeSpec := { name := "loadAbove", fn := fun _ => fun
  | [d] => { results := [.lit (.bool false)], args := [d] }
  | _ => none }
def LoadAboveWrongFalsely : Prop := loadAboveRow.holds Try.pinned (OpenSpec.ofChange loadAboveWrong)

/- THE SECOND FORM. 'bulk': how many values and letters a reading holds, each counted each time it is reached (what is shared counts as often as it is met; a slice's spare places count too). A statement '..UptoSaid' is the law's where the arguments, and the package variables that the reading takes, are together of bulk at most 1048576: NARROWER than '..Said'. Prove '..Said' where nothing that the law and all that it calls make is longer than what came in: it says more and counts as full. Else prove '..UptoSaid'. A law counts once. -/
mutual
def uptoBulk {H : Type} : DataW H → Nat
  | .lit (.string bytes) => bytes.length + 1
  | .lit _ => 1
  | .nil => 1
  | .ptr d => uptoBulk d + 1
  | .slice elems spare => uptoBulkAll elems + uptoBulkAll spare + 1
  | .agg parts => uptoBulkAll parts + 1
  | .iface _ d => uptoBulk d + 1
  | .map entries => uptoBulkEntries entries + 1
  | .held _ => 1
def uptoBulkAll {H : Type} : List (DataW H) → Nat
  | [] => 0
  | d :: r => uptoBulk d + uptoBulkAll r
def uptoBulkEntries {H : Type} : List (Lit × DataW H) → Nat
  | [] => 0
  | x :: r => uptoBulkEntry x + uptoBulkEntries r
def uptoBulkEntry {H : Type} : Lit × DataW H → Nat
  | (.string bytes, d) => bytes.length + uptoBulk d + 1
  | (_, d) => uptoBulk d + 1
 end
def uptoSmall : (H : Type) → List (DataW H) → Bool := fun _ ds => decide (uptoBulkAll ds ≤ 1048576)
def OpenSpec.upto (s : _root_.Go.ChangeSpec) : _root_.Go.OpenSpec := { _root_.Go.OpenSpec.ofChange s with cond := some uptoSmall }

/-- 'gneisslaw15.LoadSupers', WHERE WHAT IT READS IS OF BULK AT MOST 1048576: true; the input reads as it did. -/
def loadSupersUptoRow : OpenClaim := { program := "ytcnhjhkjefmjaaa", sum := "f04b0fc288313a3732c60bea77dbdd82ffc8ce179ffb8c82078e19a238e42c3d", func := "gneiss/gneisslaw15.LoadSupers", spec := "loadSupers", unfollowed := true, recurses := true, apart := false, narrowed := true }
def LoadSupersUptoSaid : Prop := loadSupersUptoRow.holds Try.pinned (OpenSpec.upto loadSupersSpec)

/-- 'gneisslaw15.LoadCycles', WHERE WHAT IT READS IS OF BULK AT MOST 1048576: true; the input reads as it did. -/
def loadCyclesUptoRow : OpenClaim := { program := "ytcnhjhkjefmjaaa", sum := "f04b0fc288313a3732c60bea77dbdd82ffc8ce179ffb8c82078e19a238e42c3d", func := "gneiss/gneisslaw15.LoadCycles", spec := "loadCycles", unfollowed := true, recurses := true, apart := false, narrowed := true }
def LoadCyclesUptoSaid : Prop := loadCyclesUptoRow.holds Try.pinned (OpenSpec.upto loadCyclesSpec)

/-- 'gneisslaw15.LoadFaces', WHERE WHAT IT READS IS OF BULK AT MOST 1048576: true; the input reads as it did. -/
def loadFacesUptoRow : OpenClaim := { program := "ytcnhjhkjefmjaaa", sum := "f04b0fc288313a3732c60bea77dbdd82ffc8ce179ffb8c82078e19a238e42c3d", func := "gneiss/gneisslaw15.LoadFaces", spec := "loadFaces", unfollowed := true, recurses := true, apart := false, narrowed := true }
def LoadFacesUptoSaid : Prop := loadFacesUptoRow.holds Try.pinned (OpenSpec.upto loadFacesSpec)

/-- 'gneisslaw15.LoadTypes', WHERE WHAT IT READS IS OF BULK AT MOST 1048576: true; the input reads as it did. -/
def loadTypesUptoRow : OpenClaim := { program := "ytcnhjhkjefmjaaa", sum := "f04b0fc288313a3732c60bea77dbdd82ffc8ce179ffb8c82078e19a238e42c3d", func := "gneiss/gneisslaw15.LoadTypes", spec := "loadTypes", unfollowed := true, recurses := true, apart := false, narrowed := true }
def LoadTypesUptoSaid : Prop := loadTypesUptoRow.holds Try.pinned (OpenSpec.upto loadTypesSpec)

/-- 'gneisslaw15.LoadTwice', WHERE WHAT IT READS IS OF BULK AT MOST 1048576: true; the input reads as it did. -/
def loadTwiceUptoRow : OpenClaim := { program := "ytcnhjhkjefmjaaa", sum := "f04b0fc288313a3732c60bea77dbdd82ffc8ce179ffb8c82078e19a238e42c3d", func := "gneiss/gneisslaw15.LoadTwice", spec := "loadTwice", unfollowed := true, recurses := true, apart := false, narrowed := true }
def LoadTwiceUptoSaid : Prop := loadTwiceUptoRow.holds Try.pinned (OpenSpec.upto loadTwiceSpec)

/-- 'gneisslaw15.LoadMissing', WHERE WHAT IT READS IS OF BULK AT MOST 1048576: true; the input reads as it did. -/
def loadMissingUptoRow : OpenClaim := { program := "ytcnhjhkjefmjaaa", sum := "f04b0fc288313a3732c60bea77dbdd82ffc8ce179ffb8c82078e19a238e42c3d", func := "gneiss/gneisslaw15.LoadMissing", spec := "loadMissing", unfollowed := true, recurses := true, apart := false, narrowed := true }
def LoadMissingUptoSaid : Prop := loadMissingUptoRow.holds Try.pinned (OpenSpec.upto loadMissingSpec)

/-- 'gneisslaw15.LoadFinals', WHERE WHAT IT READS IS OF BULK AT MOST 1048576: true; the input reads as it did. -/
def loadFinalsUptoRow : OpenClaim := { program := "ytcnhjhkjefmjaaa", sum := "f04b0fc288313a3732c60bea77dbdd82ffc8ce179ffb8c82078e19a238e42c3d", func := "gneiss/gneisslaw15.LoadFinals", spec := "loadFinals", unfollowed := true, recurses := true, apart := false, narrowed := true }
def LoadFinalsUptoSaid : Prop := loadFinalsUptoRow.holds Try.pinned (OpenSpec.upto loadFinalsSpec)

/-- 'gneisslaw15.LoadMains', WHERE WHAT IT READS IS OF BULK AT MOST 1048576: true; the input reads as it did. -/
def loadMainsUptoRow : OpenClaim := { program := "ytcnhjhkjefmjaaa", sum := "f04b0fc288313a3732c60bea77dbdd82ffc8ce179ffb8c82078e19a238e42c3d", func := "gneiss/gneisslaw15.LoadMains", spec := "loadMains", unfollowed := true, recurses := true, apart := false, narrowed := true }
def LoadMainsUptoSaid : Prop := loadMainsUptoRow.holds Try.pinned (OpenSpec.upto loadMainsSpec)

/-- 'gneisslaw15.LoadFields', WHERE WHAT IT READS IS OF BULK AT MOST 1048576: true; the input reads as it did. -/
def loadFieldsUptoRow : OpenClaim := { program := "ytcnhjhkjefmjaaa", sum := "f04b0fc288313a3732c60bea77dbdd82ffc8ce179ffb8c82078e19a238e42c3d", func := "gneiss/gneisslaw15.LoadFields", spec := "loadFields", unfollowed := true, recurses := true, apart := false, narrowed := true }
def LoadFieldsUptoSaid : Prop := loadFieldsUptoRow.holds Try.pinned (OpenSpec.upto loadFieldsSpec)

/-- 'gneisslaw15.LoadAbove', WHERE WHAT IT READS IS OF BULK AT MOST 1048576: true; the input reads as it did. -/
def loadAboveUptoRow : OpenClaim := { program := "ytcnhjhkjefmjaaa", sum := "f04b0fc288313a3732c60bea77dbdd82ffc8ce179ffb8c82078e19a238e42c3d", func := "gneiss/gneisslaw15.LoadAbove", spec := "loadAbove", unfollowed := true, recurses := true, apart := false, narrowed := true }
def LoadAboveUptoSaid : Prop := loadAboveUptoRow.holds Try.pinned (OpenSpec.upto loadAboveSpec)

end Rows
end Go.Proofs.Ytcnhjhkjefmjaaa
