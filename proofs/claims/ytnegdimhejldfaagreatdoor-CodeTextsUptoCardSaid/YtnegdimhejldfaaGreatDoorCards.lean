/-
  DERIVED. GIVEN WITH THE SEED: THE CARDS: each row of YtnegdimhejldfaaGreatDoorRows.lean that lists a variable, with what it lists TIED to the program's text (the seventh form; the later family's looks); each row that meets fmt, with fmt's text TOLD by the authors' own Lean function (tested against real Go, not proved from fmt's source: count such statements apart). THE CARD IS WHAT COUNTS. Prove the row's statement (the work); the ties are given (YtnegdimhejldfaaGreatDoorTie.lean); close each card by the builder's one call (the guide's Derived/Test/ToyasCard.lean, 'card_holds'). Laid BY PROGRAM, IN A SANDBOX (cutbox-door.mjs). By AI agents, Wed Nov 11 2026. No macro, syntax, notation, axiom, sorry.
-/
import Derived.Test.YtnegdimhejldfaaGreatDoorRows
import GoSem.ClaimSeven
namespace Go.Proofs.YtnegdimhejldfaaGreatDoor
namespace Rows

/-- THE TIED CARD OF 'gneisslaw16.CodeTexts'. -/
def codeTextsCard : Claim7 := { stood := { row := codeTextsRow, standIns := [], harness := (true, "cce98c41ac5a1a9c25bdcc50907c18bb2f353722e5ff9255f8cf98c9d2362171"), looks := true }, kinds := [], alts := [], laidByText := true, laidKinds := [.data, .data, .data, .sentinel, .sentinel, .listed, .data], laidTests := true, laidLooks := .later }
def CodeTextsCardSaid : Prop := Claim7.holds Tryz.pinned (.plain (OpenSpec.ofChange codeTextsSpec)) codeTextsCard

/-- THE TIED CARD OF 'gneisslaw16.CodeBack'. -/
def codeBackCard : Claim7 := { stood := { row := codeBackRow, standIns := [], harness := (true, "cce98c41ac5a1a9c25bdcc50907c18bb2f353722e5ff9255f8cf98c9d2362171"), looks := true }, kinds := [], alts := [], laidByText := true, laidKinds := [.data, .data, .data, .sentinel, .sentinel, .listed, .data], laidTests := true, laidLooks := .later }
def CodeBackCardSaid : Prop := Claim7.holds Tryz.pinned (.plain (OpenSpec.ofChange codeBackSpec)) codeBackCard

/-- THE TIED CARD OF 'gneisslaw16.CodeOperands'. -/
def codeOperandsCard : Claim7 := { stood := { row := codeOperandsRow, standIns := [], harness := (true, "cce98c41ac5a1a9c25bdcc50907c18bb2f353722e5ff9255f8cf98c9d2362171"), looks := true }, kinds := [], alts := [], laidByText := true, laidKinds := [.data, .data, .data, .sentinel, .sentinel, .listed, .data], laidTests := true, laidLooks := .later }
def CodeOperandsCardSaid : Prop := Claim7.holds Tryz.pinned (.plain (OpenSpec.ofChange codeOperandsSpec)) codeOperandsCard

/-- THE SECOND FORM's CARD OF 'gneisslaw16.CodeTexts'. -/
def codeTextsUptoCard : Claim7 := { stood := { row := codeTextsUptoRow, standIns := [], harness := (true, "cce98c41ac5a1a9c25bdcc50907c18bb2f353722e5ff9255f8cf98c9d2362171"), looks := true }, kinds := [], alts := [], laidByText := true, laidKinds := [.data, .data, .data, .sentinel, .sentinel, .listed, .data], laidTests := true, laidLooks := .later }
def CodeTextsUptoCardSaid : Prop := Claim7.holds Tryz.pinned (.plain (OpenSpec.upto codeTextsSpec)) codeTextsUptoCard

/-- THE SECOND FORM's CARD OF 'gneisslaw16.CodeBack'. -/
def codeBackUptoCard : Claim7 := { stood := { row := codeBackUptoRow, standIns := [], harness := (true, "cce98c41ac5a1a9c25bdcc50907c18bb2f353722e5ff9255f8cf98c9d2362171"), looks := true }, kinds := [], alts := [], laidByText := true, laidKinds := [.data, .data, .data, .sentinel, .sentinel, .listed, .data], laidTests := true, laidLooks := .later }
def CodeBackUptoCardSaid : Prop := Claim7.holds Tryz.pinned (.plain (OpenSpec.upto codeBackSpec)) codeBackUptoCard

/-- THE SECOND FORM's CARD OF 'gneisslaw16.CodeOperands'. -/
def codeOperandsUptoCard : Claim7 := { stood := { row := codeOperandsUptoRow, standIns := [], harness := (true, "cce98c41ac5a1a9c25bdcc50907c18bb2f353722e5ff9255f8cf98c9d2362171"), looks := true }, kinds := [], alts := [], laidByText := true, laidKinds := [.data, .data, .data, .sentinel, .sentinel, .listed, .data], laidTests := true, laidLooks := .later }
def CodeOperandsUptoCardSaid : Prop := Claim7.holds Tryz.pinned (.plain (OpenSpec.upto codeOperandsSpec)) codeOperandsUptoCard
end Rows
end Go.Proofs.YtnegdimhejldfaaGreatDoor
