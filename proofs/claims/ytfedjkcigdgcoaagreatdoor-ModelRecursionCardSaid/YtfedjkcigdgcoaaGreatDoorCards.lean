/-
  DERIVED. GIVEN WITH THE SEED: THE CARDS: each row of YtfedjkcigdgcoaaGreatDoorRows.lean that lists a variable, with what it lists TIED to the program's text (the seventh form; the later family's looks); each row that meets fmt, with fmt's text TOLD by the authors' own Lean function (tested against real Go, not proved from fmt's source: count such statements apart). THE CARD IS WHAT COUNTS. Prove the row's statement (the work); the ties are given (YtfedjkcigdgcoaaGreatDoorTie.lean); close each card by the builder's one call (the guide's Derived/Test/ToyasCard.lean, 'card_holds'). Laid BY PROGRAM, IN A SANDBOX (cutbox-door.mjs). By AI agents, Wed Nov 11 2026. No macro, syntax, notation, axiom, sorry.
-/
import Derived.Test.YtfedjkcigdgcoaaGreatDoorRows
import GoSem.ClaimSeven
namespace Go.Proofs.YtfedjkcigdgcoaaGreatDoor
namespace Rows

/-- THE TIED CARD OF 'gneisslaw17.TypesFaces'. -/
def typesFacesCard : Claim7 := { stood := { row := typesFacesRow, standIns := [], harness := (true, "bd2ea72fb570be8efd04e8da19323e007029b4ef2c57d9fc4236a2adb4d4b959"), looks := true }, kinds := [], alts := [], laidByText := true, laidKinds := [.data, .data, .data], laidTests := true, laidLooks := .later }
def TypesFacesCardSaid : Prop := Claim7.holds Tryz.pinned (.plain (OpenSpec.ofChange typesFacesSpec)) typesFacesCard

/-- THE TIED CARD OF 'gneisslaw21.ModelStacks'. -/
def modelStacksCard : Claim7 := { stood := { row := modelStacksRow, standIns := [], harness := (true, "bd2ea72fb570be8efd04e8da19323e007029b4ef2c57d9fc4236a2adb4d4b959"), looks := true }, kinds := [], alts := [], laidByText := true, laidKinds := [.listed, .data], laidTests := true, laidLooks := .later }
def ModelStacksCardSaid : Prop := Claim7.holds Tryz.pinned (.plain (OpenSpec.ofChange modelStacksSpec)) modelStacksCard

/-- THE TIED CARD OF 'gneisslaw21.ModelLocals'. -/
def modelLocalsCard : Claim7 := { stood := { row := modelLocalsRow, standIns := [], harness := (true, "bd2ea72fb570be8efd04e8da19323e007029b4ef2c57d9fc4236a2adb4d4b959"), looks := true }, kinds := [], alts := [], laidByText := true, laidKinds := [.listed, .data], laidTests := true, laidLooks := .later }
def ModelLocalsCardSaid : Prop := Claim7.holds Tryz.pinned (.plain (OpenSpec.ofChange modelLocalsSpec)) modelLocalsCard

/-- THE TIED CARD OF 'gneisslaw21.ModelJumps'. -/
def modelJumpsCard : Claim7 := { stood := { row := modelJumpsRow, standIns := [], harness := (true, "bd2ea72fb570be8efd04e8da19323e007029b4ef2c57d9fc4236a2adb4d4b959"), looks := true }, kinds := [], alts := [], laidByText := true, laidKinds := [.listed, .data], laidTests := true, laidLooks := .later }
def ModelJumpsCardSaid : Prop := Claim7.holds Tryz.pinned (.plain (OpenSpec.ofChange modelJumpsSpec)) modelJumpsCard

/-- THE TIED CARD OF 'gneisslaw21.ModelRefs'. -/
def modelRefsCard : Claim7 := { stood := { row := modelRefsRow, standIns := [], harness := (true, "bd2ea72fb570be8efd04e8da19323e007029b4ef2c57d9fc4236a2adb4d4b959"), looks := true }, kinds := [], alts := [], laidByText := true, laidKinds := [.listed, .data], laidTests := true, laidLooks := .later }
def ModelRefsCardSaid : Prop := Claim7.holds Tryz.pinned (.plain (OpenSpec.ofChange modelRefsSpec)) modelRefsCard

/-- THE TIED CARD OF 'gneisslaw21.ModelFields'. -/
def modelFieldsCard : Claim7 := { stood := { row := modelFieldsRow, standIns := [], harness := (true, "bd2ea72fb570be8efd04e8da19323e007029b4ef2c57d9fc4236a2adb4d4b959"), looks := true }, kinds := [], alts := [], laidByText := true, laidKinds := [.listed, .data], laidTests := true, laidLooks := .later }
def ModelFieldsCardSaid : Prop := Claim7.holds Tryz.pinned (.plain (OpenSpec.ofChange modelFieldsSpec)) modelFieldsCard

/-- THE TIED CARD OF 'gneisslaw21.ModelRecursion'. -/
def modelRecursionCard : Claim7 := { stood := { row := modelRecursionRow, standIns := [], harness := (true, "bd2ea72fb570be8efd04e8da19323e007029b4ef2c57d9fc4236a2adb4d4b959"), looks := true }, kinds := [], alts := [], laidByText := true, laidKinds := [.listed, .data], laidTests := true, laidLooks := .later }
def ModelRecursionCardSaid : Prop := Claim7.holds Tryz.pinned (.plain (OpenSpec.ofChange modelRecursionSpec)) modelRecursionCard

/-- THE TIED CARD OF 'gneisslaw21.ModelVirtuals'. -/
def modelVirtualsCard : Claim7 := { stood := { row := modelVirtualsRow, standIns := [], harness := (true, "bd2ea72fb570be8efd04e8da19323e007029b4ef2c57d9fc4236a2adb4d4b959"), looks := true }, kinds := [], alts := [], laidByText := true, laidKinds := [.listed, .data], laidTests := true, laidLooks := .later }
def ModelVirtualsCardSaid : Prop := Claim7.holds Tryz.pinned (.plain (OpenSpec.ofChange modelVirtualsSpec)) modelVirtualsCard

/-- THE TIED CARD OF 'gneisslaw21.ModelCasts'. -/
def modelCastsCard : Claim7 := { stood := { row := modelCastsRow, standIns := [], harness := (true, "bd2ea72fb570be8efd04e8da19323e007029b4ef2c57d9fc4236a2adb4d4b959"), looks := true }, kinds := [], alts := [], laidByText := true, laidKinds := [.listed, .data], laidTests := true, laidLooks := .later }
def ModelCastsCardSaid : Prop := Claim7.holds Tryz.pinned (.plain (OpenSpec.ofChange modelCastsSpec)) modelCastsCard

/-- THE TIED CARD OF 'gneisslaw22.LegalWeak'. -/
def legalWeakCard : Claim7 := { stood := { row := legalWeakRow, standIns := [], harness := (true, "bd2ea72fb570be8efd04e8da19323e007029b4ef2c57d9fc4236a2adb4d4b959"), looks := true }, kinds := [], alts := [], laidByText := true, laidKinds := [.listed, .data], laidTests := true, laidLooks := .later }
def LegalWeakCardSaid : Prop := Claim7.holds Tryz.pinned (.plain (OpenSpec.ofChange legalWeakSpec)) legalWeakCard

/-- THE TIED CARD OF 'gneisslaw22.LegalQueue'. -/
def legalQueueCard : Claim7 := { stood := { row := legalQueueRow, standIns := [], harness := (true, "bd2ea72fb570be8efd04e8da19323e007029b4ef2c57d9fc4236a2adb4d4b959"), looks := true }, kinds := [], alts := [], laidByText := true, laidKinds := [.listed, .data], laidTests := true, laidLooks := .later }
def LegalQueueCardSaid : Prop := Claim7.holds Tryz.pinned (.plain (OpenSpec.ofChange legalQueueSpec)) legalQueueCard

/-- THE TIED CARD OF 'gneisslaw24.ReplayOuts'. -/
def replayOutsCard : Claim7 := { stood := { row := replayOutsRow, standIns := [], harness := (true, "bd2ea72fb570be8efd04e8da19323e007029b4ef2c57d9fc4236a2adb4d4b959"), looks := true }, kinds := [], alts := [], laidByText := true, laidKinds := [.listed, .data], laidTests := true, laidLooks := .later }
def ReplayOutsCardSaid : Prop := Claim7.holds Tryz.pinned (.plain (OpenSpec.ofChange replayOutsSpec)) replayOutsCard

/-- THE SECOND FORM's CARD OF 'gneisslaw17.TypesFaces'. -/
def typesFacesUptoCard : Claim7 := { stood := { row := typesFacesUptoRow, standIns := [], harness := (true, "bd2ea72fb570be8efd04e8da19323e007029b4ef2c57d9fc4236a2adb4d4b959"), looks := true }, kinds := [], alts := [], laidByText := true, laidKinds := [.data, .data, .data], laidTests := true, laidLooks := .later }
def TypesFacesUptoCardSaid : Prop := Claim7.holds Tryz.pinned (.plain (OpenSpec.upto typesFacesSpec)) typesFacesUptoCard

/-- THE SECOND FORM's CARD OF 'gneisslaw21.ModelStacks'. -/
def modelStacksUptoCard : Claim7 := { stood := { row := modelStacksUptoRow, standIns := [], harness := (true, "bd2ea72fb570be8efd04e8da19323e007029b4ef2c57d9fc4236a2adb4d4b959"), looks := true }, kinds := [], alts := [], laidByText := true, laidKinds := [.listed, .data], laidTests := true, laidLooks := .later }
def ModelStacksUptoCardSaid : Prop := Claim7.holds Tryz.pinned (.plain (OpenSpec.upto modelStacksSpec)) modelStacksUptoCard

/-- THE SECOND FORM's CARD OF 'gneisslaw21.ModelLocals'. -/
def modelLocalsUptoCard : Claim7 := { stood := { row := modelLocalsUptoRow, standIns := [], harness := (true, "bd2ea72fb570be8efd04e8da19323e007029b4ef2c57d9fc4236a2adb4d4b959"), looks := true }, kinds := [], alts := [], laidByText := true, laidKinds := [.listed, .data], laidTests := true, laidLooks := .later }
def ModelLocalsUptoCardSaid : Prop := Claim7.holds Tryz.pinned (.plain (OpenSpec.upto modelLocalsSpec)) modelLocalsUptoCard

/-- THE SECOND FORM's CARD OF 'gneisslaw21.ModelJumps'. -/
def modelJumpsUptoCard : Claim7 := { stood := { row := modelJumpsUptoRow, standIns := [], harness := (true, "bd2ea72fb570be8efd04e8da19323e007029b4ef2c57d9fc4236a2adb4d4b959"), looks := true }, kinds := [], alts := [], laidByText := true, laidKinds := [.listed, .data], laidTests := true, laidLooks := .later }
def ModelJumpsUptoCardSaid : Prop := Claim7.holds Tryz.pinned (.plain (OpenSpec.upto modelJumpsSpec)) modelJumpsUptoCard

/-- THE SECOND FORM's CARD OF 'gneisslaw21.ModelRefs'. -/
def modelRefsUptoCard : Claim7 := { stood := { row := modelRefsUptoRow, standIns := [], harness := (true, "bd2ea72fb570be8efd04e8da19323e007029b4ef2c57d9fc4236a2adb4d4b959"), looks := true }, kinds := [], alts := [], laidByText := true, laidKinds := [.listed, .data], laidTests := true, laidLooks := .later }
def ModelRefsUptoCardSaid : Prop := Claim7.holds Tryz.pinned (.plain (OpenSpec.upto modelRefsSpec)) modelRefsUptoCard

/-- THE SECOND FORM's CARD OF 'gneisslaw21.ModelFields'. -/
def modelFieldsUptoCard : Claim7 := { stood := { row := modelFieldsUptoRow, standIns := [], harness := (true, "bd2ea72fb570be8efd04e8da19323e007029b4ef2c57d9fc4236a2adb4d4b959"), looks := true }, kinds := [], alts := [], laidByText := true, laidKinds := [.listed, .data], laidTests := true, laidLooks := .later }
def ModelFieldsUptoCardSaid : Prop := Claim7.holds Tryz.pinned (.plain (OpenSpec.upto modelFieldsSpec)) modelFieldsUptoCard

/-- THE SECOND FORM's CARD OF 'gneisslaw21.ModelRecursion'. -/
def modelRecursionUptoCard : Claim7 := { stood := { row := modelRecursionUptoRow, standIns := [], harness := (true, "bd2ea72fb570be8efd04e8da19323e007029b4ef2c57d9fc4236a2adb4d4b959"), looks := true }, kinds := [], alts := [], laidByText := true, laidKinds := [.listed, .data], laidTests := true, laidLooks := .later }
def ModelRecursionUptoCardSaid : Prop := Claim7.holds Tryz.pinned (.plain (OpenSpec.upto modelRecursionSpec)) modelRecursionUptoCard

/-- THE SECOND FORM's CARD OF 'gneisslaw21.ModelVirtuals'. -/
def modelVirtualsUptoCard : Claim7 := { stood := { row := modelVirtualsUptoRow, standIns := [], harness := (true, "bd2ea72fb570be8efd04e8da19323e007029b4ef2c57d9fc4236a2adb4d4b959"), looks := true }, kinds := [], alts := [], laidByText := true, laidKinds := [.listed, .data], laidTests := true, laidLooks := .later }
def ModelVirtualsUptoCardSaid : Prop := Claim7.holds Tryz.pinned (.plain (OpenSpec.upto modelVirtualsSpec)) modelVirtualsUptoCard

/-- THE SECOND FORM's CARD OF 'gneisslaw21.ModelCasts'. -/
def modelCastsUptoCard : Claim7 := { stood := { row := modelCastsUptoRow, standIns := [], harness := (true, "bd2ea72fb570be8efd04e8da19323e007029b4ef2c57d9fc4236a2adb4d4b959"), looks := true }, kinds := [], alts := [], laidByText := true, laidKinds := [.listed, .data], laidTests := true, laidLooks := .later }
def ModelCastsUptoCardSaid : Prop := Claim7.holds Tryz.pinned (.plain (OpenSpec.upto modelCastsSpec)) modelCastsUptoCard

/-- THE SECOND FORM's CARD OF 'gneisslaw22.LegalWeak'. -/
def legalWeakUptoCard : Claim7 := { stood := { row := legalWeakUptoRow, standIns := [], harness := (true, "bd2ea72fb570be8efd04e8da19323e007029b4ef2c57d9fc4236a2adb4d4b959"), looks := true }, kinds := [], alts := [], laidByText := true, laidKinds := [.listed, .data], laidTests := true, laidLooks := .later }
def LegalWeakUptoCardSaid : Prop := Claim7.holds Tryz.pinned (.plain (OpenSpec.upto legalWeakSpec)) legalWeakUptoCard

/-- THE SECOND FORM's CARD OF 'gneisslaw22.LegalQueue'. -/
def legalQueueUptoCard : Claim7 := { stood := { row := legalQueueUptoRow, standIns := [], harness := (true, "bd2ea72fb570be8efd04e8da19323e007029b4ef2c57d9fc4236a2adb4d4b959"), looks := true }, kinds := [], alts := [], laidByText := true, laidKinds := [.listed, .data], laidTests := true, laidLooks := .later }
def LegalQueueUptoCardSaid : Prop := Claim7.holds Tryz.pinned (.plain (OpenSpec.upto legalQueueSpec)) legalQueueUptoCard

/-- THE SECOND FORM's CARD OF 'gneisslaw24.ReplayOuts'. -/
def replayOutsUptoCard : Claim7 := { stood := { row := replayOutsUptoRow, standIns := [], harness := (true, "bd2ea72fb570be8efd04e8da19323e007029b4ef2c57d9fc4236a2adb4d4b959"), looks := true }, kinds := [], alts := [], laidByText := true, laidKinds := [.listed, .data], laidTests := true, laidLooks := .later }
def ReplayOutsUptoCardSaid : Prop := Claim7.holds Tryz.pinned (.plain (OpenSpec.upto replayOutsSpec)) replayOutsUptoCard
end Rows
end Go.Proofs.YtfedjkcigdgcoaaGreatDoor
