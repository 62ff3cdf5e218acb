/-
  DERIVED. GIVEN WITH THE SEED: THE CARDS: each row of YtpogefeioedgeaaGreatDoorRows.lean that lists a variable, with what it lists TIED to the program's text (the seventh form; the later family's looks); each row that meets fmt, with fmt's text TOLD by the authors' own Lean function (tested against real Go, not proved from fmt's source: count such statements apart). THE CARD IS WHAT COUNTS. Prove the row's statement (the work); the ties are given (YtpogefeioedgeaaGreatDoorTie.lean); close each card by the builder's one call (the guide's Derived/Test/ToyasCard.lean, 'card_holds'). Laid BY PROGRAM, IN A SANDBOX (cutbox-door.mjs). By AI agents, Wed Nov 11 2026. No macro, syntax, notation, axiom, sorry.
-/
import Derived.Test.YtpogefeioedgeaaGreatDoorRows
import GoSem.ClaimSeven
namespace Go.Proofs.YtpogefeioedgeaaGreatDoor
namespace Rows

/-- THE TIED CARD OF 'gneisslaw21.ModelHandlers'. -/
def modelHandlersCard : Claim7 := { stood := { row := modelHandlersRow, standIns := [], harness := (true, "62a2f59f222c047830ac9415e8d89cda8e5fe565773f57f8c3c3915df12b9dd0"), looks := true }, kinds := [], alts := [], laidByText := true, laidKinds := [.listed, .data], laidTests := true, laidLooks := .later }
def ModelHandlersCardSaid : Prop := Claim7.holds Tryz.pinned (.plain (OpenSpec.ofChange modelHandlersSpec)) modelHandlersCard

/-- THE TIED CARD OF 'gneisslaw21.ModelCallers'. -/
def modelCallersCard : Claim7 := { stood := { row := modelCallersRow, standIns := [], harness := (true, "62a2f59f222c047830ac9415e8d89cda8e5fe565773f57f8c3c3915df12b9dd0"), looks := true }, kinds := [], alts := [], laidByText := true, laidKinds := [.listed, .data], laidTests := true, laidLooks := .later }
def ModelCallersCardSaid : Prop := Claim7.holds Tryz.pinned (.plain (OpenSpec.ofChange modelCallersSpec)) modelCallersCard

/-- THE TIED CARD OF 'gneisslaw21.ModelMonitors'. -/
def modelMonitorsCard : Claim7 := { stood := { row := modelMonitorsRow, standIns := [], harness := (true, "62a2f59f222c047830ac9415e8d89cda8e5fe565773f57f8c3c3915df12b9dd0"), looks := true }, kinds := [], alts := [], laidByText := true, laidKinds := [.listed, .data], laidTests := true, laidLooks := .later }
def ModelMonitorsCardSaid : Prop := Claim7.holds Tryz.pinned (.plain (OpenSpec.ofChange modelMonitorsSpec)) modelMonitorsCard

/-- THE TIED CARD OF 'gneisslaw21.ModelStarts'. -/
def modelStartsCard : Claim7 := { stood := { row := modelStartsRow, standIns := [], harness := (true, "62a2f59f222c047830ac9415e8d89cda8e5fe565773f57f8c3c3915df12b9dd0"), looks := true }, kinds := [], alts := [], laidByText := true, laidKinds := [.listed, .data], laidTests := true, laidLooks := .later }
def ModelStartsCardSaid : Prop := Claim7.holds Tryz.pinned (.plain (OpenSpec.ofChange modelStartsSpec)) modelStartsCard

/-- THE TIED CARD OF 'gneisslaw21.ModelReads'. -/
def modelReadsCard : Claim7 := { stood := { row := modelReadsRow, standIns := [], harness := (true, "62a2f59f222c047830ac9415e8d89cda8e5fe565773f57f8c3c3915df12b9dd0"), looks := true }, kinds := [], alts := [], laidByText := true, laidKinds := [.listed, .data], laidTests := true, laidLooks := .later }
def ModelReadsCardSaid : Prop := Claim7.holds Tryz.pinned (.plain (OpenSpec.ofChange modelReadsSpec)) modelReadsCard

/-- THE TIED CARD OF 'gneisslaw21.ModelShort'. -/
def modelShortCard : Claim7 := { stood := { row := modelShortRow, standIns := [], harness := (true, "62a2f59f222c047830ac9415e8d89cda8e5fe565773f57f8c3c3915df12b9dd0"), looks := true }, kinds := [], alts := [], laidByText := true, laidKinds := [.listed, .data], laidTests := true, laidLooks := .later }
def ModelShortCardSaid : Prop := Claim7.holds Tryz.pinned (.plain (OpenSpec.ofChange modelShortSpec)) modelShortCard

/-- THE TIED CARD OF 'gneisslaw21.ModelFinals'. -/
def modelFinalsCard : Claim7 := { stood := { row := modelFinalsRow, standIns := [], harness := (true, "62a2f59f222c047830ac9415e8d89cda8e5fe565773f57f8c3c3915df12b9dd0"), looks := true }, kinds := [], alts := [], laidByText := true, laidKinds := [.listed, .data], laidTests := true, laidLooks := .later }
def ModelFinalsCardSaid : Prop := Claim7.holds Tryz.pinned (.plain (OpenSpec.ofChange modelFinalsSpec)) modelFinalsCard

/-- THE TIED CARD OF 'gneisslaw21.ModelWeaks'. -/
def modelWeaksCard : Claim7 := { stood := { row := modelWeaksRow, standIns := [], harness := (true, "62a2f59f222c047830ac9415e8d89cda8e5fe565773f57f8c3c3915df12b9dd0"), looks := true }, kinds := [], alts := [], laidByText := true, laidKinds := [.listed, .data], laidTests := true, laidLooks := .later }
def ModelWeaksCardSaid : Prop := Claim7.holds Tryz.pinned (.plain (OpenSpec.ofChange modelWeaksSpec)) modelWeaksCard

/-- THE TIED CARD OF 'gneisslaw21.ModelAlone'. -/
def modelAloneCard : Claim7 := { stood := { row := modelAloneRow, standIns := [], harness := (true, "62a2f59f222c047830ac9415e8d89cda8e5fe565773f57f8c3c3915df12b9dd0"), looks := true }, kinds := [], alts := [], laidByText := true, laidKinds := [.listed, .data], laidTests := true, laidLooks := .later }
def ModelAloneCardSaid : Prop := Claim7.holds Tryz.pinned (.plain (OpenSpec.ofChange modelAloneSpec)) modelAloneCard

/-- THE SECOND FORM's CARD OF 'gneisslaw21.ModelHandlers'. -/
def modelHandlersUptoCard : Claim7 := { stood := { row := modelHandlersUptoRow, standIns := [], harness := (true, "62a2f59f222c047830ac9415e8d89cda8e5fe565773f57f8c3c3915df12b9dd0"), looks := true }, kinds := [], alts := [], laidByText := true, laidKinds := [.listed, .data], laidTests := true, laidLooks := .later }
def ModelHandlersUptoCardSaid : Prop := Claim7.holds Tryz.pinned (.plain (OpenSpec.upto modelHandlersSpec)) modelHandlersUptoCard

/-- THE SECOND FORM's CARD OF 'gneisslaw21.ModelCallers'. -/
def modelCallersUptoCard : Claim7 := { stood := { row := modelCallersUptoRow, standIns := [], harness := (true, "62a2f59f222c047830ac9415e8d89cda8e5fe565773f57f8c3c3915df12b9dd0"), looks := true }, kinds := [], alts := [], laidByText := true, laidKinds := [.listed, .data], laidTests := true, laidLooks := .later }
def ModelCallersUptoCardSaid : Prop := Claim7.holds Tryz.pinned (.plain (OpenSpec.upto modelCallersSpec)) modelCallersUptoCard

/-- THE SECOND FORM's CARD OF 'gneisslaw21.ModelMonitors'. -/
def modelMonitorsUptoCard : Claim7 := { stood := { row := modelMonitorsUptoRow, standIns := [], harness := (true, "62a2f59f222c047830ac9415e8d89cda8e5fe565773f57f8c3c3915df12b9dd0"), looks := true }, kinds := [], alts := [], laidByText := true, laidKinds := [.listed, .data], laidTests := true, laidLooks := .later }
def ModelMonitorsUptoCardSaid : Prop := Claim7.holds Tryz.pinned (.plain (OpenSpec.upto modelMonitorsSpec)) modelMonitorsUptoCard

/-- THE SECOND FORM's CARD OF 'gneisslaw21.ModelStarts'. -/
def modelStartsUptoCard : Claim7 := { stood := { row := modelStartsUptoRow, standIns := [], harness := (true, "62a2f59f222c047830ac9415e8d89cda8e5fe565773f57f8c3c3915df12b9dd0"), looks := true }, kinds := [], alts := [], laidByText := true, laidKinds := [.listed, .data], laidTests := true, laidLooks := .later }
def ModelStartsUptoCardSaid : Prop := Claim7.holds Tryz.pinned (.plain (OpenSpec.upto modelStartsSpec)) modelStartsUptoCard

/-- THE SECOND FORM's CARD OF 'gneisslaw21.ModelReads'. -/
def modelReadsUptoCard : Claim7 := { stood := { row := modelReadsUptoRow, standIns := [], harness := (true, "62a2f59f222c047830ac9415e8d89cda8e5fe565773f57f8c3c3915df12b9dd0"), looks := true }, kinds := [], alts := [], laidByText := true, laidKinds := [.listed, .data], laidTests := true, laidLooks := .later }
def ModelReadsUptoCardSaid : Prop := Claim7.holds Tryz.pinned (.plain (OpenSpec.upto modelReadsSpec)) modelReadsUptoCard

/-- THE SECOND FORM's CARD OF 'gneisslaw21.ModelShort'. -/
def modelShortUptoCard : Claim7 := { stood := { row := modelShortUptoRow, standIns := [], harness := (true, "62a2f59f222c047830ac9415e8d89cda8e5fe565773f57f8c3c3915df12b9dd0"), looks := true }, kinds := [], alts := [], laidByText := true, laidKinds := [.listed, .data], laidTests := true, laidLooks := .later }
def ModelShortUptoCardSaid : Prop := Claim7.holds Tryz.pinned (.plain (OpenSpec.upto modelShortSpec)) modelShortUptoCard

/-- THE SECOND FORM's CARD OF 'gneisslaw21.ModelFinals'. -/
def modelFinalsUptoCard : Claim7 := { stood := { row := modelFinalsUptoRow, standIns := [], harness := (true, "62a2f59f222c047830ac9415e8d89cda8e5fe565773f57f8c3c3915df12b9dd0"), looks := true }, kinds := [], alts := [], laidByText := true, laidKinds := [.listed, .data], laidTests := true, laidLooks := .later }
def ModelFinalsUptoCardSaid : Prop := Claim7.holds Tryz.pinned (.plain (OpenSpec.upto modelFinalsSpec)) modelFinalsUptoCard

/-- THE SECOND FORM's CARD OF 'gneisslaw21.ModelWeaks'. -/
def modelWeaksUptoCard : Claim7 := { stood := { row := modelWeaksUptoRow, standIns := [], harness := (true, "62a2f59f222c047830ac9415e8d89cda8e5fe565773f57f8c3c3915df12b9dd0"), looks := true }, kinds := [], alts := [], laidByText := true, laidKinds := [.listed, .data], laidTests := true, laidLooks := .later }
def ModelWeaksUptoCardSaid : Prop := Claim7.holds Tryz.pinned (.plain (OpenSpec.upto modelWeaksSpec)) modelWeaksUptoCard

/-- THE SECOND FORM's CARD OF 'gneisslaw21.ModelAlone'. -/
def modelAloneUptoCard : Claim7 := { stood := { row := modelAloneUptoRow, standIns := [], harness := (true, "62a2f59f222c047830ac9415e8d89cda8e5fe565773f57f8c3c3915df12b9dd0"), looks := true }, kinds := [], alts := [], laidByText := true, laidKinds := [.listed, .data], laidTests := true, laidLooks := .later }
def ModelAloneUptoCardSaid : Prop := Claim7.holds Tryz.pinned (.plain (OpenSpec.upto modelAloneSpec)) modelAloneUptoCard
end Rows
end Go.Proofs.YtpogefeioedgeaaGreatDoor
