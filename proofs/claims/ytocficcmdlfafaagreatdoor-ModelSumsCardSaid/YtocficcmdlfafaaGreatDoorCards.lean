/-
  DERIVED. GIVEN WITH THE SEED: THE CARDS: each row of YtocficcmdlfafaaGreatDoorRows.lean that lists a variable, with what it lists TIED to the program's text (the seventh form; the later family's looks); each row that meets fmt, with fmt's text TOLD by the authors' own Lean function (tested against real Go, not proved from fmt's source: count such statements apart). THE CARD IS WHAT COUNTS. Prove the row's statement (the work); the ties are given (YtocficcmdlfafaaGreatDoorTie.lean); close each card by the builder's one call (the guide's Derived/Test/ToyasCard.lean, 'card_holds'). Laid BY PROGRAM, IN A SANDBOX (cutbox-door.mjs). By AI agents, Wed Nov 11 2026. No macro, syntax, notation, axiom, sorry.
-/
import Derived.Test.YtocficcmdlfafaaGreatDoorRows
import GoSem.ClaimSeven
namespace Go.Proofs.YtocficcmdlfafaaGreatDoor
namespace Rows

/-- THE TIED CARD OF 'gneisslaw21.ModelAriths'. -/
def modelArithsCard : Claim7 := { stood := { row := modelArithsRow, standIns := [], harness := (true, "8609ea2ad4fb1bdddae7411b9f3c1d7cdb53ccd46ab9348ec24f64e3358e183c"), looks := true }, kinds := [], alts := [], laidByText := true, laidKinds := [.listed, .data], laidTests := true, laidLooks := .later }
def ModelArithsCardSaid : Prop := Claim7.holds Tryz.pinned (.plain (OpenSpec.ofChange modelArithsSpec)) modelArithsCard

/-- THE TIED CARD OF 'gneisslaw21.ModelRefArrays'. -/
def modelRefArraysCard : Claim7 := { stood := { row := modelRefArraysRow, standIns := [], harness := (true, "8609ea2ad4fb1bdddae7411b9f3c1d7cdb53ccd46ab9348ec24f64e3358e183c"), looks := true }, kinds := [], alts := [], laidByText := true, laidKinds := [.listed, .data], laidTests := true, laidLooks := .later }
def ModelRefArraysCardSaid : Prop := Claim7.holds Tryz.pinned (.plain (OpenSpec.ofChange modelRefArraysSpec)) modelRefArraysCard

/-- THE TIED CARD OF 'gneisslaw21.ModelSums'. -/
def modelSumsCard : Claim7 := { stood := { row := modelSumsRow, standIns := [], harness := (true, "8609ea2ad4fb1bdddae7411b9f3c1d7cdb53ccd46ab9348ec24f64e3358e183c"), looks := true }, kinds := [], alts := [], laidByText := true, laidKinds := [.listed, .data], laidTests := true, laidLooks := .later }
def ModelSumsCardSaid : Prop := Claim7.holds Tryz.pinned (.plain (OpenSpec.ofChange modelSumsSpec)) modelSumsCard

/-- THE TIED CARD OF 'gneisslaw21.ModelArrays'. -/
def modelArraysCard : Claim7 := { stood := { row := modelArraysRow, standIns := [], harness := (true, "8609ea2ad4fb1bdddae7411b9f3c1d7cdb53ccd46ab9348ec24f64e3358e183c"), looks := true }, kinds := [], alts := [], laidByText := true, laidKinds := [.listed, .data], laidTests := true, laidLooks := .later }
def ModelArraysCardSaid : Prop := Claim7.holds Tryz.pinned (.plain (OpenSpec.ofChange modelArraysSpec)) modelArraysCard

/-- THE TIED CARD OF 'gneisslaw21.ModelReads'. -/
def modelReadsCard : Claim7 := { stood := { row := modelReadsRow, standIns := [], harness := (true, "8609ea2ad4fb1bdddae7411b9f3c1d7cdb53ccd46ab9348ec24f64e3358e183c"), looks := true }, kinds := [], alts := [], laidByText := true, laidKinds := [.listed, .data], laidTests := true, laidLooks := .later }
def ModelReadsCardSaid : Prop := Claim7.holds Tryz.pinned (.plain (OpenSpec.ofChange modelReadsSpec)) modelReadsCard

/-- THE SECOND FORM's CARD OF 'gneisslaw21.ModelAriths'. -/
def modelArithsUptoCard : Claim7 := { stood := { row := modelArithsUptoRow, standIns := [], harness := (true, "8609ea2ad4fb1bdddae7411b9f3c1d7cdb53ccd46ab9348ec24f64e3358e183c"), looks := true }, kinds := [], alts := [], laidByText := true, laidKinds := [.listed, .data], laidTests := true, laidLooks := .later }
def ModelArithsUptoCardSaid : Prop := Claim7.holds Tryz.pinned (.plain (OpenSpec.upto modelArithsSpec)) modelArithsUptoCard

/-- THE SECOND FORM's CARD OF 'gneisslaw21.ModelRefArrays'. -/
def modelRefArraysUptoCard : Claim7 := { stood := { row := modelRefArraysUptoRow, standIns := [], harness := (true, "8609ea2ad4fb1bdddae7411b9f3c1d7cdb53ccd46ab9348ec24f64e3358e183c"), looks := true }, kinds := [], alts := [], laidByText := true, laidKinds := [.listed, .data], laidTests := true, laidLooks := .later }
def ModelRefArraysUptoCardSaid : Prop := Claim7.holds Tryz.pinned (.plain (OpenSpec.upto modelRefArraysSpec)) modelRefArraysUptoCard

/-- THE SECOND FORM's CARD OF 'gneisslaw21.ModelSums'. -/
def modelSumsUptoCard : Claim7 := { stood := { row := modelSumsUptoRow, standIns := [], harness := (true, "8609ea2ad4fb1bdddae7411b9f3c1d7cdb53ccd46ab9348ec24f64e3358e183c"), looks := true }, kinds := [], alts := [], laidByText := true, laidKinds := [.listed, .data], laidTests := true, laidLooks := .later }
def ModelSumsUptoCardSaid : Prop := Claim7.holds Tryz.pinned (.plain (OpenSpec.upto modelSumsSpec)) modelSumsUptoCard

/-- THE SECOND FORM's CARD OF 'gneisslaw21.ModelArrays'. -/
def modelArraysUptoCard : Claim7 := { stood := { row := modelArraysUptoRow, standIns := [], harness := (true, "8609ea2ad4fb1bdddae7411b9f3c1d7cdb53ccd46ab9348ec24f64e3358e183c"), looks := true }, kinds := [], alts := [], laidByText := true, laidKinds := [.listed, .data], laidTests := true, laidLooks := .later }
def ModelArraysUptoCardSaid : Prop := Claim7.holds Tryz.pinned (.plain (OpenSpec.upto modelArraysSpec)) modelArraysUptoCard

/-- THE SECOND FORM's CARD OF 'gneisslaw21.ModelReads'. -/
def modelReadsUptoCard : Claim7 := { stood := { row := modelReadsUptoRow, standIns := [], harness := (true, "8609ea2ad4fb1bdddae7411b9f3c1d7cdb53ccd46ab9348ec24f64e3358e183c"), looks := true }, kinds := [], alts := [], laidByText := true, laidKinds := [.listed, .data], laidTests := true, laidLooks := .later }
def ModelReadsUptoCardSaid : Prop := Claim7.holds Tryz.pinned (.plain (OpenSpec.upto modelReadsSpec)) modelReadsUptoCard
end Rows
end Go.Proofs.YtocficcmdlfafaaGreatDoor
