/-
  DERIVED. GIVEN WITH THE SEED: THE CARDS: each row of YtnldipiahcalhaaDoorRows.lean that lists a variable, with what it lists TIED to the program's text (the seventh form; the later family's looks); each row that meets fmt, with fmt's text TOLD by the authors' own Lean function (tested against real Go, not proved from fmt's source: count such statements apart). THE CARD IS WHAT COUNTS. Prove the row's statement (the work); the ties are given (YtnldipiahcalhaaDoorTie.lean); close each card by the builder's one call (the guide's Derived/Test/ToyasCard.lean, 'card_holds'). Laid BY PROGRAM, IN A SANDBOX (cutbox-door.mjs). By AI agents, Wed Nov 11 2026. No macro, syntax, notation, axiom, sorry.
-/
import Derived.Test.YtnldipiahcalhaaDoorRows
import GoSem.ClaimSeven
namespace Go.Proofs.YtnldipiahcalhaaDoor
namespace Rows

/-- THE TIED CARD OF 'gneisslaw17.TypesOrder'. -/
def typesOrderCard : Claim7 := { stood := { row := typesOrderRow, standIns := [], harness := (true, "98aa8f3ff44044fe2b47393efc5a25745b385eb234be1c1156c4667cb04947ae"), looks := false }, kinds := [], alts := [], laidByText := true, laidKinds := [.data, .data, .data], laidTests := true, laidLooks := .later }
def TypesOrderCardSaid : Prop := Claim7.holds Tryd.pinned (.plain (OpenSpec.ofChange typesOrderSpec)) typesOrderCard

/-- THE TIED CARD OF 'gneisslaw17.TypesWords'. -/
def typesWordsCard : Claim7 := { stood := { row := typesWordsRow, standIns := [], harness := (true, "98aa8f3ff44044fe2b47393efc5a25745b385eb234be1c1156c4667cb04947ae"), looks := false }, kinds := [], alts := [], laidByText := true, laidKinds := [.data, .data, .data], laidTests := true, laidLooks := .later }
def TypesWordsCardSaid : Prop := Claim7.holds Tryd.pinned (.plain (OpenSpec.ofChange typesWordsSpec)) typesWordsCard

/-- THE TIED CARD OF 'gneisslaw17.TypesNull'. -/
def typesNullCard : Claim7 := { stood := { row := typesNullRow, standIns := [], harness := (true, "98aa8f3ff44044fe2b47393efc5a25745b385eb234be1c1156c4667cb04947ae"), looks := false }, kinds := [], alts := [], laidByText := true, laidKinds := [.data, .data, .data], laidTests := true, laidLooks := .later }
def TypesNullCardSaid : Prop := Claim7.holds Tryd.pinned (.plain (OpenSpec.ofChange typesNullSpec)) typesNullCard

/-- THE TIED CARD OF 'gneisslaw17.TypesFits'. -/
def typesFitsCard : Claim7 := { stood := { row := typesFitsRow, standIns := [], harness := (true, "98aa8f3ff44044fe2b47393efc5a25745b385eb234be1c1156c4667cb04947ae"), looks := false }, kinds := [], alts := [], laidByText := true, laidKinds := [.data, .data, .data], laidTests := true, laidLooks := .later }
def TypesFitsCardSaid : Prop := Claim7.holds Tryd.pinned (.plain (OpenSpec.ofChange typesFitsSpec)) typesFitsCard

/-- THE SECOND FORM's CARD OF 'gneisslaw17.TypesOrder'. -/
def typesOrderUptoCard : Claim7 := { stood := { row := typesOrderUptoRow, standIns := [], harness := (true, "98aa8f3ff44044fe2b47393efc5a25745b385eb234be1c1156c4667cb04947ae"), looks := false }, kinds := [], alts := [], laidByText := true, laidKinds := [.data, .data, .data], laidTests := true, laidLooks := .later }
def TypesOrderUptoCardSaid : Prop := Claim7.holds Tryd.pinned (.plain (OpenSpec.upto typesOrderSpec)) typesOrderUptoCard

/-- THE SECOND FORM's CARD OF 'gneisslaw17.TypesWords'. -/
def typesWordsUptoCard : Claim7 := { stood := { row := typesWordsUptoRow, standIns := [], harness := (true, "98aa8f3ff44044fe2b47393efc5a25745b385eb234be1c1156c4667cb04947ae"), looks := false }, kinds := [], alts := [], laidByText := true, laidKinds := [.data, .data, .data], laidTests := true, laidLooks := .later }
def TypesWordsUptoCardSaid : Prop := Claim7.holds Tryd.pinned (.plain (OpenSpec.upto typesWordsSpec)) typesWordsUptoCard

/-- THE SECOND FORM's CARD OF 'gneisslaw17.TypesNull'. -/
def typesNullUptoCard : Claim7 := { stood := { row := typesNullUptoRow, standIns := [], harness := (true, "98aa8f3ff44044fe2b47393efc5a25745b385eb234be1c1156c4667cb04947ae"), looks := false }, kinds := [], alts := [], laidByText := true, laidKinds := [.data, .data, .data], laidTests := true, laidLooks := .later }
def TypesNullUptoCardSaid : Prop := Claim7.holds Tryd.pinned (.plain (OpenSpec.upto typesNullSpec)) typesNullUptoCard

/-- THE SECOND FORM's CARD OF 'gneisslaw17.TypesFits'. -/
def typesFitsUptoCard : Claim7 := { stood := { row := typesFitsUptoRow, standIns := [], harness := (true, "98aa8f3ff44044fe2b47393efc5a25745b385eb234be1c1156c4667cb04947ae"), looks := false }, kinds := [], alts := [], laidByText := true, laidKinds := [.data, .data, .data], laidTests := true, laidLooks := .later }
def TypesFitsUptoCardSaid : Prop := Claim7.holds Tryd.pinned (.plain (OpenSpec.upto typesFitsSpec)) typesFitsUptoCard
end Rows
end Go.Proofs.YtnldipiahcalhaaDoor
