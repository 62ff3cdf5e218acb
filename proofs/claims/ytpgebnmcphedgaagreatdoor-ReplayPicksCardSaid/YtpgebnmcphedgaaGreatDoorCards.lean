/-
  DERIVED. GIVEN WITH THE SEED: THE CARDS: each row of YtpgebnmcphedgaaGreatDoorRows.lean that lists a variable, with what it lists TIED to the program's text (the seventh form; the later family's looks); each row that meets fmt, with fmt's text TOLD by the authors' own Lean function (tested against real Go, not proved from fmt's source: count such statements apart). THE CARD IS WHAT COUNTS. Prove the row's statement (the work); the ties are given (YtpgebnmcphedgaaGreatDoorTie.lean); close each card by the builder's one call (the guide's Derived/Test/ToyasCard.lean, 'card_holds'). Laid BY PROGRAM, IN A SANDBOX (cutbox-door.mjs). By AI agents, Wed Nov 11 2026. No macro, syntax, notation, axiom, sorry.
-/
import Derived.Test.YtpgebnmcphedgaaGreatDoorRows
import GoSem.ClaimSeven
namespace Go.Proofs.YtpgebnmcphedgaaGreatDoor
namespace Rows

/-- THE TIED CARD OF 'gneisslaw24.ReplayPicks'. -/
def replayPicksCard : Claim7 := { stood := { row := replayPicksRow, standIns := [], harness := (true, "07f3469dd057f09776f67c386160197768d9f903b1dd2b2a50d3a3ded0264c11"), looks := true }, kinds := [], alts := [], laidByText := true, laidKinds := [.listed, .data], laidTests := true, laidLooks := .later }
def ReplayPicksCardSaid : Prop := Claim7.holds Tryz.pinned (.plain (OpenSpec.ofChange replayPicksSpec)) replayPicksCard

/-- THE SECOND FORM's CARD OF 'gneisslaw24.ReplayPicks'. -/
def replayPicksUptoCard : Claim7 := { stood := { row := replayPicksUptoRow, standIns := [], harness := (true, "07f3469dd057f09776f67c386160197768d9f903b1dd2b2a50d3a3ded0264c11"), looks := true }, kinds := [], alts := [], laidByText := true, laidKinds := [.listed, .data], laidTests := true, laidLooks := .later }
def ReplayPicksUptoCardSaid : Prop := Claim7.holds Tryz.pinned (.plain (OpenSpec.upto replayPicksSpec)) replayPicksUptoCard
end Rows
end Go.Proofs.YtpgebnmcphedgaaGreatDoor
