/- Runs of gneiss/gneisslaw22.LegalQueue. -/
import Derived.Test.YtfedjkcigdgcoaaGreatDoorLegalQueueR
namespace Go.Proofs.YtfedjkcigdgcoaaGreatDoor.legalQueue
open Go Go.Proofs Go.Ai
theorem rf : yes (run [] [] false) = true := by kernel_rfl
end Go.Proofs.YtfedjkcigdgcoaaGreatDoor.legalQueue
