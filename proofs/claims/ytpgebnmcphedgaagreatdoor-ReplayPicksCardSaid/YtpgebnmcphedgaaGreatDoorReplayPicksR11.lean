/- gneiss/gneisslaw24.ReplayPicks: what is reckoned. -/
import Derived.Test.YtpgebnmcphedgaaGreatDoorReplayPicksR
namespace Go.Proofs.YtpgebnmcphedgaaGreatDoor.replayPicks
open Go Go.Proofs Go.Ai
set_option maxRecDepth 1000000
theorem r19_8 : yes (run A0 b8 v19 d9) = true := by kernel_rfl
theorem r19_9 : yes (run A0 b9 v19 d10) = true := by kernel_rfl
theorem r19_10 : yes (run A0 b10 v19 d11) = true := by kernel_rfl
theorem r19_11 : yes (run A0 b11 v19 d12) = true := by kernel_rfl
theorem r19_12 : yes (run A0 b12 v19 d13) = true := by kernel_rfl
theorem r19_13 : yes (run A0 b13 v19 d14) = true := by kernel_rfl
theorem r19_14 : yes (run A0 b14 v19 d15) = true := by kernel_rfl
theorem r19_15 : yes (run A0 b15 v19 d16) = true := by kernel_rfl
theorem r19_16 : yes (run A0 b16 v19 d17) = true := by kernel_rfl
theorem r19_17 : yes (run A0 b17 v19 d18) = true := by kernel_rfl
theorem r19 : yes (run A0 n18 v19 e19) = true := by kernel_rfl
end Go.Proofs.YtpgebnmcphedgaaGreatDoor.replayPicks
