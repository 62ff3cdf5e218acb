/- gneiss/gneisslaw24.ReplayPicks: what is reckoned. -/
import Derived.Test.YtpgebnmcphedgaaGreatDoorReplayPicksR
namespace Go.Proofs.YtpgebnmcphedgaaGreatDoor.replayPicks
open Go Go.Proofs Go.Ai
set_option maxRecDepth 1000000
theorem r18_12 : yes (run A0 b12 v18 d13) = true := by kernel_rfl
theorem r18_13 : yes (run A0 b13 v18 d14) = true := by kernel_rfl
theorem r18_14 : yes (run A0 b14 v18 d15) = true := by kernel_rfl
theorem r18_15 : yes (run A0 b15 v18 d16) = true := by kernel_rfl
theorem r18_16 : yes (run A0 b16 v18 d17) = true := by kernel_rfl
theorem r18 : yes (run A0 n17 v18 e18) = true := by kernel_rfl
theorem r19_0 : yes (run A0 b0 v19 d1) = true := by kernel_rfl
theorem r19_1 : yes (run A0 b1 v19 d2) = true := by kernel_rfl
theorem r19_2 : yes (run A0 b2 v19 d3) = true := by kernel_rfl
theorem r19_3 : yes (run A0 b3 v19 d4) = true := by kernel_rfl
theorem r19_4 : yes (run A0 b4 v19 d5) = true := by kernel_rfl
theorem r19_5 : yes (run A0 b5 v19 d6) = true := by kernel_rfl
theorem r19_6 : yes (run A0 b6 v19 d7) = true := by kernel_rfl
theorem r19_7 : yes (run A0 b7 v19 d8) = true := by kernel_rfl
end Go.Proofs.YtpgebnmcphedgaaGreatDoor.replayPicks
