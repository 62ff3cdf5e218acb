/- gneiss/gneisslaw24.ReplayPicks: what is reckoned. -/
import Derived.Test.YtpgebnmcphedgaaGreatDoorReplayPicksR
namespace Go.Proofs.YtpgebnmcphedgaaGreatDoor.replayPicks
open Go Go.Proofs Go.Ai
set_option maxRecDepth 1000000
theorem r16 : yes (run A0 n15 v16 e16) = true := by kernel_rfl
theorem r17_0 : yes (run A0 b0 v17 d1) = true := by kernel_rfl
theorem r17_1 : yes (run A0 b1 v17 d2) = true := by kernel_rfl
theorem r17_2 : yes (run A0 b2 v17 d3) = true := by kernel_rfl
theorem r17_3 : yes (run A0 b3 v17 d4) = true := by kernel_rfl
theorem r17_4 : yes (run A0 b4 v17 d5) = true := by kernel_rfl
theorem r17_5 : yes (run A0 b5 v17 d6) = true := by kernel_rfl
theorem r17_6 : yes (run A0 b6 v17 d7) = true := by kernel_rfl
theorem r17_7 : yes (run A0 b7 v17 d8) = true := by kernel_rfl
theorem r17_8 : yes (run A0 b8 v17 d9) = true := by kernel_rfl
theorem r17_9 : yes (run A0 b9 v17 d10) = true := by kernel_rfl
theorem r17_10 : yes (run A0 b10 v17 d11) = true := by kernel_rfl
theorem r17_11 : yes (run A0 b11 v17 d12) = true := by kernel_rfl
theorem r17_12 : yes (run A0 b12 v17 d13) = true := by kernel_rfl
theorem r17_13 : yes (run A0 b13 v17 d14) = true := by kernel_rfl
end Go.Proofs.YtpgebnmcphedgaaGreatDoor.replayPicks
