/- gneiss/gneisslaw24.ReplayPicks: what is reckoned. -/
import Derived.Test.YtpgebnmcphedgaaGreatDoorReplayPicksR
namespace Go.Proofs.YtpgebnmcphedgaaGreatDoor.replayPicks
open Go Go.Proofs Go.Ai
set_option maxRecDepth 1000000
theorem r20_0 : yes (run A0 b0 v20 d1) = true := by kernel_rfl
theorem r20_1 : yes (run A0 b1 v20 d2) = true := by kernel_rfl
theorem r20_2 : yes (run A0 b2 v20 d3) = true := by kernel_rfl
theorem r20_3 : yes (run A0 b3 v20 d4) = true := by kernel_rfl
theorem r20_4 : yes (run A0 b4 v20 d5) = true := by kernel_rfl
theorem r20_5 : yes (run A0 b5 v20 d6) = true := by kernel_rfl
theorem r20_6 : yes (run A0 b6 v20 d7) = true := by kernel_rfl
theorem r20_7 : yes (run A0 b7 v20 d8) = true := by kernel_rfl
theorem r20_8 : yes (run A0 b8 v20 d9) = true := by kernel_rfl
theorem r20_9 : yes (run A0 b9 v20 d10) = true := by kernel_rfl
theorem r20_10 : yes (run A0 b10 v20 d11) = true := by kernel_rfl
theorem r20_11 : yes (run A0 b11 v20 d12) = true := by kernel_rfl
theorem r20_12 : yes (run A0 b12 v20 d13) = true := by kernel_rfl
theorem r20_13 : yes (run A0 b13 v20 d14) = true := by kernel_rfl
theorem r20_14 : yes (run A0 b14 v20 d15) = true := by kernel_rfl
end Go.Proofs.YtpgebnmcphedgaaGreatDoor.replayPicks
