/- gneiss/gneisslaw24.ReplayPicks: what is reckoned. -/
import Derived.Test.YtpgebnmcphedgaaGreatDoorReplayPicksR
namespace Go.Proofs.YtpgebnmcphedgaaGreatDoor.replayPicks
open Go Go.Proofs Go.Ai
set_option maxRecDepth 1000000
theorem r15_0 : yes (run A0 b0 v15 d1) = true := by kernel_rfl
theorem r15_1 : yes (run A0 b1 v15 d2) = true := by kernel_rfl
theorem r15_2 : yes (run A0 b2 v15 d3) = true := by kernel_rfl
theorem r15_3 : yes (run A0 b3 v15 d4) = true := by kernel_rfl
theorem r15_4 : yes (run A0 b4 v15 d5) = true := by kernel_rfl
theorem r15_5 : yes (run A0 b5 v15 d6) = true := by kernel_rfl
theorem r15_6 : yes (run A0 b6 v15 d7) = true := by kernel_rfl
theorem r15_7 : yes (run A0 b7 v15 d8) = true := by kernel_rfl
theorem r15_8 : yes (run A0 b8 v15 d9) = true := by kernel_rfl
theorem r15_9 : yes (run A0 b9 v15 d10) = true := by kernel_rfl
theorem r15_10 : yes (run A0 b10 v15 d11) = true := by kernel_rfl
theorem r15_11 : yes (run A0 b11 v15 d12) = true := by kernel_rfl
theorem r15_12 : yes (run A0 b12 v15 d13) = true := by kernel_rfl
theorem r15_13 : yes (run A0 b13 v15 d14) = true := by kernel_rfl
theorem r15 : yes (run A0 n14 v15 e15) = true := by kernel_rfl
end Go.Proofs.YtpgebnmcphedgaaGreatDoor.replayPicks
