/- gneiss/gneisslaw24.ReplayPicks: what is reckoned. -/
import Derived.Test.YtpgebnmcphedgaaGreatDoorReplayPicksR
namespace Go.Proofs.YtpgebnmcphedgaaGreatDoor.replayPicks
open Go Go.Proofs Go.Ai
set_option maxRecDepth 1000000
theorem r13 : yes (run A0 n12 v13 e13) = true := by kernel_rfl
theorem r14_0 : yes (run A0 b0 v14 d1) = true := by kernel_rfl
theorem r14_1 : yes (run A0 b1 v14 d2) = true := by kernel_rfl
theorem r14_2 : yes (run A0 b2 v14 d3) = true := by kernel_rfl
theorem r14_3 : yes (run A0 b3 v14 d4) = true := by kernel_rfl
theorem r14_4 : yes (run A0 b4 v14 d5) = true := by kernel_rfl
theorem r14_5 : yes (run A0 b5 v14 d6) = true := by kernel_rfl
theorem r14_6 : yes (run A0 b6 v14 d7) = true := by kernel_rfl
theorem r14_7 : yes (run A0 b7 v14 d8) = true := by kernel_rfl
theorem r14_8 : yes (run A0 b8 v14 d9) = true := by kernel_rfl
theorem r14_9 : yes (run A0 b9 v14 d10) = true := by kernel_rfl
theorem r14_10 : yes (run A0 b10 v14 d11) = true := by kernel_rfl
theorem r14_11 : yes (run A0 b11 v14 d12) = true := by kernel_rfl
theorem r14_12 : yes (run A0 b12 v14 d13) = true := by kernel_rfl
theorem r14 : yes (run A0 n13 v14 e14) = true := by kernel_rfl
end Go.Proofs.YtpgebnmcphedgaaGreatDoor.replayPicks
