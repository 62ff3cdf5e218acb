/- gneiss/gneisslaw24.ReplayPicks: what is reckoned. -/
import Derived.Test.YtpgebnmcphedgaaGreatDoorReplayPicksR
namespace Go.Proofs.YtpgebnmcphedgaaGreatDoor.replayPicks
open Go Go.Proofs Go.Ai
set_option maxRecDepth 1000000
theorem r12_9 : yes (run A0 b9 v12 d10) = true := by kernel_rfl
theorem r12_10 : yes (run A0 b10 v12 d11) = true := by kernel_rfl
theorem r12 : yes (run A0 n11 v12 e12) = true := by kernel_rfl
theorem r13_0 : yes (run A0 b0 v13 d1) = true := by kernel_rfl
theorem r13_1 : yes (run A0 b1 v13 d2) = true := by kernel_rfl
theorem r13_2 : yes (run A0 b2 v13 d3) = true := by kernel_rfl
theorem r13_3 : yes (run A0 b3 v13 d4) = true := by kernel_rfl
theorem r13_4 : yes (run A0 b4 v13 d5) = true := by kernel_rfl
theorem r13_5 : yes (run A0 b5 v13 d6) = true := by kernel_rfl
theorem r13_6 : yes (run A0 b6 v13 d7) = true := by kernel_rfl
theorem r13_7 : yes (run A0 b7 v13 d8) = true := by kernel_rfl
theorem r13_8 : yes (run A0 b8 v13 d9) = true := by kernel_rfl
theorem r13_9 : yes (run A0 b9 v13 d10) = true := by kernel_rfl
theorem r13_10 : yes (run A0 b10 v13 d11) = true := by kernel_rfl
theorem r13_11 : yes (run A0 b11 v13 d12) = true := by kernel_rfl
end Go.Proofs.YtpgebnmcphedgaaGreatDoor.replayPicks
