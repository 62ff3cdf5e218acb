/- gneiss/gneisslaw24.ReplayPicks: what is reckoned. -/
import Derived.Test.YtpgebnmcphedgaaGreatDoorReplayPicksR
namespace Go.Proofs.YtpgebnmcphedgaaGreatDoor.replayPicks
open Go Go.Proofs Go.Ai
set_option maxRecDepth 1000000
theorem r7_0 : yes (run A0 b0 v7 d1) = true := by kernel_rfl
theorem r7_1 : yes (run A0 b1 v7 d2) = true := by kernel_rfl
theorem r7_2 : yes (run A0 b2 v7 d3) = true := by kernel_rfl
theorem r7_3 : yes (run A0 b3 v7 d4) = true := by kernel_rfl
theorem r7_4 : yes (run A0 b4 v7 d5) = true := by kernel_rfl
theorem r7_5 : yes (run A0 b5 v7 d6) = true := by kernel_rfl
theorem r7 : yes (run A0 n6 v7 e7) = true := by kernel_rfl
theorem r8_0 : yes (run A0 b0 v8 d1) = true := by kernel_rfl
theorem r8_1 : yes (run A0 b1 v8 d2) = true := by kernel_rfl
theorem r8_2 : yes (run A0 b2 v8 d3) = true := by kernel_rfl
theorem r8_3 : yes (run A0 b3 v8 d4) = true := by kernel_rfl
theorem r8_4 : yes (run A0 b4 v8 d5) = true := by kernel_rfl
theorem r8_5 : yes (run A0 b5 v8 d6) = true := by kernel_rfl
theorem r8_6 : yes (run A0 b6 v8 d7) = true := by kernel_rfl
theorem r8 : yes (run A0 n7 v8 e8) = true := by kernel_rfl
theorem r9_0 : yes (run A0 b0 v9 d1) = true := by kernel_rfl
theorem r9_1 : yes (run A0 b1 v9 d2) = true := by kernel_rfl
theorem r9_2 : yes (run A0 b2 v9 d3) = true := by kernel_rfl
theorem r9_3 : yes (run A0 b3 v9 d4) = true := by kernel_rfl
theorem r9_4 : yes (run A0 b4 v9 d5) = true := by kernel_rfl
end Go.Proofs.YtpgebnmcphedgaaGreatDoor.replayPicks
