/- gneiss/gneisslaw24.ReplayPicks: what is reckoned. -/
import Derived.Test.YtpgebnmcphedgaaGreatDoorReplayPicksR
namespace Go.Proofs.YtpgebnmcphedgaaGreatDoor.replayPicks
open Go Go.Proofs Go.Ai
set_option maxRecDepth 1000000
theorem r9_5 : yes (run A0 b5 v9 d6) = true := by kernel_rfl
theorem r9_6 : yes (run A0 b6 v9 d7) = true := by kernel_rfl
theorem r9_7 : yes (run A0 b7 v9 d8) = true := by kernel_rfl
theorem r9 : yes (run A0 n8 v9 e9) = true := by kernel_rfl
theorem r10_0 : yes (run A0 b0 v10 d1) = true := by kernel_rfl
theorem r10_1 : yes (run A0 b1 v10 d2) = true := by kernel_rfl
theorem r10_2 : yes (run A0 b2 v10 d3) = true := by kernel_rfl
theorem r10_3 : yes (run A0 b3 v10 d4) = true := by kernel_rfl
theorem r10_4 : yes (run A0 b4 v10 d5) = true := by kernel_rfl
theorem r10_5 : yes (run A0 b5 v10 d6) = true := by kernel_rfl
theorem r10_6 : yes (run A0 b6 v10 d7) = true := by kernel_rfl
theorem r10_7 : yes (run A0 b7 v10 d8) = true := by kernel_rfl
theorem r10_8 : yes (run A0 b8 v10 d9) = true := by kernel_rfl
theorem r10 : yes (run A0 n9 v10 e10) = true := by kernel_rfl
theorem r11_0 : yes (run A0 b0 v11 d1) = true := by kernel_rfl
theorem r11_1 : yes (run A0 b1 v11 d2) = true := by kernel_rfl
theorem r11_2 : yes (run A0 b2 v11 d3) = true := by kernel_rfl
theorem r11_3 : yes (run A0 b3 v11 d4) = true := by kernel_rfl
end Go.Proofs.YtpgebnmcphedgaaGreatDoor.replayPicks
