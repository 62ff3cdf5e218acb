/- gneiss/gneisslaw24.ReplayPicks: what is reckoned. -/
import Derived.Test.YtpgebnmcphedgaaGreatDoorReplayPicksR
namespace Go.Proofs.YtpgebnmcphedgaaGreatDoor.replayPicks
open Go Go.Proofs Go.Ai
set_option maxRecDepth 1000000
theorem r11_4 : yes (run A0 b4 v11 d5) = true := by kernel_rfl
theorem r11_5 : yes (run A0 b5 v11 d6) = true := by kernel_rfl
theorem r11_6 : yes (run A0 b6 v11 d7) = true := by kernel_rfl
theorem r11_7 : yes (run A0 b7 v11 d8) = true := by kernel_rfl
theorem r11_8 : yes (run A0 b8 v11 d9) = true := by kernel_rfl
theorem r11_9 : yes (run A0 b9 v11 d10) = true := by kernel_rfl
theorem r11 : yes (run A0 n10 v11 e11) = true := by kernel_rfl
theorem r12_0 : yes (run A0 b0 v12 d1) = true := by kernel_rfl
theorem r12_1 : yes (run A0 b1 v12 d2) = true := by kernel_rfl
theorem r12_2 : yes (run A0 b2 v12 d3) = true := by kernel_rfl
theorem r12_3 : yes (run A0 b3 v12 d4) = true := by kernel_rfl
theorem r12_4 : yes (run A0 b4 v12 d5) = true := by kernel_rfl
theorem r12_5 : yes (run A0 b5 v12 d6) = true := by kernel_rfl
theorem r12_6 : yes (run A0 b6 v12 d7) = true := by kernel_rfl
theorem r12_7 : yes (run A0 b7 v12 d8) = true := by kernel_rfl
theorem r12_8 : yes (run A0 b8 v12 d9) = true := by kernel_rfl
end Go.Proofs.YtpgebnmcphedgaaGreatDoor.replayPicks
