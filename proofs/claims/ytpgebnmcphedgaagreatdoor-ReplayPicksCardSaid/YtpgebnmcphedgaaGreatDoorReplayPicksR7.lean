/- gneiss/gneisslaw24.ReplayPicks: what is reckoned. -/
import Derived.Test.YtpgebnmcphedgaaGreatDoorReplayPicksR
namespace Go.Proofs.YtpgebnmcphedgaaGreatDoor.replayPicks
open Go Go.Proofs Go.Ai
set_option maxRecDepth 1000000
theorem r16_0 : yes (run A0 b0 v16 d1) = true := by kernel_rfl
theorem r16_1 : yes (run A0 b1 v16 d2) = true := by kernel_rfl
theorem r16_2 : yes (run A0 b2 v16 d3) = true := by kernel_rfl
theorem r16_3 : yes (run A0 b3 v16 d4) = true := by kernel_rfl
theorem r16_4 : yes (run A0 b4 v16 d5) = true := by kernel_rfl
theorem r16_5 : yes (run A0 b5 v16 d6) = true := by kernel_rfl
theorem r16_6 : yes (run A0 b6 v16 d7) = true := by kernel_rfl
theorem r16_7 : yes (run A0 b7 v16 d8) = true := by kernel_rfl
theorem r16_8 : yes (run A0 b8 v16 d9) = true := by kernel_rfl
theorem r16_9 : yes (run A0 b9 v16 d10) = true := by kernel_rfl
theorem r16_10 : yes (run A0 b10 v16 d11) = true := by kernel_rfl
theorem r16_11 : yes (run A0 b11 v16 d12) = true := by kernel_rfl
theorem r16_12 : yes (run A0 b12 v16 d13) = true := by kernel_rfl
theorem r16_13 : yes (run A0 b13 v16 d14) = true := by kernel_rfl
theorem r16_14 : yes (run A0 b14 v16 d15) = true := by kernel_rfl
end Go.Proofs.YtpgebnmcphedgaaGreatDoor.replayPicks
