/- gneiss/gneisslaw24.ReplayPicks: what is reckoned. -/
import Derived.Test.YtpgebnmcphedgaaGreatDoorReplayPicksR
namespace Go.Proofs.YtpgebnmcphedgaaGreatDoor.replayPicks
open Go Go.Proofs Go.Ai
set_option maxRecDepth 1000000
theorem r17_14 : yes (run A0 b14 v17 d15) = true := by kernel_rfl
theorem r17_15 : yes (run A0 b15 v17 d16) = true := by kernel_rfl
theorem r17 : yes (run A0 n16 v17 e17) = true := by kernel_rfl
theorem r18_0 : yes (run A0 b0 v18 d1) = true := by kernel_rfl
theorem r18_1 : yes (run A0 b1 v18 d2) = true := by kernel_rfl
theorem r18_2 : yes (run A0 b2 v18 d3) = true := by kernel_rfl
theorem r18_3 : yes (run A0 b3 v18 d4) = true := by kernel_rfl
theorem r18_4 : yes (run A0 b4 v18 d5) = true := by kernel_rfl
theorem r18_5 : yes (run A0 b5 v18 d6) = true := by kernel_rfl
theorem r18_6 : yes (run A0 b6 v18 d7) = true := by kernel_rfl
theorem r18_7 : yes (run A0 b7 v18 d8) = true := by kernel_rfl
theorem r18_8 : yes (run A0 b8 v18 d9) = true := by kernel_rfl
theorem r18_9 : yes (run A0 b9 v18 d10) = true := by kernel_rfl
theorem r18_10 : yes (run A0 b10 v18 d11) = true := by kernel_rfl
theorem r18_11 : yes (run A0 b11 v18 d12) = true := by kernel_rfl
end Go.Proofs.YtpgebnmcphedgaaGreatDoor.replayPicks
