/- gneiss/gneisslaw24.ReplayPicks: what is reckoned. -/
import Derived.Test.YtpgebnmcphedgaaGreatDoorReplayPicksR
namespace Go.Proofs.YtpgebnmcphedgaaGreatDoor.replayPicks
open Go Go.Proofs Go.Ai
set_option maxRecDepth 1000000
theorem r20_15 : yes (run A0 b15 v20 d16) = true := by kernel_rfl
theorem r20_16 : yes (run A0 b16 v20 d17) = true := by kernel_rfl
theorem r20_17 : yes (run A0 b17 v20 d18) = true := by kernel_rfl
theorem r20_18 : yes (run A0 b18 v20 d19) = true := by kernel_rfl
theorem r20 : yes (run A0 n19 v20 e20) = true := by kernel_rfl
theorem r21_0 : yes (run A0 b0 v21 d1) = true := by kernel_rfl
theorem r21_1 : yes (run A0 b1 v21 d2) = true := by kernel_rfl
theorem r21_2 : yes (run A0 b2 v21 d3) = true := by kernel_rfl
theorem r21_3 : yes (run A0 b3 v21 d4) = true := by kernel_rfl
theorem r21_4 : yes (run A0 b4 v21 d5) = true := by kernel_rfl
theorem r21_5 : yes (run A0 b5 v21 d6) = true := by kernel_rfl
theorem r21_6 : yes (run A0 b6 v21 d7) = true := by kernel_rfl
theorem r21_7 : yes (run A0 b7 v21 d8) = true := by kernel_rfl
theorem r21_8 : yes (run A0 b8 v21 d9) = true := by kernel_rfl
end Go.Proofs.YtpgebnmcphedgaaGreatDoor.replayPicks
