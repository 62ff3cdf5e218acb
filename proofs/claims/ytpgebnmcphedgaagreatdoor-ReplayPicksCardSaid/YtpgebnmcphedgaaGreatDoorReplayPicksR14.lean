/- gneiss/gneisslaw24.ReplayPicks: what is reckoned. -/
import Derived.Test.YtpgebnmcphedgaaGreatDoorReplayPicksR
namespace Go.Proofs.YtpgebnmcphedgaaGreatDoor.replayPicks
open Go Go.Proofs Go.Ai
set_option maxRecDepth 1000000
theorem r21_9 : yes (run A0 b9 v21 d10) = true := by kernel_rfl
theorem r21_10 : yes (run A0 b10 v21 d11) = true := by kernel_rfl
theorem r21_11 : yes (run A0 b11 v21 d12) = true := by kernel_rfl
theorem r21_12 : yes (run A0 b12 v21 d13) = true := by kernel_rfl
theorem r21_13 : yes (run A0 b13 v21 d14) = true := by kernel_rfl
theorem r21_14 : yes (run A0 b14 v21 d15) = true := by kernel_rfl
theorem r21_15 : yes (run A0 b15 v21 d16) = true := by kernel_rfl
theorem r21_16 : yes (run A0 b16 v21 d17) = true := by kernel_rfl
theorem r21_17 : yes (run A0 b17 v21 d18) = true := by kernel_rfl
theorem r21_18 : yes (run A0 b18 v21 d19) = true := by kernel_rfl
end Go.Proofs.YtpgebnmcphedgaaGreatDoor.replayPicks
