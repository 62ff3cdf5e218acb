/- gneiss/gneisslaw24.ReplayPicks: what is reckoned. -/
import Derived.Test.YtpgebnmcphedgaaGreatDoorReplayPicksR
namespace Go.Proofs.YtpgebnmcphedgaaGreatDoor.replayPicks
open Go Go.Proofs Go.Ai
set_option maxRecDepth 1000000
theorem rn : yes (run .sl0 [] [] e0) = true := by kernel_rfl
theorem r0 : yes (run A0 n0 v0 e0) = true := by kernel_rfl
theorem r1 : yes (run A0 n0 v1 e1) = true := by kernel_rfl
theorem r2_0 : yes (run A0 b0 v2 d1) = true := by kernel_rfl
theorem r2 : yes (run A0 n1 v2 e2) = true := by kernel_rfl
theorem r3_0 : yes (run A0 b0 v3 d1) = true := by kernel_rfl
theorem r3_1 : yes (run A0 b1 v3 d2) = true := by kernel_rfl
theorem r3 : yes (run A0 n2 v3 e3) = true := by kernel_rfl
theorem r4_0 : yes (run A0 b0 v4 d1) = true := by kernel_rfl
theorem r4_1 : yes (run A0 b1 v4 d2) = true := by kernel_rfl
theorem r4_2 : yes (run A0 b2 v4 d3) = true := by kernel_rfl
theorem r4 : yes (run A0 n3 v4 e4) = true := by kernel_rfl
theorem r5_0 : yes (run A0 b0 v5 d1) = true := by kernel_rfl
theorem r5_1 : yes (run A0 b1 v5 d2) = true := by kernel_rfl
theorem r5_2 : yes (run A0 b2 v5 d3) = true := by kernel_rfl
theorem r5_3 : yes (run A0 b3 v5 d4) = true := by kernel_rfl
theorem r5 : yes (run A0 n4 v5 e5) = true := by kernel_rfl
theorem r6_0 : yes (run A0 b0 v6 d1) = true := by kernel_rfl
theorem r6_1 : yes (run A0 b1 v6 d2) = true := by kernel_rfl
theorem r6_2 : yes (run A0 b2 v6 d3) = true := by kernel_rfl
theorem r6_3 : yes (run A0 b3 v6 d4) = true := by kernel_rfl
theorem r6_4 : yes (run A0 b4 v6 d5) = true := by kernel_rfl
theorem r6 : yes (run A0 n5 v6 e6) = true := by kernel_rfl
end Go.Proofs.YtpgebnmcphedgaaGreatDoor.replayPicks
