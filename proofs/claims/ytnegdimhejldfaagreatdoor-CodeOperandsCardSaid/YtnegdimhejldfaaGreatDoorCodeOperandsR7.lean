/- Runs of gneiss/gneisslaw16.CodeOperands. -/
import Derived.Test.YtnegdimhejldfaaGreatDoorCodeOperandsR
namespace Go.Proofs.YtnegdimhejldfaaGreatDoor.codeOperands
open Go Go.Proofs Go.Ai
theorem r28_3_4 : yes (run [(q0, n 28), (q1, n 3), (q2, n 4)] []) = true := by kernel_rfl
theorem r28_3_5 : yes (run [(q0, n 28), (q1, n 3), (q2, n 5)] []) = true := by kernel_rfl
theorem r28_3_6 : yes (run [(q0, n 28), (q1, n 3), (q2, n 6)] []) = true := by kernel_rfl
theorem r28_3_7 : yes (run [(q0, n 28), (q1, n 3), (q2, n 7)] []) = true := by kernel_rfl
theorem r28_4_0 : yes (run [(q0, n 28), (q1, n 4), (q2, n 0)] []) = true := by kernel_rfl
theorem r28_4_1 : yes (run [(q0, n 28), (q1, n 4), (q2, n 1)] []) = true := by kernel_rfl
theorem r28_4_2 : yes (run [(q0, n 28), (q1, n 4), (q2, n 2)] []) = true := by kernel_rfl
theorem r28_4_3 : yes (run [(q0, n 28), (q1, n 4), (q2, n 3)] []) = true := by kernel_rfl
theorem r28_4_4 : yes (run [(q0, n 28), (q1, n 4), (q2, n 4)] []) = true := by kernel_rfl
theorem r28_4_5 : yes (run [(q0, n 28), (q1, n 4), (q2, n 5)] []) = true := by kernel_rfl
theorem r28_4_6 : yes (run [(q0, n 28), (q1, n 4), (q2, n 6)] []) = true := by kernel_rfl
theorem r28_4_7 : yes (run [(q0, n 28), (q1, n 4), (q2, n 7)] []) = true := by kernel_rfl
theorem r28_5_0 : yes (run [(q0, n 28), (q1, n 5), (q2, n 0)] []) = true := by kernel_rfl
theorem r28_5_1 : yes (run [(q0, n 28), (q1, n 5), (q2, n 1)] []) = true := by kernel_rfl
theorem r28_5_2 : yes (run [(q0, n 28), (q1, n 5), (q2, n 2)] []) = true := by kernel_rfl
theorem r28_5_3 : yes (run [(q0, n 28), (q1, n 5), (q2, n 3)] []) = true := by kernel_rfl
theorem r28_5_4 : yes (run [(q0, n 28), (q1, n 5), (q2, n 4)] []) = true := by kernel_rfl
theorem r28_5_5 : yes (run [(q0, n 28), (q1, n 5), (q2, n 5)] []) = true := by kernel_rfl
theorem r28_5_6 : yes (run [(q0, n 28), (q1, n 5), (q2, n 6)] []) = true := by kernel_rfl
theorem r28_5_7 : yes (run [(q0, n 28), (q1, n 5), (q2, n 7)] []) = true := by kernel_rfl
theorem r28_6_0 : yes (run [(q0, n 28), (q1, n 6), (q2, n 0)] []) = true := by kernel_rfl
theorem r28_6_1 : yes (run [(q0, n 28), (q1, n 6), (q2, n 1)] []) = true := by kernel_rfl
theorem r28_6_2 : yes (run [(q0, n 28), (q1, n 6), (q2, n 2)] []) = true := by kernel_rfl
theorem r28_6_3 : yes (run [(q0, n 28), (q1, n 6), (q2, n 3)] []) = true := by kernel_rfl
theorem r28_6_4 : yes (run [(q0, n 28), (q1, n 6), (q2, n 4)] []) = true := by kernel_rfl
theorem r28_6_5 : yes (run [(q0, n 28), (q1, n 6), (q2, n 5)] []) = true := by kernel_rfl
theorem r28_6_6 : yes (run [(q0, n 28), (q1, n 6), (q2, n 6)] []) = true := by kernel_rfl
theorem r28_6_7 : yes (run [(q0, n 28), (q1, n 6), (q2, n 7)] []) = true := by kernel_rfl
theorem r28_7_0 : yes (run [(q0, n 28), (q1, n 7), (q2, n 0)] []) = true := by kernel_rfl
theorem r28_7_1 : yes (run [(q0, n 28), (q1, n 7), (q2, n 1)] []) = true := by kernel_rfl
theorem r28_7_2 : yes (run [(q0, n 28), (q1, n 7), (q2, n 2)] []) = true := by kernel_rfl
theorem r28_7_3 : yes (run [(q0, n 28), (q1, n 7), (q2, n 3)] []) = true := by kernel_rfl
theorem r28_7_4 : yes (run [(q0, n 28), (q1, n 7), (q2, n 4)] []) = true := by kernel_rfl
theorem r28_7_5 : yes (run [(q0, n 28), (q1, n 7), (q2, n 5)] []) = true := by kernel_rfl
theorem r28_7_6 : yes (run [(q0, n 28), (q1, n 7), (q2, n 6)] []) = true := by kernel_rfl
theorem r28_7_7 : yes (run [(q0, n 28), (q1, n 7), (q2, n 7)] []) = true := by kernel_rfl
theorem r29_x_x : yes (run [(q0, n 29)] []) = true := by kernel_rfl
theorem r30_x_x : yes (run [(q0, n 30)] []) = true := by kernel_rfl
theorem r31_x_x : yes (run [(q0, n 31)] []) = true := by kernel_rfl
theorem r32_x_x : yes (run [(q0, n 32)] []) = true := by kernel_rfl
theorem r33_0_x : yes (run [(q0, n 33), (q1, n 0)] []) = true := by kernel_rfl
theorem r33_1_x : yes (run [(q0, n 33), (q1, n 1)] []) = true := by kernel_rfl
theorem r33_2_x : yes (run [(q0, n 33), (q1, n 2)] []) = true := by kernel_rfl
theorem r33_3_x : yes (run [(q0, n 33), (q1, n 3)] []) = true := by kernel_rfl
theorem r33_4_x : yes (run [(q0, n 33), (q1, n 4)] []) = true := by kernel_rfl
theorem r33_5_x : yes (run [(q0, n 33), (q1, n 5)] []) = true := by kernel_rfl
theorem r33_6_x : yes (run [(q0, n 33), (q1, n 6)] []) = true := by kernel_rfl
theorem r33_7_x : yes (run [(q0, n 33), (q1, n 7)] []) = true := by kernel_rfl
theorem r34_0_x : yes (run [(q0, n 34), (q1, n 0)] []) = true := by kernel_rfl
theorem r34_1_x : yes (run [(q0, n 34), (q1, n 1)] []) = true := by kernel_rfl
theorem r34_2_x : yes (run [(q0, n 34), (q1, n 2)] []) = true := by kernel_rfl
theorem r34_3_x : yes (run [(q0, n 34), (q1, n 3)] []) = true := by kernel_rfl
theorem r34_4_x : yes (run [(q0, n 34), (q1, n 4)] []) = true := by kernel_rfl
theorem r34_5_x : yes (run [(q0, n 34), (q1, n 5)] []) = true := by kernel_rfl
theorem r34_6_x : yes (run [(q0, n 34), (q1, n 6)] []) = true := by kernel_rfl
theorem r34_7_x : yes (run [(q0, n 34), (q1, n 7)] []) = true := by kernel_rfl
theorem r35_x_x : yes (run [(q0, n 35)] []) = true := by kernel_rfl
theorem r36_x_x : yes (run [(q0, n 36)] []) = true := by kernel_rfl
theorem r37_x_x : yes (run [(q0, n 37)] []) = true := by kernel_rfl
theorem r38_x_x : yes (run [(q0, n 38)] []) = true := by kernel_rfl
theorem r39_x_x : yes (run [(q0, n 39)] []) = true := by kernel_rfl
theorem r40_x_x : yes (run [(q0, n 40)] []) = true := by kernel_rfl
theorem r41_x_x : yes (run [(q0, n 41)] []) = true := by kernel_rfl
theorem r42_x_x : yes (run [(q0, n 42)] []) = true := by kernel_rfl
theorem r43_x_x : yes (run [(q0, n 43)] []) = true := by kernel_rfl
theorem r44_x_x : yes (run [(q0, n 44)] []) = true := by kernel_rfl
theorem r45_x_x : yes (run [(q0, n 45)] []) = true := by kernel_rfl
theorem r46_x_x : yes (run [(q0, n 46)] []) = true := by kernel_rfl
end Go.Proofs.YtnegdimhejldfaaGreatDoor.codeOperands
