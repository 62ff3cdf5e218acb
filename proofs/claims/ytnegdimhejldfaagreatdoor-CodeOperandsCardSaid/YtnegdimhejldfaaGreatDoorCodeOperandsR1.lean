/- Runs of gneiss/gneisslaw16.CodeOperands. -/
import Derived.Test.YtnegdimhejldfaaGreatDoorCodeOperandsR
namespace Go.Proofs.YtnegdimhejldfaaGreatDoor.codeOperands
open Go Go.Proofs Go.Ai
theorem r13_3_x : yes (run [(q0, n 13), (q1, n 3)] []) = true := by kernel_rfl
theorem r13_4_x : yes (run [(q0, n 13), (q1, n 4)] []) = true := by kernel_rfl
theorem r13_5_x : yes (run [(q0, n 13), (q1, n 5)] []) = true := by kernel_rfl
theorem r13_6_x : yes (run [(q0, n 13), (q1, n 6)] []) = true := by kernel_rfl
theorem r13_7_x : yes (run [(q0, n 13), (q1, n 7)] []) = true := by kernel_rfl
theorem r14_0_x : yes (run [(q0, n 14), (q1, n 0)] []) = true := by kernel_rfl
theorem r14_1_x : yes (run [(q0, n 14), (q1, n 1)] []) = true := by kernel_rfl
theorem r14_2_x : yes (run [(q0, n 14), (q1, n 2)] []) = true := by kernel_rfl
theorem r14_3_x : yes (run [(q0, n 14), (q1, n 3)] []) = true := by kernel_rfl
theorem r14_4_x : yes (run [(q0, n 14), (q1, n 4)] []) = true := by kernel_rfl
theorem r14_5_x : yes (run [(q0, n 14), (q1, n 5)] []) = true := by kernel_rfl
theorem r14_6_x : yes (run [(q0, n 14), (q1, n 6)] []) = true := by kernel_rfl
theorem r14_7_x : yes (run [(q0, n 14), (q1, n 7)] []) = true := by kernel_rfl
theorem r15_0_0 : yes (run [(q0, n 15), (q1, n 0), (q2, n 0)] []) = true := by kernel_rfl
theorem r15_0_1 : yes (run [(q0, n 15), (q1, n 0), (q2, n 1)] []) = true := by kernel_rfl
theorem r15_0_2 : yes (run [(q0, n 15), (q1, n 0), (q2, n 2)] []) = true := by kernel_rfl
theorem r15_0_3 : yes (run [(q0, n 15), (q1, n 0), (q2, n 3)] []) = true := by kernel_rfl
theorem r15_0_4 : yes (run [(q0, n 15), (q1, n 0), (q2, n 4)] []) = true := by kernel_rfl
theorem r15_0_5 : yes (run [(q0, n 15), (q1, n 0), (q2, n 5)] []) = true := by kernel_rfl
theorem r15_0_6 : yes (run [(q0, n 15), (q1, n 0), (q2, n 6)] []) = true := by kernel_rfl
theorem r15_0_7 : yes (run [(q0, n 15), (q1, n 0), (q2, n 7)] []) = true := by kernel_rfl
theorem r15_1_0 : yes (run [(q0, n 15), (q1, n 1), (q2, n 0)] []) = true := by kernel_rfl
theorem r15_1_1 : yes (run [(q0, n 15), (q1, n 1), (q2, n 1)] []) = true := by kernel_rfl
theorem r15_1_2 : yes (run [(q0, n 15), (q1, n 1), (q2, n 2)] []) = true := by kernel_rfl
theorem r15_1_3 : yes (run [(q0, n 15), (q1, n 1), (q2, n 3)] []) = true := by kernel_rfl
theorem r15_1_4 : yes (run [(q0, n 15), (q1, n 1), (q2, n 4)] []) = true := by kernel_rfl
theorem r15_1_5 : yes (run [(q0, n 15), (q1, n 1), (q2, n 5)] []) = true := by kernel_rfl
theorem r15_1_6 : yes (run [(q0, n 15), (q1, n 1), (q2, n 6)] []) = true := by kernel_rfl
theorem r15_1_7 : yes (run [(q0, n 15), (q1, n 1), (q2, n 7)] []) = true := by kernel_rfl
theorem r15_2_0 : yes (run [(q0, n 15), (q1, n 2), (q2, n 0)] []) = true := by kernel_rfl
theorem r15_2_1 : yes (run [(q0, n 15), (q1, n 2), (q2, n 1)] []) = true := by kernel_rfl
theorem r15_2_2 : yes (run [(q0, n 15), (q1, n 2), (q2, n 2)] []) = true := by kernel_rfl
theorem r15_2_3 : yes (run [(q0, n 15), (q1, n 2), (q2, n 3)] []) = true := by kernel_rfl
theorem r15_2_4 : yes (run [(q0, n 15), (q1, n 2), (q2, n 4)] []) = true := by kernel_rfl
theorem r15_2_5 : yes (run [(q0, n 15), (q1, n 2), (q2, n 5)] []) = true := by kernel_rfl
theorem r15_2_6 : yes (run [(q0, n 15), (q1, n 2), (q2, n 6)] []) = true := by kernel_rfl
theorem r15_2_7 : yes (run [(q0, n 15), (q1, n 2), (q2, n 7)] []) = true := by kernel_rfl
theorem r15_3_0 : yes (run [(q0, n 15), (q1, n 3), (q2, n 0)] []) = true := by kernel_rfl
theorem r15_3_1 : yes (run [(q0, n 15), (q1, n 3), (q2, n 1)] []) = true := by kernel_rfl
theorem r15_3_2 : yes (run [(q0, n 15), (q1, n 3), (q2, n 2)] []) = true := by kernel_rfl
theorem r15_3_3 : yes (run [(q0, n 15), (q1, n 3), (q2, n 3)] []) = true := by kernel_rfl
theorem r15_3_4 : yes (run [(q0, n 15), (q1, n 3), (q2, n 4)] []) = true := by kernel_rfl
theorem r15_3_5 : yes (run [(q0, n 15), (q1, n 3), (q2, n 5)] []) = true := by kernel_rfl
theorem r15_3_6 : yes (run [(q0, n 15), (q1, n 3), (q2, n 6)] []) = true := by kernel_rfl
theorem r15_3_7 : yes (run [(q0, n 15), (q1, n 3), (q2, n 7)] []) = true := by kernel_rfl
theorem r15_4_0 : yes (run [(q0, n 15), (q1, n 4), (q2, n 0)] []) = true := by kernel_rfl
theorem r15_4_1 : yes (run [(q0, n 15), (q1, n 4), (q2, n 1)] []) = true := by kernel_rfl
theorem r15_4_2 : yes (run [(q0, n 15), (q1, n 4), (q2, n 2)] []) = true := by kernel_rfl
theorem r15_4_3 : yes (run [(q0, n 15), (q1, n 4), (q2, n 3)] []) = true := by kernel_rfl
theorem r15_4_4 : yes (run [(q0, n 15), (q1, n 4), (q2, n 4)] []) = true := by kernel_rfl
theorem r15_4_5 : yes (run [(q0, n 15), (q1, n 4), (q2, n 5)] []) = true := by kernel_rfl
theorem r15_4_6 : yes (run [(q0, n 15), (q1, n 4), (q2, n 6)] []) = true := by kernel_rfl
theorem r15_4_7 : yes (run [(q0, n 15), (q1, n 4), (q2, n 7)] []) = true := by kernel_rfl
theorem r15_5_0 : yes (run [(q0, n 15), (q1, n 5), (q2, n 0)] []) = true := by kernel_rfl
theorem r15_5_1 : yes (run [(q0, n 15), (q1, n 5), (q2, n 1)] []) = true := by kernel_rfl
theorem r15_5_2 : yes (run [(q0, n 15), (q1, n 5), (q2, n 2)] []) = true := by kernel_rfl
theorem r15_5_3 : yes (run [(q0, n 15), (q1, n 5), (q2, n 3)] []) = true := by kernel_rfl
theorem r15_5_4 : yes (run [(q0, n 15), (q1, n 5), (q2, n 4)] []) = true := by kernel_rfl
theorem r15_5_5 : yes (run [(q0, n 15), (q1, n 5), (q2, n 5)] []) = true := by kernel_rfl
theorem r15_5_6 : yes (run [(q0, n 15), (q1, n 5), (q2, n 6)] []) = true := by kernel_rfl
theorem r15_5_7 : yes (run [(q0, n 15), (q1, n 5), (q2, n 7)] []) = true := by kernel_rfl
theorem r15_6_0 : yes (run [(q0, n 15), (q1, n 6), (q2, n 0)] []) = true := by kernel_rfl
theorem r15_6_1 : yes (run [(q0, n 15), (q1, n 6), (q2, n 1)] []) = true := by kernel_rfl
theorem r15_6_2 : yes (run [(q0, n 15), (q1, n 6), (q2, n 2)] []) = true := by kernel_rfl
theorem r15_6_3 : yes (run [(q0, n 15), (q1, n 6), (q2, n 3)] []) = true := by kernel_rfl
theorem r15_6_4 : yes (run [(q0, n 15), (q1, n 6), (q2, n 4)] []) = true := by kernel_rfl
theorem r15_6_5 : yes (run [(q0, n 15), (q1, n 6), (q2, n 5)] []) = true := by kernel_rfl
theorem r15_6_6 : yes (run [(q0, n 15), (q1, n 6), (q2, n 6)] []) = true := by kernel_rfl
theorem r15_6_7 : yes (run [(q0, n 15), (q1, n 6), (q2, n 7)] []) = true := by kernel_rfl
theorem r15_7_0 : yes (run [(q0, n 15), (q1, n 7), (q2, n 0)] []) = true := by kernel_rfl
theorem r15_7_1 : yes (run [(q0, n 15), (q1, n 7), (q2, n 1)] []) = true := by kernel_rfl
theorem r15_7_2 : yes (run [(q0, n 15), (q1, n 7), (q2, n 2)] []) = true := by kernel_rfl
end Go.Proofs.YtnegdimhejldfaaGreatDoor.codeOperands
