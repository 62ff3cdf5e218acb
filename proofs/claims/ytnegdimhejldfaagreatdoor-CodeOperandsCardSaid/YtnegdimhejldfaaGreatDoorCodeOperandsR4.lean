/- Runs of gneiss/gneisslaw16.CodeOperands. -/
import Derived.Test.YtnegdimhejldfaaGreatDoorCodeOperandsR
namespace Go.Proofs.YtnegdimhejldfaaGreatDoor.codeOperands
open Go Go.Proofs Go.Ai
theorem r18_1_3 : yes (run [(q0, n 18), (q1, n 1), (q2, n 3)] []) = true := by kernel_rfl
theorem r18_1_4 : yes (run [(q0, n 18), (q1, n 1), (q2, n 4)] []) = true := by kernel_rfl
theorem r18_1_5 : yes (run [(q0, n 18), (q1, n 1), (q2, n 5)] []) = true := by kernel_rfl
theorem r18_1_6 : yes (run [(q0, n 18), (q1, n 1), (q2, n 6)] []) = true := by kernel_rfl
theorem r18_1_7 : yes (run [(q0, n 18), (q1, n 1), (q2, n 7)] []) = true := by kernel_rfl
theorem r18_2_0 : yes (run [(q0, n 18), (q1, n 2), (q2, n 0)] []) = true := by kernel_rfl
theorem r18_2_1 : yes (run [(q0, n 18), (q1, n 2), (q2, n 1)] []) = true := by kernel_rfl
theorem r18_2_2 : yes (run [(q0, n 18), (q1, n 2), (q2, n 2)] []) = true := by kernel_rfl
theorem r18_2_3 : yes (run [(q0, n 18), (q1, n 2), (q2, n 3)] []) = true := by kernel_rfl
theorem r18_2_4 : yes (run [(q0, n 18), (q1, n 2), (q2, n 4)] []) = true := by kernel_rfl
theorem r18_2_5 : yes (run [(q0, n 18), (q1, n 2), (q2, n 5)] []) = true := by kernel_rfl
theorem r18_2_6 : yes (run [(q0, n 18), (q1, n 2), (q2, n 6)] []) = true := by kernel_rfl
theorem r18_2_7 : yes (run [(q0, n 18), (q1, n 2), (q2, n 7)] []) = true := by kernel_rfl
theorem r18_3_0 : yes (run [(q0, n 18), (q1, n 3), (q2, n 0)] []) = true := by kernel_rfl
theorem r18_3_1 : yes (run [(q0, n 18), (q1, n 3), (q2, n 1)] []) = true := by kernel_rfl
theorem r18_3_2 : yes (run [(q0, n 18), (q1, n 3), (q2, n 2)] []) = true := by kernel_rfl
theorem r18_3_3 : yes (run [(q0, n 18), (q1, n 3), (q2, n 3)] []) = true := by kernel_rfl
theorem r18_3_4 : yes (run [(q0, n 18), (q1, n 3), (q2, n 4)] []) = true := by kernel_rfl
theorem r18_3_5 : yes (run [(q0, n 18), (q1, n 3), (q2, n 5)] []) = true := by kernel_rfl
theorem r18_3_6 : yes (run [(q0, n 18), (q1, n 3), (q2, n 6)] []) = true := by kernel_rfl
theorem r18_3_7 : yes (run [(q0, n 18), (q1, n 3), (q2, n 7)] []) = true := by kernel_rfl
theorem r18_4_0 : yes (run [(q0, n 18), (q1, n 4), (q2, n 0)] []) = true := by kernel_rfl
theorem r18_4_1 : yes (run [(q0, n 18), (q1, n 4), (q2, n 1)] []) = true := by kernel_rfl
theorem r18_4_2 : yes (run [(q0, n 18), (q1, n 4), (q2, n 2)] []) = true := by kernel_rfl
theorem r18_4_3 : yes (run [(q0, n 18), (q1, n 4), (q2, n 3)] []) = true := by kernel_rfl
theorem r18_4_4 : yes (run [(q0, n 18), (q1, n 4), (q2, n 4)] []) = true := by kernel_rfl
theorem r18_4_5 : yes (run [(q0, n 18), (q1, n 4), (q2, n 5)] []) = true := by kernel_rfl
theorem r18_4_6 : yes (run [(q0, n 18), (q1, n 4), (q2, n 6)] []) = true := by kernel_rfl
theorem r18_4_7 : yes (run [(q0, n 18), (q1, n 4), (q2, n 7)] []) = true := by kernel_rfl
theorem r18_5_0 : yes (run [(q0, n 18), (q1, n 5), (q2, n 0)] []) = true := by kernel_rfl
theorem r18_5_1 : yes (run [(q0, n 18), (q1, n 5), (q2, n 1)] []) = true := by kernel_rfl
theorem r18_5_2 : yes (run [(q0, n 18), (q1, n 5), (q2, n 2)] []) = true := by kernel_rfl
theorem r18_5_3 : yes (run [(q0, n 18), (q1, n 5), (q2, n 3)] []) = true := by kernel_rfl
theorem r18_5_4 : yes (run [(q0, n 18), (q1, n 5), (q2, n 4)] []) = true := by kernel_rfl
theorem r18_5_5 : yes (run [(q0, n 18), (q1, n 5), (q2, n 5)] []) = true := by kernel_rfl
theorem r18_5_6 : yes (run [(q0, n 18), (q1, n 5), (q2, n 6)] []) = true := by kernel_rfl
theorem r18_5_7 : yes (run [(q0, n 18), (q1, n 5), (q2, n 7)] []) = true := by kernel_rfl
theorem r18_6_0 : yes (run [(q0, n 18), (q1, n 6), (q2, n 0)] []) = true := by kernel_rfl
theorem r18_6_1 : yes (run [(q0, n 18), (q1, n 6), (q2, n 1)] []) = true := by kernel_rfl
theorem r18_6_2 : yes (run [(q0, n 18), (q1, n 6), (q2, n 2)] []) = true := by kernel_rfl
theorem r18_6_3 : yes (run [(q0, n 18), (q1, n 6), (q2, n 3)] []) = true := by kernel_rfl
theorem r18_6_4 : yes (run [(q0, n 18), (q1, n 6), (q2, n 4)] []) = true := by kernel_rfl
theorem r18_6_5 : yes (run [(q0, n 18), (q1, n 6), (q2, n 5)] []) = true := by kernel_rfl
theorem r18_6_6 : yes (run [(q0, n 18), (q1, n 6), (q2, n 6)] []) = true := by kernel_rfl
theorem r18_6_7 : yes (run [(q0, n 18), (q1, n 6), (q2, n 7)] []) = true := by kernel_rfl
theorem r18_7_0 : yes (run [(q0, n 18), (q1, n 7), (q2, n 0)] []) = true := by kernel_rfl
theorem r18_7_1 : yes (run [(q0, n 18), (q1, n 7), (q2, n 1)] []) = true := by kernel_rfl
theorem r18_7_2 : yes (run [(q0, n 18), (q1, n 7), (q2, n 2)] []) = true := by kernel_rfl
theorem r18_7_3 : yes (run [(q0, n 18), (q1, n 7), (q2, n 3)] []) = true := by kernel_rfl
theorem r18_7_4 : yes (run [(q0, n 18), (q1, n 7), (q2, n 4)] []) = true := by kernel_rfl
theorem r18_7_5 : yes (run [(q0, n 18), (q1, n 7), (q2, n 5)] []) = true := by kernel_rfl
theorem r18_7_6 : yes (run [(q0, n 18), (q1, n 7), (q2, n 6)] []) = true := by kernel_rfl
theorem r18_7_7 : yes (run [(q0, n 18), (q1, n 7), (q2, n 7)] []) = true := by kernel_rfl
theorem r19_x_x : yes (run [(q0, n 19)] []) = true := by kernel_rfl
theorem r20_x_x : yes (run [(q0, n 20)] []) = true := by kernel_rfl
theorem r21_x_x : yes (run [(q0, n 21)] []) = true := by kernel_rfl
theorem r22_x_x : yes (run [(q0, n 22)] []) = true := by kernel_rfl
theorem r23_x_x : yes (run [(q0, n 23)] []) = true := by kernel_rfl
theorem r24_x_x : yes (run [(q0, n 24)] []) = true := by kernel_rfl
theorem r25_x_x : yes (run [(q0, n 25)] []) = true := by kernel_rfl
theorem r26_0_0 : yes (run [(q0, n 26), (q1, n 0), (q2, n 0)] []) = true := by kernel_rfl
theorem r26_0_1 : yes (run [(q0, n 26), (q1, n 0), (q2, n 1)] []) = true := by kernel_rfl
theorem r26_0_2 : yes (run [(q0, n 26), (q1, n 0), (q2, n 2)] []) = true := by kernel_rfl
theorem r26_0_3 : yes (run [(q0, n 26), (q1, n 0), (q2, n 3)] []) = true := by kernel_rfl
theorem r26_0_4 : yes (run [(q0, n 26), (q1, n 0), (q2, n 4)] []) = true := by kernel_rfl
theorem r26_0_5 : yes (run [(q0, n 26), (q1, n 0), (q2, n 5)] []) = true := by kernel_rfl
theorem r26_0_6 : yes (run [(q0, n 26), (q1, n 0), (q2, n 6)] []) = true := by kernel_rfl
theorem r26_0_7 : yes (run [(q0, n 26), (q1, n 0), (q2, n 7)] []) = true := by kernel_rfl
theorem r26_1_0 : yes (run [(q0, n 26), (q1, n 1), (q2, n 0)] []) = true := by kernel_rfl
theorem r26_1_1 : yes (run [(q0, n 26), (q1, n 1), (q2, n 1)] []) = true := by kernel_rfl
theorem r26_1_2 : yes (run [(q0, n 26), (q1, n 1), (q2, n 2)] []) = true := by kernel_rfl
theorem r26_1_3 : yes (run [(q0, n 26), (q1, n 1), (q2, n 3)] []) = true := by kernel_rfl
end Go.Proofs.YtnegdimhejldfaaGreatDoor.codeOperands
