/- Runs of gneiss/gneisslaw16.CodeOperands. -/
import Derived.Test.YtnegdimhejldfaaGreatDoorCodeOperandsR
namespace Go.Proofs.YtnegdimhejldfaaGreatDoor.codeOperands
open Go Go.Proofs Go.Ai
theorem r0_x_x : yes (run [(q0, n 0)] []) = true := by kernel_rfl
theorem r1_0_x : yes (run [(q0, n 1), (q1, n 0)] []) = true := by kernel_rfl
theorem r1_1_x : yes (run [(q0, n 1), (q1, n 1)] []) = true := by kernel_rfl
theorem r1_2_x : yes (run [(q0, n 1), (q1, n 2)] []) = true := by kernel_rfl
theorem r1_3_x : yes (run [(q0, n 1), (q1, n 3)] []) = true := by kernel_rfl
theorem r1_4_x : yes (run [(q0, n 1), (q1, n 4)] []) = true := by kernel_rfl
theorem r1_5_x : yes (run [(q0, n 1), (q1, n 5)] []) = true := by kernel_rfl
theorem r1_6_x : yes (run [(q0, n 1), (q1, n 6)] []) = true := by kernel_rfl
theorem r1_7_x : yes (run [(q0, n 1), (q1, n 7)] []) = true := by kernel_rfl
theorem r2_x_x : yes (run [(q0, n 2)] []) = true := by kernel_rfl
theorem r3_0_x : yes (run [(q0, n 3), (q1, n 0)] []) = true := by kernel_rfl
theorem r3_1_x : yes (run [(q0, n 3), (q1, n 1)] []) = true := by kernel_rfl
theorem r3_2_x : yes (run [(q0, n 3), (q1, n 2)] []) = true := by kernel_rfl
theorem r3_3_x : yes (run [(q0, n 3), (q1, n 3)] []) = true := by kernel_rfl
theorem r3_4_x : yes (run [(q0, n 3), (q1, n 4)] []) = true := by kernel_rfl
theorem r3_5_x : yes (run [(q0, n 3), (q1, n 5)] []) = true := by kernel_rfl
theorem r3_6_x : yes (run [(q0, n 3), (q1, n 6)] []) = true := by kernel_rfl
theorem r3_7_x : yes (run [(q0, n 3), (q1, n 7)] []) = true := by kernel_rfl
theorem r4_0_x : yes (run [(q0, n 4), (q1, n 0)] []) = true := by kernel_rfl
theorem r4_1_x : yes (run [(q0, n 4), (q1, n 1)] []) = true := by kernel_rfl
theorem r4_2_x : yes (run [(q0, n 4), (q1, n 2)] []) = true := by kernel_rfl
theorem r4_3_x : yes (run [(q0, n 4), (q1, n 3)] []) = true := by kernel_rfl
theorem r4_4_x : yes (run [(q0, n 4), (q1, n 4)] []) = true := by kernel_rfl
theorem r4_5_x : yes (run [(q0, n 4), (q1, n 5)] []) = true := by kernel_rfl
theorem r4_6_x : yes (run [(q0, n 4), (q1, n 6)] []) = true := by kernel_rfl
theorem r4_7_x : yes (run [(q0, n 4), (q1, n 7)] []) = true := by kernel_rfl
theorem r5_x_x : yes (run [(q0, n 5)] []) = true := by kernel_rfl
theorem r6_x_x : yes (run [(q0, n 6)] []) = true := by kernel_rfl
theorem r7_x_x : yes (run [(q0, n 7)] []) = true := by kernel_rfl
theorem r8_0_x : yes (run [(q0, n 8), (q1, n 0)] []) = true := by kernel_rfl
theorem r8_1_x : yes (run [(q0, n 8), (q1, n 1)] []) = true := by kernel_rfl
theorem r8_2_x : yes (run [(q0, n 8), (q1, n 2)] []) = true := by kernel_rfl
theorem r8_3_x : yes (run [(q0, n 8), (q1, n 3)] []) = true := by kernel_rfl
theorem r8_4_x : yes (run [(q0, n 8), (q1, n 4)] []) = true := by kernel_rfl
theorem r8_5_x : yes (run [(q0, n 8), (q1, n 5)] []) = true := by kernel_rfl
theorem r8_6_x : yes (run [(q0, n 8), (q1, n 6)] []) = true := by kernel_rfl
theorem r8_7_x : yes (run [(q0, n 8), (q1, n 7)] []) = true := by kernel_rfl
theorem r9_0_x : yes (run [(q0, n 9), (q1, n 0)] []) = true := by kernel_rfl
theorem r9_1_x : yes (run [(q0, n 9), (q1, n 1)] []) = true := by kernel_rfl
theorem r9_2_x : yes (run [(q0, n 9), (q1, n 2)] []) = true := by kernel_rfl
theorem r9_3_x : yes (run [(q0, n 9), (q1, n 3)] []) = true := by kernel_rfl
theorem r9_4_x : yes (run [(q0, n 9), (q1, n 4)] []) = true := by kernel_rfl
theorem r9_5_x : yes (run [(q0, n 9), (q1, n 5)] []) = true := by kernel_rfl
theorem r9_6_x : yes (run [(q0, n 9), (q1, n 6)] []) = true := by kernel_rfl
theorem r9_7_x : yes (run [(q0, n 9), (q1, n 7)] []) = true := by kernel_rfl
theorem r10_0_x : yes (run [(q0, n 10), (q1, n 0)] []) = true := by kernel_rfl
theorem r10_1_x : yes (run [(q0, n 10), (q1, n 1)] []) = true := by kernel_rfl
theorem r10_2_x : yes (run [(q0, n 10), (q1, n 2)] []) = true := by kernel_rfl
theorem r10_3_x : yes (run [(q0, n 10), (q1, n 3)] []) = true := by kernel_rfl
theorem r10_4_x : yes (run [(q0, n 10), (q1, n 4)] []) = true := by kernel_rfl
theorem r10_5_x : yes (run [(q0, n 10), (q1, n 5)] []) = true := by kernel_rfl
theorem r10_6_x : yes (run [(q0, n 10), (q1, n 6)] []) = true := by kernel_rfl
theorem r10_7_x : yes (run [(q0, n 10), (q1, n 7)] []) = true := by kernel_rfl
theorem r11_0_x : yes (run [(q0, n 11), (q1, n 0)] []) = true := by kernel_rfl
theorem r11_1_x : yes (run [(q0, n 11), (q1, n 1)] []) = true := by kernel_rfl
theorem r11_2_x : yes (run [(q0, n 11), (q1, n 2)] []) = true := by kernel_rfl
theorem r11_3_x : yes (run [(q0, n 11), (q1, n 3)] []) = true := by kernel_rfl
theorem r11_4_x : yes (run [(q0, n 11), (q1, n 4)] []) = true := by kernel_rfl
theorem r11_5_x : yes (run [(q0, n 11), (q1, n 5)] []) = true := by kernel_rfl
theorem r11_6_x : yes (run [(q0, n 11), (q1, n 6)] []) = true := by kernel_rfl
theorem r11_7_x : yes (run [(q0, n 11), (q1, n 7)] []) = true := by kernel_rfl
theorem r12_0_x : yes (run [(q0, n 12), (q1, n 0)] []) = true := by kernel_rfl
theorem r12_1_x : yes (run [(q0, n 12), (q1, n 1)] []) = true := by kernel_rfl
theorem r12_2_x : yes (run [(q0, n 12), (q1, n 2)] []) = true := by kernel_rfl
theorem r12_3_x : yes (run [(q0, n 12), (q1, n 3)] []) = true := by kernel_rfl
theorem r12_4_x : yes (run [(q0, n 12), (q1, n 4)] []) = true := by kernel_rfl
theorem r12_5_x : yes (run [(q0, n 12), (q1, n 5)] []) = true := by kernel_rfl
theorem r12_6_x : yes (run [(q0, n 12), (q1, n 6)] []) = true := by kernel_rfl
theorem r12_7_x : yes (run [(q0, n 12), (q1, n 7)] []) = true := by kernel_rfl
theorem r13_0_x : yes (run [(q0, n 13), (q1, n 0)] []) = true := by kernel_rfl
theorem r13_1_x : yes (run [(q0, n 13), (q1, n 1)] []) = true := by kernel_rfl
theorem r13_2_x : yes (run [(q0, n 13), (q1, n 2)] []) = true := by kernel_rfl
end Go.Proofs.YtnegdimhejldfaaGreatDoor.codeOperands
