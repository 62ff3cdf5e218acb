/- Runs of gneiss/gneisslaw21.ModelStacks. -/
import Derived.Test.YtfedjkcigdgcoaaGreatDoorModelStacksR
namespace Go.Proofs.YtfedjkcigdgcoaaGreatDoor.modelStacks
open Go Go.Proofs Go.Ai
theorem r1048576to134217727_64to8191 : yes (run [] [(.conv .i32 (.var 0), (.ofNat (nat_lit 1048576)), (.ofNat (nat_lit 134217727))), (.conv .i32 (.var 1), (.ofNat (nat_lit 64)), (.ofNat (nat_lit 8191)))]) = true := by kernel_rfl
theorem r1048576to134217727_8192to1048575 : yes (run [] [(.conv .i32 (.var 0), (.ofNat (nat_lit 1048576)), (.ofNat (nat_lit 134217727))), (.conv .i32 (.var 1), (.ofNat (nat_lit 8192)), (.ofNat (nat_lit 1048575)))]) = true := by kernel_rfl
theorem r1048576to134217727_1048576to134217727 : yes (run [] [(.conv .i32 (.var 0), (.ofNat (nat_lit 1048576)), (.ofNat (nat_lit 134217727))), (.conv .i32 (.var 1), (.ofNat (nat_lit 1048576)), (.ofNat (nat_lit 134217727)))]) = true := by kernel_rfl
theorem r1048576to134217727_134217728to2147483647 : yes (run [] [(.conv .i32 (.var 0), (.ofNat (nat_lit 1048576)), (.ofNat (nat_lit 134217727))), (.conv .i32 (.var 1), (.ofNat (nat_lit 134217728)), (.ofNat (nat_lit 2147483647)))]) = true := by kernel_rfl
theorem r134217728to2147483647_m2147483648tom134217729 : yes (run [] [(.conv .i32 (.var 0), (.ofNat (nat_lit 134217728)), (.ofNat (nat_lit 2147483647))), (.conv .i32 (.var 1), (.negSucc (nat_lit 2147483647)), (.negSucc (nat_lit 134217728)))]) = true := by kernel_rfl
theorem r134217728to2147483647_m134217728tom1048577 : yes (run [] [(.conv .i32 (.var 0), (.ofNat (nat_lit 134217728)), (.ofNat (nat_lit 2147483647))), (.conv .i32 (.var 1), (.negSucc (nat_lit 134217727)), (.negSucc (nat_lit 1048576)))]) = true := by kernel_rfl
theorem r134217728to2147483647_m1048576tom8193 : yes (run [] [(.conv .i32 (.var 0), (.ofNat (nat_lit 134217728)), (.ofNat (nat_lit 2147483647))), (.conv .i32 (.var 1), (.negSucc (nat_lit 1048575)), (.negSucc (nat_lit 8192)))]) = true := by kernel_rfl
theorem r134217728to2147483647_m8192tom65 : yes (run [] [(.conv .i32 (.var 0), (.ofNat (nat_lit 134217728)), (.ofNat (nat_lit 2147483647))), (.conv .i32 (.var 1), (.negSucc (nat_lit 8191)), (.negSucc (nat_lit 64)))]) = true := by kernel_rfl
theorem r134217728to2147483647_m64tom1 : yes (run [] [(.conv .i32 (.var 0), (.ofNat (nat_lit 134217728)), (.ofNat (nat_lit 2147483647))), (.conv .i32 (.var 1), (.negSucc (nat_lit 63)), (.negSucc (nat_lit 0)))]) = true := by kernel_rfl
theorem r134217728to2147483647_0to10 : yes (run [] [(.conv .i32 (.var 0), (.ofNat (nat_lit 134217728)), (.ofNat (nat_lit 2147483647))), (.conv .i32 (.var 1), (.ofNat (nat_lit 0)), (.ofNat (nat_lit 10)))]) = true := by kernel_rfl
theorem r134217728to2147483647_11 : yes (run [(.conv .i32 (.var 1), .lit (.ofNat (nat_lit 11)))] [(.conv .i32 (.var 0), (.ofNat (nat_lit 134217728)), (.ofNat (nat_lit 2147483647)))]) = true := by kernel_rfl
theorem r134217728to2147483647_12to63 : yes (run [] [(.conv .i32 (.var 0), (.ofNat (nat_lit 134217728)), (.ofNat (nat_lit 2147483647))), (.conv .i32 (.var 1), (.ofNat (nat_lit 12)), (.ofNat (nat_lit 63)))]) = true := by kernel_rfl
theorem r134217728to2147483647_64to8191 : yes (run [] [(.conv .i32 (.var 0), (.ofNat (nat_lit 134217728)), (.ofNat (nat_lit 2147483647))), (.conv .i32 (.var 1), (.ofNat (nat_lit 64)), (.ofNat (nat_lit 8191)))]) = true := by kernel_rfl
theorem r134217728to2147483647_8192to1048575 : yes (run [] [(.conv .i32 (.var 0), (.ofNat (nat_lit 134217728)), (.ofNat (nat_lit 2147483647))), (.conv .i32 (.var 1), (.ofNat (nat_lit 8192)), (.ofNat (nat_lit 1048575)))]) = true := by kernel_rfl
theorem r134217728to2147483647_1048576to134217727 : yes (run [] [(.conv .i32 (.var 0), (.ofNat (nat_lit 134217728)), (.ofNat (nat_lit 2147483647))), (.conv .i32 (.var 1), (.ofNat (nat_lit 1048576)), (.ofNat (nat_lit 134217727)))]) = true := by kernel_rfl
theorem r134217728to2147483647_134217728to2147483647 : yes (run [] [(.conv .i32 (.var 0), (.ofNat (nat_lit 134217728)), (.ofNat (nat_lit 2147483647))), (.conv .i32 (.var 1), (.ofNat (nat_lit 134217728)), (.ofNat (nat_lit 2147483647)))]) = true := by kernel_rfl
end Go.Proofs.YtfedjkcigdgcoaaGreatDoor.modelStacks
