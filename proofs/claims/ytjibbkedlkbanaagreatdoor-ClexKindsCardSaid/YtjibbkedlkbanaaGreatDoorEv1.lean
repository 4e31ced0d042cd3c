/- The machine's run, input by input (2 of 4). -/
import Derived.Test.YtjibbkedlkbanaaGreatDoorSimK
set_option maxRecDepth 1000000
namespace Go.Proofs.YtjibbkedlkbanaaGreatDoorX
open Go.Proofs.YtjibbkedlkbanaaGreatDoorSim
theorem k1 : isTrue (call 3 [.int .i64 (Int.ofNat 1)]) = true := by kernel_rfl
theorem k5 : isTrue (call 3 [.int .i64 (Int.ofNat 5)]) = true := by kernel_rfl
theorem k9 : isTrue (call 3 [.int .i64 (Int.ofNat 9)]) = true := by kernel_rfl
theorem k13 : isTrue (call 3 [.int .i64 (Int.ofNat 13)]) = true := by kernel_rfl
theorem k17 : isTrue (call 3 [.int .i64 (Int.ofNat 17)]) = true := by kernel_rfl
theorem k21 : isTrue (call 3 [.int .i64 (Int.ofNat 21)]) = true := by kernel_rfl
theorem k25 : isTrue (call 3 [.int .i64 (Int.ofNat 25)]) = true := by kernel_rfl
theorem k29 : isTrue (call 3 [.int .i64 (Int.ofNat 29)]) = true := by kernel_rfl
theorem k33 : isTrue (call 3 [.int .i64 (Int.ofNat 33)]) = true := by kernel_rfl
theorem k37 : isTrue (call 3 [.int .i64 (Int.ofNat 37)]) = true := by kernel_rfl
theorem k41 : isTrue (call 3 [.int .i64 (Int.ofNat 41)]) = true := by kernel_rfl
theorem k45 : isTrue (call 3 [.int .i64 (Int.ofNat 45)]) = true := by kernel_rfl
theorem k49 : isTrue (call 3 [.int .i64 (Int.ofNat 49)]) = true := by kernel_rfl
theorem kbig (m : Nat) : isTrue (call 3 [.int .i64 (Int.ofNat (m + 52))]) = true := by kernel_rfl
end Go.Proofs.YtjibbkedlkbanaaGreatDoorX
