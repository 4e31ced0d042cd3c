/- The machine's run, input by input (3 of 4). -/
import Derived.Test.YtjibbkedlkbanaaGreatDoorSimK
set_option maxRecDepth 1000000
namespace Go.Proofs.YtjibbkedlkbanaaGreatDoorX
open Go.Proofs.YtjibbkedlkbanaaGreatDoorSim
theorem k2 : isTrue (call 3 [.int .i64 (Int.ofNat 2)]) = true := by kernel_rfl
theorem k6 : isTrue (call 3 [.int .i64 (Int.ofNat 6)]) = true := by kernel_rfl
theorem k10 : isTrue (call 3 [.int .i64 (Int.ofNat 10)]) = true := by kernel_rfl
theorem k14 : isTrue (call 3 [.int .i64 (Int.ofNat 14)]) = true := by kernel_rfl
theorem k18 : isTrue (call 3 [.int .i64 (Int.ofNat 18)]) = true := by kernel_rfl
theorem k22 : isTrue (call 3 [.int .i64 (Int.ofNat 22)]) = true := by kernel_rfl
theorem k26 : isTrue (call 3 [.int .i64 (Int.ofNat 26)]) = true := by kernel_rfl
theorem k30 : isTrue (call 3 [.int .i64 (Int.ofNat 30)]) = true := by kernel_rfl
theorem k34 : isTrue (call 3 [.int .i64 (Int.ofNat 34)]) = true := by kernel_rfl
theorem k38 : isTrue (call 3 [.int .i64 (Int.ofNat 38)]) = true := by kernel_rfl
theorem k42 : isTrue (call 3 [.int .i64 (Int.ofNat 42)]) = true := by kernel_rfl
theorem k46 : isTrue (call 3 [.int .i64 (Int.ofNat 46)]) = true := by kernel_rfl
theorem k50 : isTrue (call 3 [.int .i64 (Int.ofNat 50)]) = true := by kernel_rfl
end Go.Proofs.YtjibbkedlkbanaaGreatDoorX
