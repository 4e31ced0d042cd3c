/- The machine's run, input by input (4 of 4). -/
import Derived.Test.YtjibbkedlkbanaaGreatDoorSimK
set_option maxRecDepth 1000000
namespace Go.Proofs.YtjibbkedlkbanaaGreatDoorX
open Go.Proofs.YtjibbkedlkbanaaGreatDoorSim
theorem k3 : isTrue (call 3 [.int .i64 (Int.ofNat 3)]) = true := by kernel_rfl
theorem k7 : isTrue (call 3 [.int .i64 (Int.ofNat 7)]) = true := by kernel_rfl
theorem k11 : isTrue (call 3 [.int .i64 (Int.ofNat 11)]) = true := by kernel_rfl
theorem k15 : isTrue (call 3 [.int .i64 (Int.ofNat 15)]) = true := by kernel_rfl
theorem k19 : isTrue (call 3 [.int .i64 (Int.ofNat 19)]) = true := by kernel_rfl
theorem k23 : isTrue (call 3 [.int .i64 (Int.ofNat 23)]) = true := by kernel_rfl
theorem k27 : isTrue (call 3 [.int .i64 (Int.ofNat 27)]) = true := by kernel_rfl
theorem k31 : isTrue (call 3 [.int .i64 (Int.ofNat 31)]) = true := by kernel_rfl
theorem k35 : isTrue (call 3 [.int .i64 (Int.ofNat 35)]) = true := by kernel_rfl
theorem k39 : isTrue (call 3 [.int .i64 (Int.ofNat 39)]) = true := by kernel_rfl
theorem k43 : isTrue (call 3 [.int .i64 (Int.ofNat 43)]) = true := by kernel_rfl
theorem k47 : isTrue (call 3 [.int .i64 (Int.ofNat 47)]) = true := by kernel_rfl
theorem k51 : isTrue (call 3 [.int .i64 (Int.ofNat 51)]) = true := by kernel_rfl
end Go.Proofs.YtjibbkedlkbanaaGreatDoorX
