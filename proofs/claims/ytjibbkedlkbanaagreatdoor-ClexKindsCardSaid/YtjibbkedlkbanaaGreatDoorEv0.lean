/- The machine's run, input by input (1 of 4). -/
import Derived.Test.YtjibbkedlkbanaaGreatDoorSimK
set_option maxRecDepth 1000000
namespace Go.Proofs.YtjibbkedlkbanaaGreatDoorX
open Go.Proofs.YtjibbkedlkbanaaGreatDoorSim
theorem k0 : isTrue (call 3 [.int .i64 (Int.ofNat 0)]) = true := by kernel_rfl
theorem k4 : isTrue (call 3 [.int .i64 (Int.ofNat 4)]) = true := by kernel_rfl
theorem k8 : isTrue (call 3 [.int .i64 (Int.ofNat 8)]) = true := by kernel_rfl
theorem k12 : isTrue (call 3 [.int .i64 (Int.ofNat 12)]) = true := by kernel_rfl
theorem k16 : isTrue (call 3 [.int .i64 (Int.ofNat 16)]) = true := by kernel_rfl
theorem k20 : isTrue (call 3 [.int .i64 (Int.ofNat 20)]) = true := by kernel_rfl
theorem k24 : isTrue (call 3 [.int .i64 (Int.ofNat 24)]) = true := by kernel_rfl
theorem k28 : isTrue (call 3 [.int .i64 (Int.ofNat 28)]) = true := by kernel_rfl
theorem k32 : isTrue (call 3 [.int .i64 (Int.ofNat 32)]) = true := by kernel_rfl
theorem k36 : isTrue (call 3 [.int .i64 (Int.ofNat 36)]) = true := by kernel_rfl
theorem k40 : isTrue (call 3 [.int .i64 (Int.ofNat 40)]) = true := by kernel_rfl
theorem k44 : isTrue (call 3 [.int .i64 (Int.ofNat 44)]) = true := by kernel_rfl
theorem k48 : isTrue (call 3 [.int .i64 (Int.ofNat 48)]) = true := by kernel_rfl
theorem kneg (m : Nat) : isTrue (call 3 [.int .i64 (Int.negSucc m)]) = true := by kernel_rfl
end Go.Proofs.YtjibbkedlkbanaaGreatDoorX
