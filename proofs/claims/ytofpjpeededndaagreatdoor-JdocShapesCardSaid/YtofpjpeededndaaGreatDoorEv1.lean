/- The machine's run, input by input (2 of 9). -/
import Derived.Test.YtofpjpeededndaaGreatDoorSimK
set_option maxRecDepth 1000000
namespace Go.Proofs.YtofpjpeededndaaGreatDoorX
open Go.Proofs.YtofpjpeededndaaGreatDoorSim
private theorem band {a b : Bool} (h : (a && b) = true) : a = true ∧ b = true := by simpa using h
theorem kall1 : (isTrue (call 4 [.int .i64 (Int.ofNat 1)])) = true := by kernel_rfl
theorem k1 : isTrue (call 4 [.int .i64 (Int.ofNat 1)]) = true := kall1
theorem kbig (m : Nat) : isTrue (call 4 [.int .i64 (Int.ofNat (m + 9))]) = true := by kernel_rfl
end Go.Proofs.YtofpjpeededndaaGreatDoorX
