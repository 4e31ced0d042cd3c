/- The machine's run, input by input (1 of 9). -/
import Derived.Test.YtofpjpeededndaaGreatDoorSimK
set_option maxRecDepth 1000000
namespace Go.Proofs.YtofpjpeededndaaGreatDoorX
open Go.Proofs.YtofpjpeededndaaGreatDoorSim
private theorem band {a b : Bool} (h : (a && b) = true) : a = true ∧ b = true := by simpa using h
theorem kall0 : (isTrue (call 4 [.int .i64 (Int.ofNat 0)])) = true := by kernel_rfl
theorem k0 : isTrue (call 4 [.int .i64 (Int.ofNat 0)]) = true := kall0
theorem kneg (m : Nat) : isTrue (call 4 [.int .i64 (Int.negSucc m)]) = true := by kernel_rfl
end Go.Proofs.YtofpjpeededndaaGreatDoorX
