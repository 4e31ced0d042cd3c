/- The machine's run, input by input (4 of 9). -/
import Derived.Test.YtofpjpeededndaaGreatDoorSimK
set_option maxRecDepth 1000000
namespace Go.Proofs.YtofpjpeededndaaGreatDoorX
open Go.Proofs.YtofpjpeededndaaGreatDoorSim
private theorem band {a b : Bool} (h : (a && b) = true) : a = true ∧ b = true := by simpa using h
theorem kall3 : (isTrue (call 4 [.int .i64 (Int.ofNat 3)])) = true := by kernel_rfl
theorem k3 : isTrue (call 4 [.int .i64 (Int.ofNat 3)]) = true := kall3
end Go.Proofs.YtofpjpeededndaaGreatDoorX
