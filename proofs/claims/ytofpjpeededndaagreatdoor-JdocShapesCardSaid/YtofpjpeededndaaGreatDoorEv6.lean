/- The machine's run, input by input (7 of 9). -/
import Derived.Test.YtofpjpeededndaaGreatDoorSimK
set_option maxRecDepth 1000000
namespace Go.Proofs.YtofpjpeededndaaGreatDoorX
open Go.Proofs.YtofpjpeededndaaGreatDoorSim
private theorem band {a b : Bool} (h : (a && b) = true) : a = true ∧ b = true := by simpa using h
theorem kall6 : (isTrue (call 4 [.int .i64 (Int.ofNat 6)])) = true := by kernel_rfl
theorem k6 : isTrue (call 4 [.int .i64 (Int.ofNat 6)]) = true := kall6
end Go.Proofs.YtofpjpeededndaaGreatDoorX
