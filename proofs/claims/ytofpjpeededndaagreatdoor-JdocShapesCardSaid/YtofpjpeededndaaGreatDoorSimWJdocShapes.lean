/- The law JdocShapes answers true at every whole number: input by input in the machine, and outside. -/
import Derived.Test.YtofpjpeededndaaGreatDoorEv0
import Derived.Test.YtofpjpeededndaaGreatDoorEv1
import Derived.Test.YtofpjpeededndaaGreatDoorEv2
import Derived.Test.YtofpjpeededndaaGreatDoorEv3
import Derived.Test.YtofpjpeededndaaGreatDoorEv4
import Derived.Test.YtofpjpeededndaaGreatDoorEv5
import Derived.Test.YtofpjpeededndaaGreatDoorEv6
import Derived.Test.YtofpjpeededndaaGreatDoorEv7
import Derived.Test.YtofpjpeededndaaGreatDoorEv8
namespace Go.Proofs.YtofpjpeededndaaGreatDoor.P
open Go.RowKit Go.Proofs.YtofpjpeededndaaGreatDoorX Go.Proofs.YtofpjpeededndaaGreatDoorSim
theorem l12_JdocShapes.within (n : Nat) (h : n < 9) : isTrue (call 4 [.int .i64 (Int.ofNat n)]) = true := by
  match n, h with
  | 0, _ => exact k0
  | 1, _ => exact k1
  | 2, _ => exact k2
  | 3, _ => exact k3
  | 4, _ => exact k4
  | 5, _ => exact k5
  | 6, _ => exact k6
  | 7, _ => exact k7
  | 8, _ => exact k8
  | n + 9, h => exact absurd h (by omega)
theorem l12_JdocShapes.all (a : Int) : isTrue (call 4 [.int .i64 a]) = true := by
  cases a with
  | negSucc m => exact kneg m
  | ofNat n =>
    by_cases h : n < 9
    · exact l12_JdocShapes.within n h
    · obtain ⟨m, rfl⟩ : ∃ m, n = m + 9 := ⟨n - 9, by omega⟩
      exact kbig m
theorem l12_JdocShapes.walk (P : True) (a0 : Int) (w : World) (w0 : (Lit.int .i64 a0).wf = true) (hL : LaidW w) :
    Calls Tryz.prog 4 #[.int .i64 a0] w fun e w' => e = .returned (.bool true) ∧ Below w.heap.size w w' :=
  call_true hL (fun ρ => by simp [VRs, VR]) (l12_JdocShapes.all a0)
end Go.Proofs.YtofpjpeededndaaGreatDoor.P
