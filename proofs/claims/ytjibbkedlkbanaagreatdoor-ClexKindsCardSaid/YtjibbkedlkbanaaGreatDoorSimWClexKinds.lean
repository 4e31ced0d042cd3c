/- The law ClexKinds answers true at every whole number: input by input in the machine, and outside. -/
import Derived.Test.YtjibbkedlkbanaaGreatDoorEv0
import Derived.Test.YtjibbkedlkbanaaGreatDoorEv1
import Derived.Test.YtjibbkedlkbanaaGreatDoorEv2
import Derived.Test.YtjibbkedlkbanaaGreatDoorEv3
namespace Go.Proofs.YtjibbkedlkbanaaGreatDoor.P
open Go.RowKit Go.Proofs.YtjibbkedlkbanaaGreatDoorX Go.Proofs.YtjibbkedlkbanaaGreatDoorSim
theorem l15_ClexKinds.within (n : Nat) (h : n < 52) : isTrue (call 3 [.int .i64 (Int.ofNat n)]) = true := by
  match n, h with
  | 0, _ => exact k0
  | 1, _ => exact k1
  | 2, _ => exact k2
  | 3, _ => exact k3
  | 4, _ => exact k4
  | 5, _ => exact k5
  | 6, _ => exact k6
  | 7, _ => exact k7
  | 8, _ => exact k8
  | 9, _ => exact k9
  | 10, _ => exact k10
  | 11, _ => exact k11
  | 12, _ => exact k12
  | 13, _ => exact k13
  | 14, _ => exact k14
  | 15, _ => exact k15
  | 16, _ => exact k16
  | 17, _ => exact k17
  | 18, _ => exact k18
  | 19, _ => exact k19
  | 20, _ => exact k20
  | 21, _ => exact k21
  | 22, _ => exact k22
  | 23, _ => exact k23
  | 24, _ => exact k24
  | 25, _ => exact k25
  | 26, _ => exact k26
  | 27, _ => exact k27
  | 28, _ => exact k28
  | 29, _ => exact k29
  | 30, _ => exact k30
  | 31, _ => exact k31
  | 32, _ => exact k32
  | 33, _ => exact k33
  | 34, _ => exact k34
  | 35, _ => exact k35
  | 36, _ => exact k36
  | 37, _ => exact k37
  | 38, _ => exact k38
  | 39, _ => exact k39
  | 40, _ => exact k40
  | 41, _ => exact k41
  | 42, _ => exact k42
  | 43, _ => exact k43
  | 44, _ => exact k44
  | 45, _ => exact k45
  | 46, _ => exact k46
  | 47, _ => exact k47
  | 48, _ => exact k48
  | 49, _ => exact k49
  | 50, _ => exact k50
  | 51, _ => exact k51
  | n + 52, h => exact absurd h (by omega)
theorem l15_ClexKinds.all (a : Int) : isTrue (call 3 [.int .i64 a]) = true := by
  cases a with
  | negSucc m => exact kneg m
  | ofNat n =>
    by_cases h : n < 52
    · exact l15_ClexKinds.within n h
    · obtain ⟨m, rfl⟩ : ∃ m, n = m + 52 := ⟨n - 52, by omega⟩
      exact kbig m
theorem l15_ClexKinds.walk (P : True) (a0 : Int) (w : World) (w0 : (Lit.int .i64 a0).wf = true) (hL : LaidW w) :
    Calls Tryz.prog 3 #[.int .i64 a0] w fun e w' => e = .returned (.bool true) ∧ Below w.heap.size w w' :=
  call_true hL (fun ρ => by simp [VRs, VR]) (l15_ClexKinds.all a0)
end Go.Proofs.YtjibbkedlkbanaaGreatDoor.P
