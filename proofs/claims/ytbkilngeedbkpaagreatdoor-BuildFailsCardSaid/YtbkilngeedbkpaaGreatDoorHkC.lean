/-
  More functions are met by contracts, by their answers and by what they told in small heaps. No condition.
-/
import Derived.Test.YtbkilngeedbkpaaGreatDoorHk
import Derived.Test.YtbkilngeedbkpaaGreatDoorXMxX
import Derived.Test.YtbkilngeedbkpaaGreatDoorXMxAG
import Derived.Test.YtbkilngeedbkpaaGreatDoorXMxAK
open Go Go.Mx
namespace Go.Proofs.YtbkilngeedbkpaaGreatDoor
set_option maxRecDepth 1000000
noncomputable section
def M : Nat := 115792089237316195423570985008687907853259350841832741037502882226617974783999
theorem mIn : mskIn 97 122 M = true := by kernel_rfl
theorem mOut : mskOut 97 122 M = true := by kernel_rfl
def R00 : CK := run Tryz.prog 12 (hkL hkB) 100000
theorem r00 : CKok Tryz.prog 12 R00 := run_sound follows nameOK hkBok 100000
theorem hpBody : ∃ c, Tryz.f54.body = some c := ⟨_, rfl⟩
theorem hp : HookOk Tryz.prog 12 54 (hkHasPrefix (hkRun R00 54)) := by
  obtain ⟨c, hb⟩ := hpBody
  exact hkHasPrefix_ok nameOK (fn := Tryz.f54) (by kernel_rfl) hb (hkRun_ok r00) fun s p w => Tryz.strings_HasPrefix s p w
def hkP : List (Nat × HookF) := (54, hkHasPrefix (hkRun R00 54)) :: hkB
theorem hkPok : HKok Tryz.prog 12 (hkL hkP) := hkL_cons hp hkBok
def R0 : CK := run Tryz.prog 12 (hkL hkP) 100000
theorem r0 : CKok Tryz.prog 12 R0 := run_sound follows nameOK hkPok 100000
def hkD : List (Nat × HookF) := (231, hkNF R0 231) :: hkP
theorem hkDok : HKok Tryz.prog 12 (hkL hkD) := hkL_cons (hkNF_ok r0) hkPok
def RD : CK := run Tryz.prog 12 (hkL hkD) 100000
theorem rd : CKok Tryz.prog 12 RD := run_sound follows nameOK hkDok 100000
def fA0 : V := .cons (.s [105, 102, 32, 116, 104, 101, 110, 32, 101, 108, 105, 102, 32, 101, 108, 115, 101, 32, 102, 105, 32, 119, 104, 105, 108, 101, 32, 117, 110, 116, 105, 108, 32, 100, 111, 32, 100, 111, 110, 101, 32, 102, 111, 114, 32, 105, 110, 32, 99, 97, 115, 101, 32, 101, 115, 97, 99, 32, 123, 32, 125, 32, 33]) .nil
def fC0 : V := (.cons (.s [105, 102]) (.cons (.s [116, 104, 101, 110]) (.cons (.s [101, 108, 105, 102]) (.cons (.s [101, 108, 115, 101]) (.cons (.s [102, 105]) (.cons (.s [119, 104, 105, 108, 101]) (.cons (.s [117, 110, 116, 105, 108]) (.cons (.s [100, 111]) (.cons (.s [100, 111, 110, 101]) (.cons (.s [102, 111, 114]) (.cons (.s [105, 110]) (.cons (.s [99, 97, 115, 101]) (.cons (.s [101, 115, 97, 99]) (.cons (.s [123]) (.cons (.s [125]) (.cons (.s [33]) .nil))))))))))))))))
theorem fr0 (τ : Nat → Nat) : mkTK τ tbl .leaf (fun h0 => R0 298 fA0 h0 12 (freshK 16 1 9 fC0) (fun _ _ _ => false)) = true := by kernel_rfl
def hkFi0 : HookF := hkFresh tbl fA0 fC0 16 1 9 (hkRun R0 298)
theorem fi0 : HookOk Tryz.prog 12 298 hkFi0 := hkFresh_ok r0 (hkRun_ok r0) tblIn (fun ρ ρ' vs h => by simpa only [fA0, VRs, VR] using h) (by kernel_rfl) fr0
def fA1 : V := .cons (.s [105, 102, 32, 119, 104, 105, 108, 101, 32, 117, 110, 116, 105, 108, 32, 102, 111, 114, 32, 99, 97, 115, 101, 32, 123]) .nil
def fC1 : V := (.cons (.s [105, 102]) (.cons (.s [119, 104, 105, 108, 101]) (.cons (.s [117, 110, 116, 105, 108]) (.cons (.s [102, 111, 114]) (.cons (.s [99, 97, 115, 101]) (.cons (.s [123]) .nil))))))
theorem fr1 (τ : Nat → Nat) : mkTK τ tbl .leaf (fun h0 => R0 298 fA1 h0 12 (freshK 6 1 9 fC1) (fun _ _ _ => false)) = true := by kernel_rfl
def hkFi1 : HookF := hkFresh tbl fA1 fC1 6 1 9 (hkFi0)
theorem fi1 : HookOk Tryz.prog 12 298 hkFi1 := hkFresh_ok r0 (fi0) tblIn (fun ρ ρ' vs h => by simpa only [fA1, VRs, VR] using h) (by kernel_rfl) fr1
def fA2 : V := .cons (.s [60, 32, 62, 32, 62, 62, 32, 50, 62, 32, 50, 62, 62]) .nil
def fC2 : V := (.cons (.s [60]) (.cons (.s [62]) (.cons (.s [62, 62]) (.cons (.s [50, 62]) (.cons (.s [50, 62, 62]) .nil)))))
theorem fr2 (τ : Nat → Nat) : mkTK τ tbl .leaf (fun h0 => R0 298 fA2 h0 12 (freshK 5 1 9 fC2) (fun _ _ _ => false)) = true := by kernel_rfl
def hkFi2 : HookF := hkFresh tbl fA2 fC2 5 1 9 (hkFi1)
theorem fi2 : HookOk Tryz.prog 12 298 hkFi2 := hkFresh_ok r0 (fi1) tblIn (fun ρ ρ' vs h => by simpa only [fA2, VRs, VR] using h) (by kernel_rfl) fr2
end
end Go.Proofs.YtbkilngeedbkpaaGreatDoor
