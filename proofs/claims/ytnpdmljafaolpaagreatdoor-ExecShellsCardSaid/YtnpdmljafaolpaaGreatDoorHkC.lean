/-
  More functions are met by contracts, by their answers and by what they told in small heaps. No condition.
-/
import Derived.Test.YtnpdmljafaolpaaGreatDoorHk
import Derived.Test.YtnpdmljafaolpaaGreatDoorXMxX
import Derived.Test.YtnpdmljafaolpaaGreatDoorXMxAG
open Go Go.Mx
namespace Go.Proofs.YtnpdmljafaolpaaGreatDoor
set_option maxRecDepth 1000000
noncomputable section
def M : Nat := 115792089237316195423570985008687907853259350841832741037502882226617974783999
theorem mIn : mskIn 97 122 M = true := by kernel_rfl
theorem mOut : mskOut 97 122 M = true := by kernel_rfl
def R00 : CK := run Tryz.prog 12 (hkL hkB) 100000
theorem r00 : CKok Tryz.prog 12 R00 := run_sound follows nameOK hkBok 100000
theorem hpBody : ∃ c, Tryz.f49.body = some c := ⟨_, rfl⟩
theorem hp : HookOk Tryz.prog 12 49 (hkHasPrefix (hkRun R00 49)) := by
  obtain ⟨c, hb⟩ := hpBody
  exact hkHasPrefix_ok nameOK (fn := Tryz.f49) (by kernel_rfl) hb (hkRun_ok r00) fun s p w => Tryz.strings_HasPrefix s p w
def hkP : List (Nat × HookF) := (49, hkHasPrefix (hkRun R00 49)) :: hkB
theorem hkPok : HKok Tryz.prog 12 (hkL hkP) := hkL_cons hp hkBok
def R0 : CK := run Tryz.prog 12 (hkL hkP) 100000
theorem r0 : CKok Tryz.prog 12 R0 := run_sound follows nameOK hkPok 100000
def hkD : List (Nat × HookF) := (91, hkNF R0 91) :: hkP
theorem hkDok : HKok Tryz.prog 12 (hkL hkD) := hkL_cons (hkNF_ok r0) hkPok
def RD : CK := run Tryz.prog 12 (hkL hkD) 100000
theorem rd : CKok Tryz.prog 12 RD := run_sound follows nameOK hkDok 100000
theorem rs0 (τ : Nat → Nat) : mkTK τ tbl .leaf (fun h0 => run Tryz.prog 12 (hkL hkP) 100000 136 (.cons (.s [120, 61]) .nil) h0 72 (fun v _ _ => isB false v) (fun _ _ _ => false)) = true := by kernel_rfl
theorem rs1 (τ : Nat → Nat) : mkTK τ tbl .leaf (fun h0 => run Tryz.prog 12 (hkL hkP) 100000 136 (.cons (.s []) .nil) h0 72 (fun v _ _ => isB false v) (fun _ _ _ => false)) = true := by kernel_rfl
theorem rs2 (τ : Nat → Nat) : mkTK τ tbl .leaf (fun h0 => run Tryz.prog 12 (hkL hkP) 100000 136 (.cons (.s [120, 61, 111, 108, 100]) .nil) h0 72 (fun v _ _ => isB false v) (fun _ _ _ => false)) = true := by kernel_rfl
theorem rs3 (τ : Nat → Nat) : mkTK τ tbl .leaf (fun h0 => run Tryz.prog 12 (hkL hkP) 100000 136 (.cons (.s [99, 100]) .nil) h0 72 (fun v _ _ => isB false v) (fun _ _ _ => false)) = true := by kernel_rfl
theorem rs4 (τ : Nat → Nat) : mkTK τ tbl .leaf (fun h0 => run Tryz.prog 12 (hkL hkP) 100000 136 (.cons (.s [47, 100]) .nil) h0 72 (fun v _ _ => isB false v) (fun _ _ _ => false)) = true := by kernel_rfl
theorem rs5 (τ : Nat → Nat) : mkTK τ tbl .leaf (fun h0 => run Tryz.prog 12 (hkL hkP) 100000 136 (.cons (.s [101, 99, 104, 111]) .nil) h0 72 (fun v _ _ => isB false v) (fun _ _ _ => false)) = true := by kernel_rfl
theorem rs6 (τ : Nat → Nat) : mkTK τ tbl .leaf (fun h0 => run Tryz.prog 12 (hkL hkP) 100000 136 (.cons (.s [102]) .nil) h0 72 (fun v _ _ => isB false v) (fun _ _ _ => false)) = true := by kernel_rfl
theorem rs7 (τ : Nat → Nat) : mkTK τ tbl .leaf (fun h0 => run Tryz.prog 12 (hkL hkP) 100000 136 (.cons (.s [115, 101, 116]) .nil) h0 72 (fun v _ _ => isB false v) (fun _ _ _ => false)) = true := by kernel_rfl
theorem rs8 (τ : Nat → Nat) : mkTK τ tbl .leaf (fun h0 => run Tryz.prog 12 (hkL hkP) 100000 136 (.cons (.s [45, 101]) .nil) h0 72 (fun v _ _ => isB false v) (fun _ _ _ => false)) = true := by kernel_rfl
theorem rs9 (τ : Nat → Nat) : mkTK τ tbl .leaf (fun h0 => run Tryz.prog 12 (hkL hkP) 100000 136 (.cons (.s [112, 119, 100]) .nil) h0 72 (fun v _ _ => isB false v) (fun _ _ _ => false)) = true := by kernel_rfl
theorem rs10 (τ : Nat → Nat) : mkTK τ tbl .leaf (fun h0 => run Tryz.prog 12 (hkL hkP) 100000 136 (.cons (.s [102, 97, 108, 115, 101]) .nil) h0 72 (fun v _ _ => isB false v) (fun _ _ _ => false)) = true := by kernel_rfl
theorem rs11 (τ : Nat → Nat) : mkTK τ tbl .leaf (fun h0 => run Tryz.prog 12 (hkL hkP) 100000 136 (.cons (.s [99, 97, 116]) .nil) h0 72 (fun v _ _ => isB false v) (fun _ _ _ => false)) = true := by kernel_rfl
theorem rs12 (τ : Nat → Nat) : mkTK τ tbl .leaf (fun h0 => run Tryz.prog 12 (hkL hkP) 100000 136 (.cons (.s [47, 100, 47, 102]) .nil) h0 72 (fun v _ _ => isB false v) (fun _ _ _ => false)) = true := by kernel_rfl
theorem rs13 (τ : Nat → Nat) : mkTK τ tbl .leaf (fun h0 => run Tryz.prog 12 (hkL hkP) 100000 136 (.cons (.s [123]) .nil) h0 72 (fun v _ _ => isB true v) (fun _ _ _ => false)) = true := by kernel_rfl
theorem rs14 (τ : Nat → Nat) : mkTK τ tbl .leaf (fun h0 => run Tryz.prog 12 (hkL hkP) 100000 136 (.cons (.s [125]) .nil) h0 72 (fun v _ _ => isB true v) (fun _ _ _ => false)) = true := by kernel_rfl
theorem rs15 (τ : Nat → Nat) : mkTK τ tbl .leaf (fun h0 => run Tryz.prog 12 (hkL hkP) 100000 136 (.cons (.s [43, 101]) .nil) h0 72 (fun v _ _ => isB false v) (fun _ _ _ => false)) = true := by kernel_rfl
theorem rs16 (τ : Nat → Nat) : mkTK τ tbl .leaf (fun h0 => run Tryz.prog 12 (hkL hkP) 100000 136 (.cons (.s [40]) .nil) h0 72 (fun v _ _ => isB false v) (fun _ _ _ => false)) = true := by kernel_rfl
theorem rs17 (τ : Nat → Nat) : mkTK τ tbl .leaf (fun h0 => run Tryz.prog 12 (hkL hkP) 100000 136 (.cons (.s [41]) .nil) h0 72 (fun v _ _ => isB false v) (fun _ _ _ => false)) = true := by kernel_rfl
theorem rs18 (τ : Nat → Nat) : mkTK τ tbl .leaf (fun h0 => run Tryz.prog 12 (hkL hkP) 100000 136 (.cons (.s [59]) .nil) h0 72 (fun v _ _ => isB false v) (fun _ _ _ => false)) = true := by kernel_rfl
theorem rs19 (τ : Nat → Nat) : mkTK τ tbl .leaf (fun h0 => run Tryz.prog 12 (hkL hkP) 100000 136 (.cons (.s [62]) .nil) h0 72 (fun v _ _ => isB false v) (fun _ _ _ => false)) = true := by kernel_rfl
def hkQ20 : HookF := hkRun R0 136
theorem q20 : HookOk Tryz.prog 12 136 hkQ20 := hkRun_ok r0
def hkQ19 : HookF := memoA tbl (.s [62]) false hkQ20
theorem q19 : HookOk Tryz.prog 12 136 hkQ19 := memoA_ok follows nameOK hkPok (n := 100000) (N := 72) q20 tblIn (by kernel_rfl) (by kernel_rfl) rs19
def hkQ18 : HookF := memoA tbl (.s [59]) false hkQ19
theorem q18 : HookOk Tryz.prog 12 136 hkQ18 := memoA_ok follows nameOK hkPok (n := 100000) (N := 72) q19 tblIn (by kernel_rfl) (by kernel_rfl) rs18
def hkQ17 : HookF := memoA tbl (.s [41]) false hkQ18
theorem q17 : HookOk Tryz.prog 12 136 hkQ17 := memoA_ok follows nameOK hkPok (n := 100000) (N := 72) q18 tblIn (by kernel_rfl) (by kernel_rfl) rs17
def hkQ16 : HookF := memoA tbl (.s [40]) false hkQ17
theorem q16 : HookOk Tryz.prog 12 136 hkQ16 := memoA_ok follows nameOK hkPok (n := 100000) (N := 72) q17 tblIn (by kernel_rfl) (by kernel_rfl) rs16
def hkQ15 : HookF := memoA tbl (.s [43, 101]) false hkQ16
theorem q15 : HookOk Tryz.prog 12 136 hkQ15 := memoA_ok follows nameOK hkPok (n := 100000) (N := 72) q16 tblIn (by kernel_rfl) (by kernel_rfl) rs15
def hkQ14 : HookF := memoA tbl (.s [125]) true hkQ15
theorem q14 : HookOk Tryz.prog 12 136 hkQ14 := memoA_ok follows nameOK hkPok (n := 100000) (N := 72) q15 tblIn (by kernel_rfl) (by kernel_rfl) rs14
def hkQ13 : HookF := memoA tbl (.s [123]) true hkQ14
theorem q13 : HookOk Tryz.prog 12 136 hkQ13 := memoA_ok follows nameOK hkPok (n := 100000) (N := 72) q14 tblIn (by kernel_rfl) (by kernel_rfl) rs13
def hkQ12 : HookF := memoA tbl (.s [47, 100, 47, 102]) false hkQ13
theorem q12 : HookOk Tryz.prog 12 136 hkQ12 := memoA_ok follows nameOK hkPok (n := 100000) (N := 72) q13 tblIn (by kernel_rfl) (by kernel_rfl) rs12
def hkQ11 : HookF := memoA tbl (.s [99, 97, 116]) false hkQ12
theorem q11 : HookOk Tryz.prog 12 136 hkQ11 := memoA_ok follows nameOK hkPok (n := 100000) (N := 72) q12 tblIn (by kernel_rfl) (by kernel_rfl) rs11
def hkQ10 : HookF := memoA tbl (.s [102, 97, 108, 115, 101]) false hkQ11
theorem q10 : HookOk Tryz.prog 12 136 hkQ10 := memoA_ok follows nameOK hkPok (n := 100000) (N := 72) q11 tblIn (by kernel_rfl) (by kernel_rfl) rs10
def hkQ9 : HookF := memoA tbl (.s [112, 119, 100]) false hkQ10
theorem q9 : HookOk Tryz.prog 12 136 hkQ9 := memoA_ok follows nameOK hkPok (n := 100000) (N := 72) q10 tblIn (by kernel_rfl) (by kernel_rfl) rs9
def hkQ8 : HookF := memoA tbl (.s [45, 101]) false hkQ9
theorem q8 : HookOk Tryz.prog 12 136 hkQ8 := memoA_ok follows nameOK hkPok (n := 100000) (N := 72) q9 tblIn (by kernel_rfl) (by kernel_rfl) rs8
def hkQ7 : HookF := memoA tbl (.s [115, 101, 116]) false hkQ8
theorem q7 : HookOk Tryz.prog 12 136 hkQ7 := memoA_ok follows nameOK hkPok (n := 100000) (N := 72) q8 tblIn (by kernel_rfl) (by kernel_rfl) rs7
def hkQ6 : HookF := memoA tbl (.s [102]) false hkQ7
theorem q6 : HookOk Tryz.prog 12 136 hkQ6 := memoA_ok follows nameOK hkPok (n := 100000) (N := 72) q7 tblIn (by kernel_rfl) (by kernel_rfl) rs6
def hkQ5 : HookF := memoA tbl (.s [101, 99, 104, 111]) false hkQ6
theorem q5 : HookOk Tryz.prog 12 136 hkQ5 := memoA_ok follows nameOK hkPok (n := 100000) (N := 72) q6 tblIn (by kernel_rfl) (by kernel_rfl) rs5
def hkQ4 : HookF := memoA tbl (.s [47, 100]) false hkQ5
theorem q4 : HookOk Tryz.prog 12 136 hkQ4 := memoA_ok follows nameOK hkPok (n := 100000) (N := 72) q5 tblIn (by kernel_rfl) (by kernel_rfl) rs4
def hkQ3 : HookF := memoA tbl (.s [99, 100]) false hkQ4
theorem q3 : HookOk Tryz.prog 12 136 hkQ3 := memoA_ok follows nameOK hkPok (n := 100000) (N := 72) q4 tblIn (by kernel_rfl) (by kernel_rfl) rs3
def hkQ2 : HookF := memoA tbl (.s [120, 61, 111, 108, 100]) false hkQ3
theorem q2 : HookOk Tryz.prog 12 136 hkQ2 := memoA_ok follows nameOK hkPok (n := 100000) (N := 72) q3 tblIn (by kernel_rfl) (by kernel_rfl) rs2
def hkQ1 : HookF := memoA tbl (.s []) false hkQ2
theorem q1 : HookOk Tryz.prog 12 136 hkQ1 := memoA_ok follows nameOK hkPok (n := 100000) (N := 72) q2 tblIn (by kernel_rfl) (by kernel_rfl) rs1
def hkQ0 : HookF := memoA tbl (.s [120, 61]) false hkQ1
theorem q0 : HookOk Tryz.prog 12 136 hkQ0 := memoA_ok follows nameOK hkPok (n := 100000) (N := 72) q1 tblIn (by kernel_rfl) (by kernel_rfl) rs0
theorem pkA0 (ty : Nat) (τ : Nat → Nat) : mkTK τ tbl (putO (peekO 12 97 122 ty) .leaf) (fun h0 => R0 59 (.cons (.p 12 0) (.cons (.s [32, 9]) .nil)) h0 (12 + 4) (fun v _ _ => sameV v (.b false)) (fun _ _ _ => false)) = true := by kernel_rfl
theorem pkI0 (ty : Nat) (τ : Nat → Nat) : mkTK τ tbl (putO (peekO 12 97 122 ty) .leaf) (fun h0 => R0 60 (.cons (.p 12 0) (.cons (.s [92, 10]) .nil)) h0 (12 + 4) (fun v _ _ => sameV v (.b false)) (fun _ _ _ => false)) = true := by kernel_rfl
theorem pkT0 (ty : Nat) (τ : Nat → Nat) : mkTK τ tbl (putO (peekO 12 97 122 ty) .leaf) (fun h0 => R0 61 (.cons (.p 12 0) (.cons (.i .i64 (Int.ofNat 0)) .nil)) h0 (12 + 4) (fun v _ _ => sameV v (.x (12 + 2) .u8 97 122)) (fun _ _ _ => false)) = true := by kernel_rfl
def hkAm : HookF := hkPeek tbl 97 122 M (.cons (.s [32, 9]) .nil) (.b false) (hkRun R0 59)
theorem am : HookOk Tryz.prog 12 59 hkAm := hkPeek_ok r0 (hkRun_ok r0) tblIn mIn (fun ρ ρ' vs h => by simpa only [VRs, VR] using h) (fun ρ ρ' v h => by simpa only [VR] using h) pkA0
def hkIs : HookF := hkPeek tbl 97 122 M (.cons (.s [92, 10]) .nil) (.b false) (hkRun R0 60)
theorem is0 : HookOk Tryz.prog 12 60 hkIs := hkPeek_ok r0 (hkRun_ok r0) tblIn mIn (fun ρ ρ' vs h => by simpa only [VRs, VR] using h) (fun ρ ρ' v h => by simpa only [VR] using h) pkI0
def hkAt0 : HookF := hkPeekB tbl 97 122 M (.cons (.i .i64 (Int.ofNat 0)) .nil) (hkRun R0 61)
theorem at0 : HookOk Tryz.prog 12 61 hkAt0 := hkPeekB_ok r0 (hkRun_ok r0) tblIn mIn (fun ρ ρ' vs h => by simpa only [VRs, VR] using h) pkT0
end
end Go.Proofs.YtnpdmljafaolpaaGreatDoor
