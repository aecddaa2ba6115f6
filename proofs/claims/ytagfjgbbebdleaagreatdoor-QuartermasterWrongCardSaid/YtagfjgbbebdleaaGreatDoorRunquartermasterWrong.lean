/-
  The runs of quartermasterWrong, by the kernel: at every input. No condition.
-/
import Derived.Test.YtagfjgbbebdleaaGreatDoorHk
open Go Go.Mx
namespace Go.Proofs.YtagfjgbbebdleaaGreatDoor
set_option maxRecDepth 1000000
noncomputable section
abbrev qRun (n : Int) : Prop := ∀ τ, mkTK τ tbl .leaf (fun h0 => run Tryz.prog 12 (hkL hkB) 100000 3 (.cons (.i .i64 n) .nil) h0 12 (fun v _ _ => isB true v) (fun _ _ _ => false)) = true
theorem qNeg (m : Nat) : qRun (.negSucc m) := fun _ => by kernel_rfl
theorem qBig (m : Nat) : qRun (.ofNat (m + 34)) := fun _ => by kernel_rfl
theorem q0 : qRun (.ofNat 0) := fun _ => by kernel_rfl
theorem q1 : qRun (.ofNat 1) := fun _ => by kernel_rfl
theorem q2 : qRun (.ofNat 2) := fun _ => by kernel_rfl
theorem q3 : qRun (.ofNat 3) := fun _ => by kernel_rfl
theorem q4 : qRun (.ofNat 4) := fun _ => by kernel_rfl
theorem q5 : qRun (.ofNat 5) := fun _ => by kernel_rfl
theorem q6 : qRun (.ofNat 6) := fun _ => by kernel_rfl
theorem q7 : qRun (.ofNat 7) := fun _ => by kernel_rfl
theorem q8 : qRun (.ofNat 8) := fun _ => by kernel_rfl
theorem q9 : qRun (.ofNat 9) := fun _ => by kernel_rfl
theorem q10 : qRun (.ofNat 10) := fun _ => by kernel_rfl
theorem q11 : qRun (.ofNat 11) := fun _ => by kernel_rfl
theorem q12 : qRun (.ofNat 12) := fun _ => by kernel_rfl
theorem q13 : qRun (.ofNat 13) := fun _ => by kernel_rfl
theorem q14 : qRun (.ofNat 14) := fun _ => by kernel_rfl
theorem q15 : qRun (.ofNat 15) := fun _ => by kernel_rfl
theorem q16 : qRun (.ofNat 16) := fun _ => by kernel_rfl
theorem q17 : qRun (.ofNat 17) := fun _ => by kernel_rfl
theorem q18 : qRun (.ofNat 18) := fun _ => by kernel_rfl
theorem q19 : qRun (.ofNat 19) := fun _ => by kernel_rfl
theorem q20 : qRun (.ofNat 20) := fun _ => by kernel_rfl
theorem q21 : qRun (.ofNat 21) := fun _ => by kernel_rfl
theorem q22 : qRun (.ofNat 22) := fun _ => by kernel_rfl
theorem q23 : qRun (.ofNat 23) := fun _ => by kernel_rfl
theorem q24 : qRun (.ofNat 24) := fun _ => by kernel_rfl
theorem q25 : qRun (.ofNat 25) := fun _ => by kernel_rfl
theorem q26 : qRun (.ofNat 26) := fun _ => by kernel_rfl
theorem q27 : qRun (.ofNat 27) := fun _ => by kernel_rfl
theorem q28 : qRun (.ofNat 28) := fun _ => by kernel_rfl
theorem q29 : qRun (.ofNat 29) := fun _ => by kernel_rfl
theorem q30 : qRun (.ofNat 30) := fun _ => by kernel_rfl
theorem q31 : qRun (.ofNat 31) := fun _ => by kernel_rfl
theorem q32 : qRun (.ofNat 32) := fun _ => by kernel_rfl
theorem q33 : qRun (.ofNat 33) := fun _ => by kernel_rfl
theorem qAll (n : Int) : qRun n := by
  cases n with
  | negSucc m => exact qNeg m
  | ofNat k =>
    match k with
    | 0 => exact q0
    | 1 => exact q1
    | 2 => exact q2
    | 3 => exact q3
    | 4 => exact q4
    | 5 => exact q5
    | 6 => exact q6
    | 7 => exact q7
    | 8 => exact q8
    | 9 => exact q9
    | 10 => exact q10
    | 11 => exact q11
    | 12 => exact q12
    | 13 => exact q13
    | 14 => exact q14
    | 15 => exact q15
    | 16 => exact q16
    | 17 => exact q17
    | 18 => exact q18
    | 19 => exact q19
    | 20 => exact q20
    | 21 => exact q21
    | 22 => exact q22
    | 23 => exact q23
    | 24 => exact q24
    | 25 => exact q25
    | 26 => exact q26
    | 27 => exact q27
    | 28 => exact q28
    | 29 => exact q29
    | 30 => exact q30
    | 31 => exact q31
    | 32 => exact q32
    | 33 => exact q33
    | m + 34 => exact qBig m
end
end Go.Proofs.YtagfjgbbebdleaaGreatDoor
