/-
  Words of each length: how a scanner reads them, and that they are patterns of themselves (3 of 4). No condition.
-/
import Derived.Test.YtnpdmljafaolpaaGreatDoorHkC
open Go Go.Mx
namespace Go.Proofs.YtnpdmljafaolpaaGreatDoor
set_option maxRecDepth 1000000
noncomputable section
theorem tk59 (τ : Nat → Nat) : mkTK τ tbl (putO (tokO 12 97 122 59 [120, 61] (some 59) 94) .leaf) (fun h0 => R0 41 (.cons (.p 12 0) .nil) h0 (12 + 3 + 59) (tokK 12 97 122 59 [120, 61] (some 59) 94 151) (fun _ _ _ => false)) = true := by kernel_rfl
theorem tk57 (τ : Nat → Nat) : mkTK τ tbl (putO (tokO 12 97 122 57 [120, 61] (some 59) 94) .leaf) (fun h0 => R0 41 (.cons (.p 12 0) .nil) h0 (12 + 3 + 57) (tokK 12 97 122 57 [120, 61] (some 59) 94 151) (fun _ _ _ => false)) = true := by kernel_rfl
theorem tk55 (τ : Nat → Nat) : mkTK τ tbl (putO (tokO 12 97 122 55 [120, 61] (some 59) 94) .leaf) (fun h0 => R0 41 (.cons (.p 12 0) .nil) h0 (12 + 3 + 55) (tokK 12 97 122 55 [120, 61] (some 59) 94 151) (fun _ _ _ => false)) = true := by kernel_rfl
theorem tk53 (τ : Nat → Nat) : mkTK τ tbl (putO (tokO 12 97 122 53 [120, 61] (some 59) 94) .leaf) (fun h0 => R0 41 (.cons (.p 12 0) .nil) h0 (12 + 3 + 53) (tokK 12 97 122 53 [120, 61] (some 59) 94 151) (fun _ _ _ => false)) = true := by kernel_rfl
theorem tk51 (τ : Nat → Nat) : mkTK τ tbl (putO (tokO 12 97 122 51 [120, 61] (some 59) 94) .leaf) (fun h0 => R0 41 (.cons (.p 12 0) .nil) h0 (12 + 3 + 51) (tokK 12 97 122 51 [120, 61] (some 59) 94 151) (fun _ _ _ => false)) = true := by kernel_rfl
theorem tk49 (τ : Nat → Nat) : mkTK τ tbl (putO (tokO 12 97 122 49 [120, 61] (some 59) 94) .leaf) (fun h0 => R0 41 (.cons (.p 12 0) .nil) h0 (12 + 3 + 49) (tokK 12 97 122 49 [120, 61] (some 59) 94 151) (fun _ _ _ => false)) = true := by kernel_rfl
theorem tk47 (τ : Nat → Nat) : mkTK τ tbl (putO (tokO 12 97 122 47 [120, 61] (some 59) 94) .leaf) (fun h0 => R0 41 (.cons (.p 12 0) .nil) h0 (12 + 3 + 47) (tokK 12 97 122 47 [120, 61] (some 59) 94 151) (fun _ _ _ => false)) = true := by kernel_rfl
theorem tk45 (τ : Nat → Nat) : mkTK τ tbl (putO (tokO 12 97 122 45 [120, 61] (some 59) 94) .leaf) (fun h0 => R0 41 (.cons (.p 12 0) .nil) h0 (12 + 3 + 45) (tokK 12 97 122 45 [120, 61] (some 59) 94 151) (fun _ _ _ => false)) = true := by kernel_rfl
theorem tk43 (τ : Nat → Nat) : mkTK τ tbl (putO (tokO 12 97 122 43 [120, 61] (some 59) 94) .leaf) (fun h0 => R0 41 (.cons (.p 12 0) .nil) h0 (12 + 3 + 43) (tokK 12 97 122 43 [120, 61] (some 59) 94 151) (fun _ _ _ => false)) = true := by kernel_rfl
theorem tk41 (τ : Nat → Nat) : mkTK τ tbl (putO (tokO 12 97 122 41 [120, 61] (some 59) 94) .leaf) (fun h0 => R0 41 (.cons (.p 12 0) .nil) h0 (12 + 3 + 41) (tokK 12 97 122 41 [120, 61] (some 59) 94 151) (fun _ _ _ => false)) = true := by kernel_rfl
theorem tk39 (τ : Nat → Nat) : mkTK τ tbl (putO (tokO 12 97 122 39 [120, 61] (some 59) 94) .leaf) (fun h0 => R0 41 (.cons (.p 12 0) .nil) h0 (12 + 3 + 39) (tokK 12 97 122 39 [120, 61] (some 59) 94 151) (fun _ _ _ => false)) = true := by kernel_rfl
theorem tk37 (τ : Nat → Nat) : mkTK τ tbl (putO (tokO 12 97 122 37 [120, 61] (some 59) 94) .leaf) (fun h0 => R0 41 (.cons (.p 12 0) .nil) h0 (12 + 3 + 37) (tokK 12 97 122 37 [120, 61] (some 59) 94 151) (fun _ _ _ => false)) = true := by kernel_rfl
theorem tk35 (τ : Nat → Nat) : mkTK τ tbl (putO (tokO 12 97 122 35 [120, 61] (some 59) 94) .leaf) (fun h0 => R0 41 (.cons (.p 12 0) .nil) h0 (12 + 3 + 35) (tokK 12 97 122 35 [120, 61] (some 59) 94 151) (fun _ _ _ => false)) = true := by kernel_rfl
theorem tk33 (τ : Nat → Nat) : mkTK τ tbl (putO (tokO 12 97 122 33 [120, 61] (some 59) 94) .leaf) (fun h0 => R0 41 (.cons (.p 12 0) .nil) h0 (12 + 3 + 33) (tokK 12 97 122 33 [120, 61] (some 59) 94 151) (fun _ _ _ => false)) = true := by kernel_rfl
theorem tk31 (τ : Nat → Nat) : mkTK τ tbl (putO (tokO 12 97 122 31 [120, 61] (some 59) 94) .leaf) (fun h0 => R0 41 (.cons (.p 12 0) .nil) h0 (12 + 3 + 31) (tokK 12 97 122 31 [120, 61] (some 59) 94 151) (fun _ _ _ => false)) = true := by kernel_rfl
theorem tk29 (τ : Nat → Nat) : mkTK τ tbl (putO (tokO 12 97 122 29 [120, 61] (some 59) 94) .leaf) (fun h0 => R0 41 (.cons (.p 12 0) .nil) h0 (12 + 3 + 29) (tokK 12 97 122 29 [120, 61] (some 59) 94 151) (fun _ _ _ => false)) = true := by kernel_rfl
theorem tk27 (τ : Nat → Nat) : mkTK τ tbl (putO (tokO 12 97 122 27 [120, 61] (some 59) 94) .leaf) (fun h0 => R0 41 (.cons (.p 12 0) .nil) h0 (12 + 3 + 27) (tokK 12 97 122 27 [120, 61] (some 59) 94 151) (fun _ _ _ => false)) = true := by kernel_rfl
theorem tk25 (τ : Nat → Nat) : mkTK τ tbl (putO (tokO 12 97 122 25 [120, 61] (some 59) 94) .leaf) (fun h0 => R0 41 (.cons (.p 12 0) .nil) h0 (12 + 3 + 25) (tokK 12 97 122 25 [120, 61] (some 59) 94 151) (fun _ _ _ => false)) = true := by kernel_rfl
theorem tk23 (τ : Nat → Nat) : mkTK τ tbl (putO (tokO 12 97 122 23 [120, 61] (some 59) 94) .leaf) (fun h0 => R0 41 (.cons (.p 12 0) .nil) h0 (12 + 3 + 23) (tokK 12 97 122 23 [120, 61] (some 59) 94 151) (fun _ _ _ => false)) = true := by kernel_rfl
theorem tk21 (τ : Nat → Nat) : mkTK τ tbl (putO (tokO 12 97 122 21 [120, 61] (some 59) 94) .leaf) (fun h0 => R0 41 (.cons (.p 12 0) .nil) h0 (12 + 3 + 21) (tokK 12 97 122 21 [120, 61] (some 59) 94 151) (fun _ _ _ => false)) = true := by kernel_rfl
theorem tk19 (τ : Nat → Nat) : mkTK τ tbl (putO (tokO 12 97 122 19 [120, 61] (some 59) 94) .leaf) (fun h0 => R0 41 (.cons (.p 12 0) .nil) h0 (12 + 3 + 19) (tokK 12 97 122 19 [120, 61] (some 59) 94 151) (fun _ _ _ => false)) = true := by kernel_rfl
theorem tk17 (τ : Nat → Nat) : mkTK τ tbl (putO (tokO 12 97 122 17 [120, 61] (some 59) 94) .leaf) (fun h0 => R0 41 (.cons (.p 12 0) .nil) h0 (12 + 3 + 17) (tokK 12 97 122 17 [120, 61] (some 59) 94 151) (fun _ _ _ => false)) = true := by kernel_rfl
theorem tk15 (τ : Nat → Nat) : mkTK τ tbl (putO (tokO 12 97 122 15 [120, 61] (some 59) 94) .leaf) (fun h0 => R0 41 (.cons (.p 12 0) .nil) h0 (12 + 3 + 15) (tokK 12 97 122 15 [120, 61] (some 59) 94 151) (fun _ _ _ => false)) = true := by kernel_rfl
theorem tk13 (τ : Nat → Nat) : mkTK τ tbl (putO (tokO 12 97 122 13 [120, 61] (some 59) 94) .leaf) (fun h0 => R0 41 (.cons (.p 12 0) .nil) h0 (12 + 3 + 13) (tokK 12 97 122 13 [120, 61] (some 59) 94 151) (fun _ _ _ => false)) = true := by kernel_rfl
theorem tk11 (τ : Nat → Nat) : mkTK τ tbl (putO (tokO 12 97 122 11 [120, 61] (some 59) 94) .leaf) (fun h0 => R0 41 (.cons (.p 12 0) .nil) h0 (12 + 3 + 11) (tokK 12 97 122 11 [120, 61] (some 59) 94 151) (fun _ _ _ => false)) = true := by kernel_rfl
theorem tk9 (τ : Nat → Nat) : mkTK τ tbl (putO (tokO 12 97 122 9 [120, 61] (some 59) 94) .leaf) (fun h0 => R0 41 (.cons (.p 12 0) .nil) h0 (12 + 3 + 9) (tokK 12 97 122 9 [120, 61] (some 59) 94 151) (fun _ _ _ => false)) = true := by kernel_rfl
theorem tk7 (τ : Nat → Nat) : mkTK τ tbl (putO (tokO 12 97 122 7 [120, 61] (some 59) 94) .leaf) (fun h0 => R0 41 (.cons (.p 12 0) .nil) h0 (12 + 3 + 7) (tokK 12 97 122 7 [120, 61] (some 59) 94 151) (fun _ _ _ => false)) = true := by kernel_rfl
theorem tk5 (τ : Nat → Nat) : mkTK τ tbl (putO (tokO 12 97 122 5 [120, 61] (some 59) 94) .leaf) (fun h0 => R0 41 (.cons (.p 12 0) .nil) h0 (12 + 3 + 5) (tokK 12 97 122 5 [120, 61] (some 59) 94 151) (fun _ _ _ => false)) = true := by kernel_rfl
theorem tk3 (τ : Nat → Nat) : mkTK τ tbl (putO (tokO 12 97 122 3 [120, 61] (some 59) 94) .leaf) (fun h0 => R0 41 (.cons (.p 12 0) .nil) h0 (12 + 3 + 3) (tokK 12 97 122 3 [120, 61] (some 59) 94 151) (fun _ _ _ => false)) = true := by kernel_rfl
theorem tk1 (τ : Nat → Nat) : mkTK τ tbl (putO (tokO 12 97 122 1 [120, 61] (some 59) 94) .leaf) (fun h0 => R0 41 (.cons (.p 12 0) .nil) h0 (12 + 3 + 1) (tokK 12 97 122 1 [120, 61] (some 59) 94 151) (fun _ _ _ => false)) = true := by kernel_rfl
end
end Go.Proofs.YtnpdmljafaolpaaGreatDoor
