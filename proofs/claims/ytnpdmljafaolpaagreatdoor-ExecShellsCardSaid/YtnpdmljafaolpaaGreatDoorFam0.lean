/-
  Words of each length: how a scanner reads them, and that they are patterns of themselves (1 of 4). No condition.
-/
import Derived.Test.YtnpdmljafaolpaaGreatDoorHkC
open Go Go.Mx
namespace Go.Proofs.YtnpdmljafaolpaaGreatDoor
set_option maxRecDepth 1000000
noncomputable section
theorem tk60 (τ : Nat → Nat) : mkTK τ tbl (putO (tokO 12 97 122 60 [120, 61] (some 59) 94) .leaf) (fun h0 => R0 41 (.cons (.p 12 0) .nil) h0 (12 + 3 + 60) (tokK 12 97 122 60 [120, 61] (some 59) 94 151) (fun _ _ _ => false)) = true := by kernel_rfl
theorem tk58 (τ : Nat → Nat) : mkTK τ tbl (putO (tokO 12 97 122 58 [120, 61] (some 59) 94) .leaf) (fun h0 => R0 41 (.cons (.p 12 0) .nil) h0 (12 + 3 + 58) (tokK 12 97 122 58 [120, 61] (some 59) 94 151) (fun _ _ _ => false)) = true := by kernel_rfl
theorem tk56 (τ : Nat → Nat) : mkTK τ tbl (putO (tokO 12 97 122 56 [120, 61] (some 59) 94) .leaf) (fun h0 => R0 41 (.cons (.p 12 0) .nil) h0 (12 + 3 + 56) (tokK 12 97 122 56 [120, 61] (some 59) 94 151) (fun _ _ _ => false)) = true := by kernel_rfl
theorem tk54 (τ : Nat → Nat) : mkTK τ tbl (putO (tokO 12 97 122 54 [120, 61] (some 59) 94) .leaf) (fun h0 => R0 41 (.cons (.p 12 0) .nil) h0 (12 + 3 + 54) (tokK 12 97 122 54 [120, 61] (some 59) 94 151) (fun _ _ _ => false)) = true := by kernel_rfl
theorem tk52 (τ : Nat → Nat) : mkTK τ tbl (putO (tokO 12 97 122 52 [120, 61] (some 59) 94) .leaf) (fun h0 => R0 41 (.cons (.p 12 0) .nil) h0 (12 + 3 + 52) (tokK 12 97 122 52 [120, 61] (some 59) 94 151) (fun _ _ _ => false)) = true := by kernel_rfl
theorem tk50 (τ : Nat → Nat) : mkTK τ tbl (putO (tokO 12 97 122 50 [120, 61] (some 59) 94) .leaf) (fun h0 => R0 41 (.cons (.p 12 0) .nil) h0 (12 + 3 + 50) (tokK 12 97 122 50 [120, 61] (some 59) 94 151) (fun _ _ _ => false)) = true := by kernel_rfl
theorem tk48 (τ : Nat → Nat) : mkTK τ tbl (putO (tokO 12 97 122 48 [120, 61] (some 59) 94) .leaf) (fun h0 => R0 41 (.cons (.p 12 0) .nil) h0 (12 + 3 + 48) (tokK 12 97 122 48 [120, 61] (some 59) 94 151) (fun _ _ _ => false)) = true := by kernel_rfl
theorem tk46 (τ : Nat → Nat) : mkTK τ tbl (putO (tokO 12 97 122 46 [120, 61] (some 59) 94) .leaf) (fun h0 => R0 41 (.cons (.p 12 0) .nil) h0 (12 + 3 + 46) (tokK 12 97 122 46 [120, 61] (some 59) 94 151) (fun _ _ _ => false)) = true := by kernel_rfl
theorem tk44 (τ : Nat → Nat) : mkTK τ tbl (putO (tokO 12 97 122 44 [120, 61] (some 59) 94) .leaf) (fun h0 => R0 41 (.cons (.p 12 0) .nil) h0 (12 + 3 + 44) (tokK 12 97 122 44 [120, 61] (some 59) 94 151) (fun _ _ _ => false)) = true := by kernel_rfl
theorem tk42 (τ : Nat → Nat) : mkTK τ tbl (putO (tokO 12 97 122 42 [120, 61] (some 59) 94) .leaf) (fun h0 => R0 41 (.cons (.p 12 0) .nil) h0 (12 + 3 + 42) (tokK 12 97 122 42 [120, 61] (some 59) 94 151) (fun _ _ _ => false)) = true := by kernel_rfl
theorem tk40 (τ : Nat → Nat) : mkTK τ tbl (putO (tokO 12 97 122 40 [120, 61] (some 59) 94) .leaf) (fun h0 => R0 41 (.cons (.p 12 0) .nil) h0 (12 + 3 + 40) (tokK 12 97 122 40 [120, 61] (some 59) 94 151) (fun _ _ _ => false)) = true := by kernel_rfl
theorem tk38 (τ : Nat → Nat) : mkTK τ tbl (putO (tokO 12 97 122 38 [120, 61] (some 59) 94) .leaf) (fun h0 => R0 41 (.cons (.p 12 0) .nil) h0 (12 + 3 + 38) (tokK 12 97 122 38 [120, 61] (some 59) 94 151) (fun _ _ _ => false)) = true := by kernel_rfl
theorem tk36 (τ : Nat → Nat) : mkTK τ tbl (putO (tokO 12 97 122 36 [120, 61] (some 59) 94) .leaf) (fun h0 => R0 41 (.cons (.p 12 0) .nil) h0 (12 + 3 + 36) (tokK 12 97 122 36 [120, 61] (some 59) 94 151) (fun _ _ _ => false)) = true := by kernel_rfl
theorem tk34 (τ : Nat → Nat) : mkTK τ tbl (putO (tokO 12 97 122 34 [120, 61] (some 59) 94) .leaf) (fun h0 => R0 41 (.cons (.p 12 0) .nil) h0 (12 + 3 + 34) (tokK 12 97 122 34 [120, 61] (some 59) 94 151) (fun _ _ _ => false)) = true := by kernel_rfl
theorem tk32 (τ : Nat → Nat) : mkTK τ tbl (putO (tokO 12 97 122 32 [120, 61] (some 59) 94) .leaf) (fun h0 => R0 41 (.cons (.p 12 0) .nil) h0 (12 + 3 + 32) (tokK 12 97 122 32 [120, 61] (some 59) 94 151) (fun _ _ _ => false)) = true := by kernel_rfl
theorem tk30 (τ : Nat → Nat) : mkTK τ tbl (putO (tokO 12 97 122 30 [120, 61] (some 59) 94) .leaf) (fun h0 => R0 41 (.cons (.p 12 0) .nil) h0 (12 + 3 + 30) (tokK 12 97 122 30 [120, 61] (some 59) 94 151) (fun _ _ _ => false)) = true := by kernel_rfl
theorem tk28 (τ : Nat → Nat) : mkTK τ tbl (putO (tokO 12 97 122 28 [120, 61] (some 59) 94) .leaf) (fun h0 => R0 41 (.cons (.p 12 0) .nil) h0 (12 + 3 + 28) (tokK 12 97 122 28 [120, 61] (some 59) 94 151) (fun _ _ _ => false)) = true := by kernel_rfl
theorem tk26 (τ : Nat → Nat) : mkTK τ tbl (putO (tokO 12 97 122 26 [120, 61] (some 59) 94) .leaf) (fun h0 => R0 41 (.cons (.p 12 0) .nil) h0 (12 + 3 + 26) (tokK 12 97 122 26 [120, 61] (some 59) 94 151) (fun _ _ _ => false)) = true := by kernel_rfl
theorem tk24 (τ : Nat → Nat) : mkTK τ tbl (putO (tokO 12 97 122 24 [120, 61] (some 59) 94) .leaf) (fun h0 => R0 41 (.cons (.p 12 0) .nil) h0 (12 + 3 + 24) (tokK 12 97 122 24 [120, 61] (some 59) 94 151) (fun _ _ _ => false)) = true := by kernel_rfl
theorem tk22 (τ : Nat → Nat) : mkTK τ tbl (putO (tokO 12 97 122 22 [120, 61] (some 59) 94) .leaf) (fun h0 => R0 41 (.cons (.p 12 0) .nil) h0 (12 + 3 + 22) (tokK 12 97 122 22 [120, 61] (some 59) 94 151) (fun _ _ _ => false)) = true := by kernel_rfl
theorem tk20 (τ : Nat → Nat) : mkTK τ tbl (putO (tokO 12 97 122 20 [120, 61] (some 59) 94) .leaf) (fun h0 => R0 41 (.cons (.p 12 0) .nil) h0 (12 + 3 + 20) (tokK 12 97 122 20 [120, 61] (some 59) 94 151) (fun _ _ _ => false)) = true := by kernel_rfl
theorem tk18 (τ : Nat → Nat) : mkTK τ tbl (putO (tokO 12 97 122 18 [120, 61] (some 59) 94) .leaf) (fun h0 => R0 41 (.cons (.p 12 0) .nil) h0 (12 + 3 + 18) (tokK 12 97 122 18 [120, 61] (some 59) 94 151) (fun _ _ _ => false)) = true := by kernel_rfl
theorem tk16 (τ : Nat → Nat) : mkTK τ tbl (putO (tokO 12 97 122 16 [120, 61] (some 59) 94) .leaf) (fun h0 => R0 41 (.cons (.p 12 0) .nil) h0 (12 + 3 + 16) (tokK 12 97 122 16 [120, 61] (some 59) 94 151) (fun _ _ _ => false)) = true := by kernel_rfl
theorem tk14 (τ : Nat → Nat) : mkTK τ tbl (putO (tokO 12 97 122 14 [120, 61] (some 59) 94) .leaf) (fun h0 => R0 41 (.cons (.p 12 0) .nil) h0 (12 + 3 + 14) (tokK 12 97 122 14 [120, 61] (some 59) 94 151) (fun _ _ _ => false)) = true := by kernel_rfl
theorem tk12 (τ : Nat → Nat) : mkTK τ tbl (putO (tokO 12 97 122 12 [120, 61] (some 59) 94) .leaf) (fun h0 => R0 41 (.cons (.p 12 0) .nil) h0 (12 + 3 + 12) (tokK 12 97 122 12 [120, 61] (some 59) 94 151) (fun _ _ _ => false)) = true := by kernel_rfl
theorem tk10 (τ : Nat → Nat) : mkTK τ tbl (putO (tokO 12 97 122 10 [120, 61] (some 59) 94) .leaf) (fun h0 => R0 41 (.cons (.p 12 0) .nil) h0 (12 + 3 + 10) (tokK 12 97 122 10 [120, 61] (some 59) 94 151) (fun _ _ _ => false)) = true := by kernel_rfl
theorem tk8 (τ : Nat → Nat) : mkTK τ tbl (putO (tokO 12 97 122 8 [120, 61] (some 59) 94) .leaf) (fun h0 => R0 41 (.cons (.p 12 0) .nil) h0 (12 + 3 + 8) (tokK 12 97 122 8 [120, 61] (some 59) 94 151) (fun _ _ _ => false)) = true := by kernel_rfl
theorem tk6 (τ : Nat → Nat) : mkTK τ tbl (putO (tokO 12 97 122 6 [120, 61] (some 59) 94) .leaf) (fun h0 => R0 41 (.cons (.p 12 0) .nil) h0 (12 + 3 + 6) (tokK 12 97 122 6 [120, 61] (some 59) 94 151) (fun _ _ _ => false)) = true := by kernel_rfl
theorem tk4 (τ : Nat → Nat) : mkTK τ tbl (putO (tokO 12 97 122 4 [120, 61] (some 59) 94) .leaf) (fun h0 => R0 41 (.cons (.p 12 0) .nil) h0 (12 + 3 + 4) (tokK 12 97 122 4 [120, 61] (some 59) 94 151) (fun _ _ _ => false)) = true := by kernel_rfl
theorem tk2 (τ : Nat → Nat) : mkTK τ tbl (putO (tokO 12 97 122 2 [120, 61] (some 59) 94) .leaf) (fun h0 => R0 41 (.cons (.p 12 0) .nil) h0 (12 + 3 + 2) (tokK 12 97 122 2 [120, 61] (some 59) 94 151) (fun _ _ _ => false)) = true := by kernel_rfl
theorem tk0 (τ : Nat → Nat) : mkTK τ tbl (putO (tokO 12 97 122 0 [120, 61] (some 59) 94) .leaf) (fun h0 => R0 41 (.cons (.p 12 0) .nil) h0 (12 + 3 + 0) (tokK 12 97 122 0 [120, 61] (some 59) 94 151) (fun _ _ _ => false)) = true := by kernel_rfl
end
end Go.Proofs.YtnpdmljafaolpaaGreatDoor
