/-
  Words of each length: how a scanner reads them, and that they are patterns of themselves (2 of 4). No condition.
-/
import Derived.Test.YtnpdmljafaolpaaGreatDoorHkC
open Go Go.Mx
namespace Go.Proofs.YtnpdmljafaolpaaGreatDoor
set_option maxRecDepth 1000000
noncomputable section
theorem pl60 (τ : Nat → Nat) : mkTK τ tbl .leaf (fun h0 => R0 153 (.cons (.w (wordV 97 122 60 12)) .nil) h0 (12 + 60) (fun v _ _ => isSame (wordV 97 122 60 12) true v) (fun _ _ _ => false)) = true := by kernel_rfl
theorem pl58 (τ : Nat → Nat) : mkTK τ tbl .leaf (fun h0 => R0 153 (.cons (.w (wordV 97 122 58 12)) .nil) h0 (12 + 58) (fun v _ _ => isSame (wordV 97 122 58 12) true v) (fun _ _ _ => false)) = true := by kernel_rfl
theorem pl56 (τ : Nat → Nat) : mkTK τ tbl .leaf (fun h0 => R0 153 (.cons (.w (wordV 97 122 56 12)) .nil) h0 (12 + 56) (fun v _ _ => isSame (wordV 97 122 56 12) true v) (fun _ _ _ => false)) = true := by kernel_rfl
theorem pl54 (τ : Nat → Nat) : mkTK τ tbl .leaf (fun h0 => R0 153 (.cons (.w (wordV 97 122 54 12)) .nil) h0 (12 + 54) (fun v _ _ => isSame (wordV 97 122 54 12) true v) (fun _ _ _ => false)) = true := by kernel_rfl
theorem pl52 (τ : Nat → Nat) : mkTK τ tbl .leaf (fun h0 => R0 153 (.cons (.w (wordV 97 122 52 12)) .nil) h0 (12 + 52) (fun v _ _ => isSame (wordV 97 122 52 12) true v) (fun _ _ _ => false)) = true := by kernel_rfl
theorem pl50 (τ : Nat → Nat) : mkTK τ tbl .leaf (fun h0 => R0 153 (.cons (.w (wordV 97 122 50 12)) .nil) h0 (12 + 50) (fun v _ _ => isSame (wordV 97 122 50 12) true v) (fun _ _ _ => false)) = true := by kernel_rfl
theorem pl48 (τ : Nat → Nat) : mkTK τ tbl .leaf (fun h0 => R0 153 (.cons (.w (wordV 97 122 48 12)) .nil) h0 (12 + 48) (fun v _ _ => isSame (wordV 97 122 48 12) true v) (fun _ _ _ => false)) = true := by kernel_rfl
theorem pl46 (τ : Nat → Nat) : mkTK τ tbl .leaf (fun h0 => R0 153 (.cons (.w (wordV 97 122 46 12)) .nil) h0 (12 + 46) (fun v _ _ => isSame (wordV 97 122 46 12) true v) (fun _ _ _ => false)) = true := by kernel_rfl
theorem pl44 (τ : Nat → Nat) : mkTK τ tbl .leaf (fun h0 => R0 153 (.cons (.w (wordV 97 122 44 12)) .nil) h0 (12 + 44) (fun v _ _ => isSame (wordV 97 122 44 12) true v) (fun _ _ _ => false)) = true := by kernel_rfl
theorem pl42 (τ : Nat → Nat) : mkTK τ tbl .leaf (fun h0 => R0 153 (.cons (.w (wordV 97 122 42 12)) .nil) h0 (12 + 42) (fun v _ _ => isSame (wordV 97 122 42 12) true v) (fun _ _ _ => false)) = true := by kernel_rfl
theorem pl40 (τ : Nat → Nat) : mkTK τ tbl .leaf (fun h0 => R0 153 (.cons (.w (wordV 97 122 40 12)) .nil) h0 (12 + 40) (fun v _ _ => isSame (wordV 97 122 40 12) true v) (fun _ _ _ => false)) = true := by kernel_rfl
theorem pl38 (τ : Nat → Nat) : mkTK τ tbl .leaf (fun h0 => R0 153 (.cons (.w (wordV 97 122 38 12)) .nil) h0 (12 + 38) (fun v _ _ => isSame (wordV 97 122 38 12) true v) (fun _ _ _ => false)) = true := by kernel_rfl
theorem pl36 (τ : Nat → Nat) : mkTK τ tbl .leaf (fun h0 => R0 153 (.cons (.w (wordV 97 122 36 12)) .nil) h0 (12 + 36) (fun v _ _ => isSame (wordV 97 122 36 12) true v) (fun _ _ _ => false)) = true := by kernel_rfl
theorem pl34 (τ : Nat → Nat) : mkTK τ tbl .leaf (fun h0 => R0 153 (.cons (.w (wordV 97 122 34 12)) .nil) h0 (12 + 34) (fun v _ _ => isSame (wordV 97 122 34 12) true v) (fun _ _ _ => false)) = true := by kernel_rfl
theorem pl32 (τ : Nat → Nat) : mkTK τ tbl .leaf (fun h0 => R0 153 (.cons (.w (wordV 97 122 32 12)) .nil) h0 (12 + 32) (fun v _ _ => isSame (wordV 97 122 32 12) true v) (fun _ _ _ => false)) = true := by kernel_rfl
theorem pl30 (τ : Nat → Nat) : mkTK τ tbl .leaf (fun h0 => R0 153 (.cons (.w (wordV 97 122 30 12)) .nil) h0 (12 + 30) (fun v _ _ => isSame (wordV 97 122 30 12) true v) (fun _ _ _ => false)) = true := by kernel_rfl
theorem pl28 (τ : Nat → Nat) : mkTK τ tbl .leaf (fun h0 => R0 153 (.cons (.w (wordV 97 122 28 12)) .nil) h0 (12 + 28) (fun v _ _ => isSame (wordV 97 122 28 12) true v) (fun _ _ _ => false)) = true := by kernel_rfl
theorem pl26 (τ : Nat → Nat) : mkTK τ tbl .leaf (fun h0 => R0 153 (.cons (.w (wordV 97 122 26 12)) .nil) h0 (12 + 26) (fun v _ _ => isSame (wordV 97 122 26 12) true v) (fun _ _ _ => false)) = true := by kernel_rfl
theorem pl24 (τ : Nat → Nat) : mkTK τ tbl .leaf (fun h0 => R0 153 (.cons (.w (wordV 97 122 24 12)) .nil) h0 (12 + 24) (fun v _ _ => isSame (wordV 97 122 24 12) true v) (fun _ _ _ => false)) = true := by kernel_rfl
theorem pl22 (τ : Nat → Nat) : mkTK τ tbl .leaf (fun h0 => R0 153 (.cons (.w (wordV 97 122 22 12)) .nil) h0 (12 + 22) (fun v _ _ => isSame (wordV 97 122 22 12) true v) (fun _ _ _ => false)) = true := by kernel_rfl
theorem pl20 (τ : Nat → Nat) : mkTK τ tbl .leaf (fun h0 => R0 153 (.cons (.w (wordV 97 122 20 12)) .nil) h0 (12 + 20) (fun v _ _ => isSame (wordV 97 122 20 12) true v) (fun _ _ _ => false)) = true := by kernel_rfl
theorem pl18 (τ : Nat → Nat) : mkTK τ tbl .leaf (fun h0 => R0 153 (.cons (.w (wordV 97 122 18 12)) .nil) h0 (12 + 18) (fun v _ _ => isSame (wordV 97 122 18 12) true v) (fun _ _ _ => false)) = true := by kernel_rfl
theorem pl16 (τ : Nat → Nat) : mkTK τ tbl .leaf (fun h0 => R0 153 (.cons (.w (wordV 97 122 16 12)) .nil) h0 (12 + 16) (fun v _ _ => isSame (wordV 97 122 16 12) true v) (fun _ _ _ => false)) = true := by kernel_rfl
theorem pl14 (τ : Nat → Nat) : mkTK τ tbl .leaf (fun h0 => R0 153 (.cons (.w (wordV 97 122 14 12)) .nil) h0 (12 + 14) (fun v _ _ => isSame (wordV 97 122 14 12) true v) (fun _ _ _ => false)) = true := by kernel_rfl
theorem pl12 (τ : Nat → Nat) : mkTK τ tbl .leaf (fun h0 => R0 153 (.cons (.w (wordV 97 122 12 12)) .nil) h0 (12 + 12) (fun v _ _ => isSame (wordV 97 122 12 12) true v) (fun _ _ _ => false)) = true := by kernel_rfl
theorem pl10 (τ : Nat → Nat) : mkTK τ tbl .leaf (fun h0 => R0 153 (.cons (.w (wordV 97 122 10 12)) .nil) h0 (12 + 10) (fun v _ _ => isSame (wordV 97 122 10 12) true v) (fun _ _ _ => false)) = true := by kernel_rfl
theorem pl8 (τ : Nat → Nat) : mkTK τ tbl .leaf (fun h0 => R0 153 (.cons (.w (wordV 97 122 8 12)) .nil) h0 (12 + 8) (fun v _ _ => isSame (wordV 97 122 8 12) true v) (fun _ _ _ => false)) = true := by kernel_rfl
theorem pl6 (τ : Nat → Nat) : mkTK τ tbl .leaf (fun h0 => R0 153 (.cons (.w (wordV 97 122 6 12)) .nil) h0 (12 + 6) (fun v _ _ => isSame (wordV 97 122 6 12) true v) (fun _ _ _ => false)) = true := by kernel_rfl
theorem pl4 (τ : Nat → Nat) : mkTK τ tbl .leaf (fun h0 => R0 153 (.cons (.w (wordV 97 122 4 12)) .nil) h0 (12 + 4) (fun v _ _ => isSame (wordV 97 122 4 12) true v) (fun _ _ _ => false)) = true := by kernel_rfl
theorem pl2 (τ : Nat → Nat) : mkTK τ tbl .leaf (fun h0 => R0 153 (.cons (.w (wordV 97 122 2 12)) .nil) h0 (12 + 2) (fun v _ _ => isSame (wordV 97 122 2 12) true v) (fun _ _ _ => false)) = true := by kernel_rfl
theorem pl0 (τ : Nat → Nat) : mkTK τ tbl .leaf (fun h0 => R0 153 (.cons (.w (wordV 97 122 0 12)) .nil) h0 (12 + 0) (fun v _ _ => isSame (wordV 97 122 0 12) true v) (fun _ _ _ => false)) = true := by kernel_rfl
end
end Go.Proofs.YtnpdmljafaolpaaGreatDoor
