/-
  Words of each length: how a scanner reads them, and that they are patterns of themselves (4 of 4). No condition.
-/
import Derived.Test.YtnpdmljafaolpaaGreatDoorHkC
open Go Go.Mx
namespace Go.Proofs.YtnpdmljafaolpaaGreatDoor
set_option maxRecDepth 1000000
noncomputable section
theorem pl59 (τ : Nat → Nat) : mkTK τ tbl .leaf (fun h0 => R0 153 (.cons (.w (wordV 97 122 59 12)) .nil) h0 (12 + 59) (fun v _ _ => isSame (wordV 97 122 59 12) true v) (fun _ _ _ => false)) = true := by kernel_rfl
theorem pl57 (τ : Nat → Nat) : mkTK τ tbl .leaf (fun h0 => R0 153 (.cons (.w (wordV 97 122 57 12)) .nil) h0 (12 + 57) (fun v _ _ => isSame (wordV 97 122 57 12) true v) (fun _ _ _ => false)) = true := by kernel_rfl
theorem pl55 (τ : Nat → Nat) : mkTK τ tbl .leaf (fun h0 => R0 153 (.cons (.w (wordV 97 122 55 12)) .nil) h0 (12 + 55) (fun v _ _ => isSame (wordV 97 122 55 12) true v) (fun _ _ _ => false)) = true := by kernel_rfl
theorem pl53 (τ : Nat → Nat) : mkTK τ tbl .leaf (fun h0 => R0 153 (.cons (.w (wordV 97 122 53 12)) .nil) h0 (12 + 53) (fun v _ _ => isSame (wordV 97 122 53 12) true v) (fun _ _ _ => false)) = true := by kernel_rfl
theorem pl51 (τ : Nat → Nat) : mkTK τ tbl .leaf (fun h0 => R0 153 (.cons (.w (wordV 97 122 51 12)) .nil) h0 (12 + 51) (fun v _ _ => isSame (wordV 97 122 51 12) true v) (fun _ _ _ => false)) = true := by kernel_rfl
theorem pl49 (τ : Nat → Nat) : mkTK τ tbl .leaf (fun h0 => R0 153 (.cons (.w (wordV 97 122 49 12)) .nil) h0 (12 + 49) (fun v _ _ => isSame (wordV 97 122 49 12) true v) (fun _ _ _ => false)) = true := by kernel_rfl
theorem pl47 (τ : Nat → Nat) : mkTK τ tbl .leaf (fun h0 => R0 153 (.cons (.w (wordV 97 122 47 12)) .nil) h0 (12 + 47) (fun v _ _ => isSame (wordV 97 122 47 12) true v) (fun _ _ _ => false)) = true := by kernel_rfl
theorem pl45 (τ : Nat → Nat) : mkTK τ tbl .leaf (fun h0 => R0 153 (.cons (.w (wordV 97 122 45 12)) .nil) h0 (12 + 45) (fun v _ _ => isSame (wordV 97 122 45 12) true v) (fun _ _ _ => false)) = true := by kernel_rfl
theorem pl43 (τ : Nat → Nat) : mkTK τ tbl .leaf (fun h0 => R0 153 (.cons (.w (wordV 97 122 43 12)) .nil) h0 (12 + 43) (fun v _ _ => isSame (wordV 97 122 43 12) true v) (fun _ _ _ => false)) = true := by kernel_rfl
theorem pl41 (τ : Nat → Nat) : mkTK τ tbl .leaf (fun h0 => R0 153 (.cons (.w (wordV 97 122 41 12)) .nil) h0 (12 + 41) (fun v _ _ => isSame (wordV 97 122 41 12) true v) (fun _ _ _ => false)) = true := by kernel_rfl
theorem pl39 (τ : Nat → Nat) : mkTK τ tbl .leaf (fun h0 => R0 153 (.cons (.w (wordV 97 122 39 12)) .nil) h0 (12 + 39) (fun v _ _ => isSame (wordV 97 122 39 12) true v) (fun _ _ _ => false)) = true := by kernel_rfl
theorem pl37 (τ : Nat → Nat) : mkTK τ tbl .leaf (fun h0 => R0 153 (.cons (.w (wordV 97 122 37 12)) .nil) h0 (12 + 37) (fun v _ _ => isSame (wordV 97 122 37 12) true v) (fun _ _ _ => false)) = true := by kernel_rfl
theorem pl35 (τ : Nat → Nat) : mkTK τ tbl .leaf (fun h0 => R0 153 (.cons (.w (wordV 97 122 35 12)) .nil) h0 (12 + 35) (fun v _ _ => isSame (wordV 97 122 35 12) true v) (fun _ _ _ => false)) = true := by kernel_rfl
theorem pl33 (τ : Nat → Nat) : mkTK τ tbl .leaf (fun h0 => R0 153 (.cons (.w (wordV 97 122 33 12)) .nil) h0 (12 + 33) (fun v _ _ => isSame (wordV 97 122 33 12) true v) (fun _ _ _ => false)) = true := by kernel_rfl
theorem pl31 (τ : Nat → Nat) : mkTK τ tbl .leaf (fun h0 => R0 153 (.cons (.w (wordV 97 122 31 12)) .nil) h0 (12 + 31) (fun v _ _ => isSame (wordV 97 122 31 12) true v) (fun _ _ _ => false)) = true := by kernel_rfl
theorem pl29 (τ : Nat → Nat) : mkTK τ tbl .leaf (fun h0 => R0 153 (.cons (.w (wordV 97 122 29 12)) .nil) h0 (12 + 29) (fun v _ _ => isSame (wordV 97 122 29 12) true v) (fun _ _ _ => false)) = true := by kernel_rfl
theorem pl27 (τ : Nat → Nat) : mkTK τ tbl .leaf (fun h0 => R0 153 (.cons (.w (wordV 97 122 27 12)) .nil) h0 (12 + 27) (fun v _ _ => isSame (wordV 97 122 27 12) true v) (fun _ _ _ => false)) = true := by kernel_rfl
theorem pl25 (τ : Nat → Nat) : mkTK τ tbl .leaf (fun h0 => R0 153 (.cons (.w (wordV 97 122 25 12)) .nil) h0 (12 + 25) (fun v _ _ => isSame (wordV 97 122 25 12) true v) (fun _ _ _ => false)) = true := by kernel_rfl
theorem pl23 (τ : Nat → Nat) : mkTK τ tbl .leaf (fun h0 => R0 153 (.cons (.w (wordV 97 122 23 12)) .nil) h0 (12 + 23) (fun v _ _ => isSame (wordV 97 122 23 12) true v) (fun _ _ _ => false)) = true := by kernel_rfl
theorem pl21 (τ : Nat → Nat) : mkTK τ tbl .leaf (fun h0 => R0 153 (.cons (.w (wordV 97 122 21 12)) .nil) h0 (12 + 21) (fun v _ _ => isSame (wordV 97 122 21 12) true v) (fun _ _ _ => false)) = true := by kernel_rfl
theorem pl19 (τ : Nat → Nat) : mkTK τ tbl .leaf (fun h0 => R0 153 (.cons (.w (wordV 97 122 19 12)) .nil) h0 (12 + 19) (fun v _ _ => isSame (wordV 97 122 19 12) true v) (fun _ _ _ => false)) = true := by kernel_rfl
theorem pl17 (τ : Nat → Nat) : mkTK τ tbl .leaf (fun h0 => R0 153 (.cons (.w (wordV 97 122 17 12)) .nil) h0 (12 + 17) (fun v _ _ => isSame (wordV 97 122 17 12) true v) (fun _ _ _ => false)) = true := by kernel_rfl
theorem pl15 (τ : Nat → Nat) : mkTK τ tbl .leaf (fun h0 => R0 153 (.cons (.w (wordV 97 122 15 12)) .nil) h0 (12 + 15) (fun v _ _ => isSame (wordV 97 122 15 12) true v) (fun _ _ _ => false)) = true := by kernel_rfl
theorem pl13 (τ : Nat → Nat) : mkTK τ tbl .leaf (fun h0 => R0 153 (.cons (.w (wordV 97 122 13 12)) .nil) h0 (12 + 13) (fun v _ _ => isSame (wordV 97 122 13 12) true v) (fun _ _ _ => false)) = true := by kernel_rfl
theorem pl11 (τ : Nat → Nat) : mkTK τ tbl .leaf (fun h0 => R0 153 (.cons (.w (wordV 97 122 11 12)) .nil) h0 (12 + 11) (fun v _ _ => isSame (wordV 97 122 11 12) true v) (fun _ _ _ => false)) = true := by kernel_rfl
theorem pl9 (τ : Nat → Nat) : mkTK τ tbl .leaf (fun h0 => R0 153 (.cons (.w (wordV 97 122 9 12)) .nil) h0 (12 + 9) (fun v _ _ => isSame (wordV 97 122 9 12) true v) (fun _ _ _ => false)) = true := by kernel_rfl
theorem pl7 (τ : Nat → Nat) : mkTK τ tbl .leaf (fun h0 => R0 153 (.cons (.w (wordV 97 122 7 12)) .nil) h0 (12 + 7) (fun v _ _ => isSame (wordV 97 122 7 12) true v) (fun _ _ _ => false)) = true := by kernel_rfl
theorem pl5 (τ : Nat → Nat) : mkTK τ tbl .leaf (fun h0 => R0 153 (.cons (.w (wordV 97 122 5 12)) .nil) h0 (12 + 5) (fun v _ _ => isSame (wordV 97 122 5 12) true v) (fun _ _ _ => false)) = true := by kernel_rfl
theorem pl3 (τ : Nat → Nat) : mkTK τ tbl .leaf (fun h0 => R0 153 (.cons (.w (wordV 97 122 3 12)) .nil) h0 (12 + 3) (fun v _ _ => isSame (wordV 97 122 3 12) true v) (fun _ _ _ => false)) = true := by kernel_rfl
theorem pl1 (τ : Nat → Nat) : mkTK τ tbl .leaf (fun h0 => R0 153 (.cons (.w (wordV 97 122 1 12)) .nil) h0 (12 + 1) (fun v _ _ => isSame (wordV 97 122 1 12) true v) (fun _ _ _ => false)) = true := by kernel_rfl
end
end Go.Proofs.YtnpdmljafaolpaaGreatDoor
