/-
  Words of each length: how a scanner reads them, and that they are patterns of themselves (3 of 4). No condition.
-/
import Derived.Test.YtcmnkndbcecbiaaGreatDoorHkC
open Go Go.Mx
namespace Go.Proofs.YtcmnkndbcecbiaaGreatDoor
set_option maxRecDepth 1000000
noncomputable section
theorem pl60 (τ : Nat → Nat) : mkTK τ tbl .leaf (fun h0 => R0 162 (.cons (.w (wordV 97 122 60 12)) .nil) h0 (12 + 60) (fun v _ _ => isSame (wordV 97 122 60 12) true v) (fun _ _ _ => false)) = true := by kernel_rfl
theorem tk32_58 (τ : Nat → Nat) : mkTK τ tbl (putO (tokO 12 97 122 58 [] (some 32) 103) .leaf) (fun h0 => R0 50 (.cons (.p 12 0) .nil) h0 (12 + 3 + 58) (tokK 12 97 122 58 [] (some 32) 103 160) (fun _ _ _ => false)) = true := by kernel_rfl
theorem tk59_57 (τ : Nat → Nat) : mkTK τ tbl (putO (tokO 12 97 122 57 [] (some 59) 103) .leaf) (fun h0 => R0 50 (.cons (.p 12 0) .nil) h0 (12 + 3 + 57) (tokK 12 97 122 57 [] (some 59) 103 160) (fun _ _ _ => false)) = true := by kernel_rfl
theorem pl56 (τ : Nat → Nat) : mkTK τ tbl .leaf (fun h0 => R0 162 (.cons (.w (wordV 97 122 56 12)) .nil) h0 (12 + 56) (fun v _ _ => isSame (wordV 97 122 56 12) true v) (fun _ _ _ => false)) = true := by kernel_rfl
theorem tk32_54 (τ : Nat → Nat) : mkTK τ tbl (putO (tokO 12 97 122 54 [] (some 32) 103) .leaf) (fun h0 => R0 50 (.cons (.p 12 0) .nil) h0 (12 + 3 + 54) (tokK 12 97 122 54 [] (some 32) 103 160) (fun _ _ _ => false)) = true := by kernel_rfl
theorem tk59_53 (τ : Nat → Nat) : mkTK τ tbl (putO (tokO 12 97 122 53 [] (some 59) 103) .leaf) (fun h0 => R0 50 (.cons (.p 12 0) .nil) h0 (12 + 3 + 53) (tokK 12 97 122 53 [] (some 59) 103 160) (fun _ _ _ => false)) = true := by kernel_rfl
theorem pl52 (τ : Nat → Nat) : mkTK τ tbl .leaf (fun h0 => R0 162 (.cons (.w (wordV 97 122 52 12)) .nil) h0 (12 + 52) (fun v _ _ => isSame (wordV 97 122 52 12) true v) (fun _ _ _ => false)) = true := by kernel_rfl
theorem tk32_50 (τ : Nat → Nat) : mkTK τ tbl (putO (tokO 12 97 122 50 [] (some 32) 103) .leaf) (fun h0 => R0 50 (.cons (.p 12 0) .nil) h0 (12 + 3 + 50) (tokK 12 97 122 50 [] (some 32) 103 160) (fun _ _ _ => false)) = true := by kernel_rfl
theorem tk59_49 (τ : Nat → Nat) : mkTK τ tbl (putO (tokO 12 97 122 49 [] (some 59) 103) .leaf) (fun h0 => R0 50 (.cons (.p 12 0) .nil) h0 (12 + 3 + 49) (tokK 12 97 122 49 [] (some 59) 103 160) (fun _ _ _ => false)) = true := by kernel_rfl
theorem pl48 (τ : Nat → Nat) : mkTK τ tbl .leaf (fun h0 => R0 162 (.cons (.w (wordV 97 122 48 12)) .nil) h0 (12 + 48) (fun v _ _ => isSame (wordV 97 122 48 12) true v) (fun _ _ _ => false)) = true := by kernel_rfl
theorem tk32_46 (τ : Nat → Nat) : mkTK τ tbl (putO (tokO 12 97 122 46 [] (some 32) 103) .leaf) (fun h0 => R0 50 (.cons (.p 12 0) .nil) h0 (12 + 3 + 46) (tokK 12 97 122 46 [] (some 32) 103 160) (fun _ _ _ => false)) = true := by kernel_rfl
theorem tk59_45 (τ : Nat → Nat) : mkTK τ tbl (putO (tokO 12 97 122 45 [] (some 59) 103) .leaf) (fun h0 => R0 50 (.cons (.p 12 0) .nil) h0 (12 + 3 + 45) (tokK 12 97 122 45 [] (some 59) 103 160) (fun _ _ _ => false)) = true := by kernel_rfl
theorem pl44 (τ : Nat → Nat) : mkTK τ tbl .leaf (fun h0 => R0 162 (.cons (.w (wordV 97 122 44 12)) .nil) h0 (12 + 44) (fun v _ _ => isSame (wordV 97 122 44 12) true v) (fun _ _ _ => false)) = true := by kernel_rfl
theorem tk32_42 (τ : Nat → Nat) : mkTK τ tbl (putO (tokO 12 97 122 42 [] (some 32) 103) .leaf) (fun h0 => R0 50 (.cons (.p 12 0) .nil) h0 (12 + 3 + 42) (tokK 12 97 122 42 [] (some 32) 103 160) (fun _ _ _ => false)) = true := by kernel_rfl
theorem tk59_41 (τ : Nat → Nat) : mkTK τ tbl (putO (tokO 12 97 122 41 [] (some 59) 103) .leaf) (fun h0 => R0 50 (.cons (.p 12 0) .nil) h0 (12 + 3 + 41) (tokK 12 97 122 41 [] (some 59) 103 160) (fun _ _ _ => false)) = true := by kernel_rfl
theorem pl40 (τ : Nat → Nat) : mkTK τ tbl .leaf (fun h0 => R0 162 (.cons (.w (wordV 97 122 40 12)) .nil) h0 (12 + 40) (fun v _ _ => isSame (wordV 97 122 40 12) true v) (fun _ _ _ => false)) = true := by kernel_rfl
theorem tk32_38 (τ : Nat → Nat) : mkTK τ tbl (putO (tokO 12 97 122 38 [] (some 32) 103) .leaf) (fun h0 => R0 50 (.cons (.p 12 0) .nil) h0 (12 + 3 + 38) (tokK 12 97 122 38 [] (some 32) 103 160) (fun _ _ _ => false)) = true := by kernel_rfl
theorem tk59_37 (τ : Nat → Nat) : mkTK τ tbl (putO (tokO 12 97 122 37 [] (some 59) 103) .leaf) (fun h0 => R0 50 (.cons (.p 12 0) .nil) h0 (12 + 3 + 37) (tokK 12 97 122 37 [] (some 59) 103 160) (fun _ _ _ => false)) = true := by kernel_rfl
theorem pl36 (τ : Nat → Nat) : mkTK τ tbl .leaf (fun h0 => R0 162 (.cons (.w (wordV 97 122 36 12)) .nil) h0 (12 + 36) (fun v _ _ => isSame (wordV 97 122 36 12) true v) (fun _ _ _ => false)) = true := by kernel_rfl
theorem tk32_34 (τ : Nat → Nat) : mkTK τ tbl (putO (tokO 12 97 122 34 [] (some 32) 103) .leaf) (fun h0 => R0 50 (.cons (.p 12 0) .nil) h0 (12 + 3 + 34) (tokK 12 97 122 34 [] (some 32) 103 160) (fun _ _ _ => false)) = true := by kernel_rfl
theorem tk59_33 (τ : Nat → Nat) : mkTK τ tbl (putO (tokO 12 97 122 33 [] (some 59) 103) .leaf) (fun h0 => R0 50 (.cons (.p 12 0) .nil) h0 (12 + 3 + 33) (tokK 12 97 122 33 [] (some 59) 103 160) (fun _ _ _ => false)) = true := by kernel_rfl
theorem pl32 (τ : Nat → Nat) : mkTK τ tbl .leaf (fun h0 => R0 162 (.cons (.w (wordV 97 122 32 12)) .nil) h0 (12 + 32) (fun v _ _ => isSame (wordV 97 122 32 12) true v) (fun _ _ _ => false)) = true := by kernel_rfl
theorem tk32_30 (τ : Nat → Nat) : mkTK τ tbl (putO (tokO 12 97 122 30 [] (some 32) 103) .leaf) (fun h0 => R0 50 (.cons (.p 12 0) .nil) h0 (12 + 3 + 30) (tokK 12 97 122 30 [] (some 32) 103 160) (fun _ _ _ => false)) = true := by kernel_rfl
theorem tk59_29 (τ : Nat → Nat) : mkTK τ tbl (putO (tokO 12 97 122 29 [] (some 59) 103) .leaf) (fun h0 => R0 50 (.cons (.p 12 0) .nil) h0 (12 + 3 + 29) (tokK 12 97 122 29 [] (some 59) 103 160) (fun _ _ _ => false)) = true := by kernel_rfl
theorem pl28 (τ : Nat → Nat) : mkTK τ tbl .leaf (fun h0 => R0 162 (.cons (.w (wordV 97 122 28 12)) .nil) h0 (12 + 28) (fun v _ _ => isSame (wordV 97 122 28 12) true v) (fun _ _ _ => false)) = true := by kernel_rfl
theorem tk32_26 (τ : Nat → Nat) : mkTK τ tbl (putO (tokO 12 97 122 26 [] (some 32) 103) .leaf) (fun h0 => R0 50 (.cons (.p 12 0) .nil) h0 (12 + 3 + 26) (tokK 12 97 122 26 [] (some 32) 103 160) (fun _ _ _ => false)) = true := by kernel_rfl
theorem tk59_25 (τ : Nat → Nat) : mkTK τ tbl (putO (tokO 12 97 122 25 [] (some 59) 103) .leaf) (fun h0 => R0 50 (.cons (.p 12 0) .nil) h0 (12 + 3 + 25) (tokK 12 97 122 25 [] (some 59) 103 160) (fun _ _ _ => false)) = true := by kernel_rfl
theorem pl24 (τ : Nat → Nat) : mkTK τ tbl .leaf (fun h0 => R0 162 (.cons (.w (wordV 97 122 24 12)) .nil) h0 (12 + 24) (fun v _ _ => isSame (wordV 97 122 24 12) true v) (fun _ _ _ => false)) = true := by kernel_rfl
theorem tk32_22 (τ : Nat → Nat) : mkTK τ tbl (putO (tokO 12 97 122 22 [] (some 32) 103) .leaf) (fun h0 => R0 50 (.cons (.p 12 0) .nil) h0 (12 + 3 + 22) (tokK 12 97 122 22 [] (some 32) 103 160) (fun _ _ _ => false)) = true := by kernel_rfl
theorem tk59_21 (τ : Nat → Nat) : mkTK τ tbl (putO (tokO 12 97 122 21 [] (some 59) 103) .leaf) (fun h0 => R0 50 (.cons (.p 12 0) .nil) h0 (12 + 3 + 21) (tokK 12 97 122 21 [] (some 59) 103 160) (fun _ _ _ => false)) = true := by kernel_rfl
theorem pl20 (τ : Nat → Nat) : mkTK τ tbl .leaf (fun h0 => R0 162 (.cons (.w (wordV 97 122 20 12)) .nil) h0 (12 + 20) (fun v _ _ => isSame (wordV 97 122 20 12) true v) (fun _ _ _ => false)) = true := by kernel_rfl
theorem tk32_18 (τ : Nat → Nat) : mkTK τ tbl (putO (tokO 12 97 122 18 [] (some 32) 103) .leaf) (fun h0 => R0 50 (.cons (.p 12 0) .nil) h0 (12 + 3 + 18) (tokK 12 97 122 18 [] (some 32) 103 160) (fun _ _ _ => false)) = true := by kernel_rfl
theorem tk59_17 (τ : Nat → Nat) : mkTK τ tbl (putO (tokO 12 97 122 17 [] (some 59) 103) .leaf) (fun h0 => R0 50 (.cons (.p 12 0) .nil) h0 (12 + 3 + 17) (tokK 12 97 122 17 [] (some 59) 103 160) (fun _ _ _ => false)) = true := by kernel_rfl
theorem pl16 (τ : Nat → Nat) : mkTK τ tbl .leaf (fun h0 => R0 162 (.cons (.w (wordV 97 122 16 12)) .nil) h0 (12 + 16) (fun v _ _ => isSame (wordV 97 122 16 12) true v) (fun _ _ _ => false)) = true := by kernel_rfl
theorem tk32_14 (τ : Nat → Nat) : mkTK τ tbl (putO (tokO 12 97 122 14 [] (some 32) 103) .leaf) (fun h0 => R0 50 (.cons (.p 12 0) .nil) h0 (12 + 3 + 14) (tokK 12 97 122 14 [] (some 32) 103 160) (fun _ _ _ => false)) = true := by kernel_rfl
theorem tk59_13 (τ : Nat → Nat) : mkTK τ tbl (putO (tokO 12 97 122 13 [] (some 59) 103) .leaf) (fun h0 => R0 50 (.cons (.p 12 0) .nil) h0 (12 + 3 + 13) (tokK 12 97 122 13 [] (some 59) 103 160) (fun _ _ _ => false)) = true := by kernel_rfl
theorem pl12 (τ : Nat → Nat) : mkTK τ tbl .leaf (fun h0 => R0 162 (.cons (.w (wordV 97 122 12 12)) .nil) h0 (12 + 12) (fun v _ _ => isSame (wordV 97 122 12 12) true v) (fun _ _ _ => false)) = true := by kernel_rfl
theorem tk32_10 (τ : Nat → Nat) : mkTK τ tbl (putO (tokO 12 97 122 10 [] (some 32) 103) .leaf) (fun h0 => R0 50 (.cons (.p 12 0) .nil) h0 (12 + 3 + 10) (tokK 12 97 122 10 [] (some 32) 103 160) (fun _ _ _ => false)) = true := by kernel_rfl
theorem tk59_9 (τ : Nat → Nat) : mkTK τ tbl (putO (tokO 12 97 122 9 [] (some 59) 103) .leaf) (fun h0 => R0 50 (.cons (.p 12 0) .nil) h0 (12 + 3 + 9) (tokK 12 97 122 9 [] (some 59) 103 160) (fun _ _ _ => false)) = true := by kernel_rfl
theorem pl8 (τ : Nat → Nat) : mkTK τ tbl .leaf (fun h0 => R0 162 (.cons (.w (wordV 97 122 8 12)) .nil) h0 (12 + 8) (fun v _ _ => isSame (wordV 97 122 8 12) true v) (fun _ _ _ => false)) = true := by kernel_rfl
theorem tk32_6 (τ : Nat → Nat) : mkTK τ tbl (putO (tokO 12 97 122 6 [] (some 32) 103) .leaf) (fun h0 => R0 50 (.cons (.p 12 0) .nil) h0 (12 + 3 + 6) (tokK 12 97 122 6 [] (some 32) 103 160) (fun _ _ _ => false)) = true := by kernel_rfl
theorem tk59_5 (τ : Nat → Nat) : mkTK τ tbl (putO (tokO 12 97 122 5 [] (some 59) 103) .leaf) (fun h0 => R0 50 (.cons (.p 12 0) .nil) h0 (12 + 3 + 5) (tokK 12 97 122 5 [] (some 59) 103 160) (fun _ _ _ => false)) = true := by kernel_rfl
theorem pl4 (τ : Nat → Nat) : mkTK τ tbl .leaf (fun h0 => R0 162 (.cons (.w (wordV 97 122 4 12)) .nil) h0 (12 + 4) (fun v _ _ => isSame (wordV 97 122 4 12) true v) (fun _ _ _ => false)) = true := by kernel_rfl
theorem tk32_2 (τ : Nat → Nat) : mkTK τ tbl (putO (tokO 12 97 122 2 [] (some 32) 103) .leaf) (fun h0 => R0 50 (.cons (.p 12 0) .nil) h0 (12 + 3 + 2) (tokK 12 97 122 2 [] (some 32) 103 160) (fun _ _ _ => false)) = true := by kernel_rfl
theorem tk59_1 (τ : Nat → Nat) : mkTK τ tbl (putO (tokO 12 97 122 1 [] (some 59) 103) .leaf) (fun h0 => R0 50 (.cons (.p 12 0) .nil) h0 (12 + 3 + 1) (tokK 12 97 122 1 [] (some 59) 103 160) (fun _ _ _ => false)) = true := by kernel_rfl
end
end Go.Proofs.YtcmnkndbcecbiaaGreatDoor
