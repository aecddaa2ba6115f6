/-
  Words of each length: how a scanner reads them, and that they are patterns of themselves (2 of 4). No condition.
-/
import Derived.Test.YtcmnkndbcecbiaaGreatDoorHkC
open Go Go.Mx
namespace Go.Proofs.YtcmnkndbcecbiaaGreatDoor
set_option maxRecDepth 1000000
noncomputable section
theorem tk59_60 (τ : Nat → Nat) : mkTK τ tbl (putO (tokO 12 97 122 60 [] (some 59) 103) .leaf) (fun h0 => R0 50 (.cons (.p 12 0) .nil) h0 (12 + 3 + 60) (tokK 12 97 122 60 [] (some 59) 103 160) (fun _ _ _ => false)) = true := by kernel_rfl
theorem pl59 (τ : Nat → Nat) : mkTK τ tbl .leaf (fun h0 => R0 162 (.cons (.w (wordV 97 122 59 12)) .nil) h0 (12 + 59) (fun v _ _ => isSame (wordV 97 122 59 12) true v) (fun _ _ _ => false)) = true := by kernel_rfl
theorem tk32_57 (τ : Nat → Nat) : mkTK τ tbl (putO (tokO 12 97 122 57 [] (some 32) 103) .leaf) (fun h0 => R0 50 (.cons (.p 12 0) .nil) h0 (12 + 3 + 57) (tokK 12 97 122 57 [] (some 32) 103 160) (fun _ _ _ => false)) = true := by kernel_rfl
theorem tk59_56 (τ : Nat → Nat) : mkTK τ tbl (putO (tokO 12 97 122 56 [] (some 59) 103) .leaf) (fun h0 => R0 50 (.cons (.p 12 0) .nil) h0 (12 + 3 + 56) (tokK 12 97 122 56 [] (some 59) 103 160) (fun _ _ _ => false)) = true := by kernel_rfl
theorem pl55 (τ : Nat → Nat) : mkTK τ tbl .leaf (fun h0 => R0 162 (.cons (.w (wordV 97 122 55 12)) .nil) h0 (12 + 55) (fun v _ _ => isSame (wordV 97 122 55 12) true v) (fun _ _ _ => false)) = true := by kernel_rfl
theorem tk32_53 (τ : Nat → Nat) : mkTK τ tbl (putO (tokO 12 97 122 53 [] (some 32) 103) .leaf) (fun h0 => R0 50 (.cons (.p 12 0) .nil) h0 (12 + 3 + 53) (tokK 12 97 122 53 [] (some 32) 103 160) (fun _ _ _ => false)) = true := by kernel_rfl
theorem tk59_52 (τ : Nat → Nat) : mkTK τ tbl (putO (tokO 12 97 122 52 [] (some 59) 103) .leaf) (fun h0 => R0 50 (.cons (.p 12 0) .nil) h0 (12 + 3 + 52) (tokK 12 97 122 52 [] (some 59) 103 160) (fun _ _ _ => false)) = true := by kernel_rfl
theorem pl51 (τ : Nat → Nat) : mkTK τ tbl .leaf (fun h0 => R0 162 (.cons (.w (wordV 97 122 51 12)) .nil) h0 (12 + 51) (fun v _ _ => isSame (wordV 97 122 51 12) true v) (fun _ _ _ => false)) = true := by kernel_rfl
theorem tk32_49 (τ : Nat → Nat) : mkTK τ tbl (putO (tokO 12 97 122 49 [] (some 32) 103) .leaf) (fun h0 => R0 50 (.cons (.p 12 0) .nil) h0 (12 + 3 + 49) (tokK 12 97 122 49 [] (some 32) 103 160) (fun _ _ _ => false)) = true := by kernel_rfl
theorem tk59_48 (τ : Nat → Nat) : mkTK τ tbl (putO (tokO 12 97 122 48 [] (some 59) 103) .leaf) (fun h0 => R0 50 (.cons (.p 12 0) .nil) h0 (12 + 3 + 48) (tokK 12 97 122 48 [] (some 59) 103 160) (fun _ _ _ => false)) = true := by kernel_rfl
theorem pl47 (τ : Nat → Nat) : mkTK τ tbl .leaf (fun h0 => R0 162 (.cons (.w (wordV 97 122 47 12)) .nil) h0 (12 + 47) (fun v _ _ => isSame (wordV 97 122 47 12) true v) (fun _ _ _ => false)) = true := by kernel_rfl
theorem tk32_45 (τ : Nat → Nat) : mkTK τ tbl (putO (tokO 12 97 122 45 [] (some 32) 103) .leaf) (fun h0 => R0 50 (.cons (.p 12 0) .nil) h0 (12 + 3 + 45) (tokK 12 97 122 45 [] (some 32) 103 160) (fun _ _ _ => false)) = true := by kernel_rfl
theorem tk59_44 (τ : Nat → Nat) : mkTK τ tbl (putO (tokO 12 97 122 44 [] (some 59) 103) .leaf) (fun h0 => R0 50 (.cons (.p 12 0) .nil) h0 (12 + 3 + 44) (tokK 12 97 122 44 [] (some 59) 103 160) (fun _ _ _ => false)) = true := by kernel_rfl
theorem pl43 (τ : Nat → Nat) : mkTK τ tbl .leaf (fun h0 => R0 162 (.cons (.w (wordV 97 122 43 12)) .nil) h0 (12 + 43) (fun v _ _ => isSame (wordV 97 122 43 12) true v) (fun _ _ _ => false)) = true := by kernel_rfl
theorem tk32_41 (τ : Nat → Nat) : mkTK τ tbl (putO (tokO 12 97 122 41 [] (some 32) 103) .leaf) (fun h0 => R0 50 (.cons (.p 12 0) .nil) h0 (12 + 3 + 41) (tokK 12 97 122 41 [] (some 32) 103 160) (fun _ _ _ => false)) = true := by kernel_rfl
theorem tk59_40 (τ : Nat → Nat) : mkTK τ tbl (putO (tokO 12 97 122 40 [] (some 59) 103) .leaf) (fun h0 => R0 50 (.cons (.p 12 0) .nil) h0 (12 + 3 + 40) (tokK 12 97 122 40 [] (some 59) 103 160) (fun _ _ _ => false)) = true := by kernel_rfl
theorem pl39 (τ : Nat → Nat) : mkTK τ tbl .leaf (fun h0 => R0 162 (.cons (.w (wordV 97 122 39 12)) .nil) h0 (12 + 39) (fun v _ _ => isSame (wordV 97 122 39 12) true v) (fun _ _ _ => false)) = true := by kernel_rfl
theorem tk32_37 (τ : Nat → Nat) : mkTK τ tbl (putO (tokO 12 97 122 37 [] (some 32) 103) .leaf) (fun h0 => R0 50 (.cons (.p 12 0) .nil) h0 (12 + 3 + 37) (tokK 12 97 122 37 [] (some 32) 103 160) (fun _ _ _ => false)) = true := by kernel_rfl
theorem tk59_36 (τ : Nat → Nat) : mkTK τ tbl (putO (tokO 12 97 122 36 [] (some 59) 103) .leaf) (fun h0 => R0 50 (.cons (.p 12 0) .nil) h0 (12 + 3 + 36) (tokK 12 97 122 36 [] (some 59) 103 160) (fun _ _ _ => false)) = true := by kernel_rfl
theorem pl35 (τ : Nat → Nat) : mkTK τ tbl .leaf (fun h0 => R0 162 (.cons (.w (wordV 97 122 35 12)) .nil) h0 (12 + 35) (fun v _ _ => isSame (wordV 97 122 35 12) true v) (fun _ _ _ => false)) = true := by kernel_rfl
theorem tk32_33 (τ : Nat → Nat) : mkTK τ tbl (putO (tokO 12 97 122 33 [] (some 32) 103) .leaf) (fun h0 => R0 50 (.cons (.p 12 0) .nil) h0 (12 + 3 + 33) (tokK 12 97 122 33 [] (some 32) 103 160) (fun _ _ _ => false)) = true := by kernel_rfl
theorem tk59_32 (τ : Nat → Nat) : mkTK τ tbl (putO (tokO 12 97 122 32 [] (some 59) 103) .leaf) (fun h0 => R0 50 (.cons (.p 12 0) .nil) h0 (12 + 3 + 32) (tokK 12 97 122 32 [] (some 59) 103 160) (fun _ _ _ => false)) = true := by kernel_rfl
theorem pl31 (τ : Nat → Nat) : mkTK τ tbl .leaf (fun h0 => R0 162 (.cons (.w (wordV 97 122 31 12)) .nil) h0 (12 + 31) (fun v _ _ => isSame (wordV 97 122 31 12) true v) (fun _ _ _ => false)) = true := by kernel_rfl
theorem tk32_29 (τ : Nat → Nat) : mkTK τ tbl (putO (tokO 12 97 122 29 [] (some 32) 103) .leaf) (fun h0 => R0 50 (.cons (.p 12 0) .nil) h0 (12 + 3 + 29) (tokK 12 97 122 29 [] (some 32) 103 160) (fun _ _ _ => false)) = true := by kernel_rfl
theorem tk59_28 (τ : Nat → Nat) : mkTK τ tbl (putO (tokO 12 97 122 28 [] (some 59) 103) .leaf) (fun h0 => R0 50 (.cons (.p 12 0) .nil) h0 (12 + 3 + 28) (tokK 12 97 122 28 [] (some 59) 103 160) (fun _ _ _ => false)) = true := by kernel_rfl
theorem pl27 (τ : Nat → Nat) : mkTK τ tbl .leaf (fun h0 => R0 162 (.cons (.w (wordV 97 122 27 12)) .nil) h0 (12 + 27) (fun v _ _ => isSame (wordV 97 122 27 12) true v) (fun _ _ _ => false)) = true := by kernel_rfl
theorem tk32_25 (τ : Nat → Nat) : mkTK τ tbl (putO (tokO 12 97 122 25 [] (some 32) 103) .leaf) (fun h0 => R0 50 (.cons (.p 12 0) .nil) h0 (12 + 3 + 25) (tokK 12 97 122 25 [] (some 32) 103 160) (fun _ _ _ => false)) = true := by kernel_rfl
theorem tk59_24 (τ : Nat → Nat) : mkTK τ tbl (putO (tokO 12 97 122 24 [] (some 59) 103) .leaf) (fun h0 => R0 50 (.cons (.p 12 0) .nil) h0 (12 + 3 + 24) (tokK 12 97 122 24 [] (some 59) 103 160) (fun _ _ _ => false)) = true := by kernel_rfl
theorem pl23 (τ : Nat → Nat) : mkTK τ tbl .leaf (fun h0 => R0 162 (.cons (.w (wordV 97 122 23 12)) .nil) h0 (12 + 23) (fun v _ _ => isSame (wordV 97 122 23 12) true v) (fun _ _ _ => false)) = true := by kernel_rfl
theorem tk32_21 (τ : Nat → Nat) : mkTK τ tbl (putO (tokO 12 97 122 21 [] (some 32) 103) .leaf) (fun h0 => R0 50 (.cons (.p 12 0) .nil) h0 (12 + 3 + 21) (tokK 12 97 122 21 [] (some 32) 103 160) (fun _ _ _ => false)) = true := by kernel_rfl
theorem tk59_20 (τ : Nat → Nat) : mkTK τ tbl (putO (tokO 12 97 122 20 [] (some 59) 103) .leaf) (fun h0 => R0 50 (.cons (.p 12 0) .nil) h0 (12 + 3 + 20) (tokK 12 97 122 20 [] (some 59) 103 160) (fun _ _ _ => false)) = true := by kernel_rfl
theorem pl19 (τ : Nat → Nat) : mkTK τ tbl .leaf (fun h0 => R0 162 (.cons (.w (wordV 97 122 19 12)) .nil) h0 (12 + 19) (fun v _ _ => isSame (wordV 97 122 19 12) true v) (fun _ _ _ => false)) = true := by kernel_rfl
theorem tk32_17 (τ : Nat → Nat) : mkTK τ tbl (putO (tokO 12 97 122 17 [] (some 32) 103) .leaf) (fun h0 => R0 50 (.cons (.p 12 0) .nil) h0 (12 + 3 + 17) (tokK 12 97 122 17 [] (some 32) 103 160) (fun _ _ _ => false)) = true := by kernel_rfl
theorem tk59_16 (τ : Nat → Nat) : mkTK τ tbl (putO (tokO 12 97 122 16 [] (some 59) 103) .leaf) (fun h0 => R0 50 (.cons (.p 12 0) .nil) h0 (12 + 3 + 16) (tokK 12 97 122 16 [] (some 59) 103 160) (fun _ _ _ => false)) = true := by kernel_rfl
theorem pl15 (τ : Nat → Nat) : mkTK τ tbl .leaf (fun h0 => R0 162 (.cons (.w (wordV 97 122 15 12)) .nil) h0 (12 + 15) (fun v _ _ => isSame (wordV 97 122 15 12) true v) (fun _ _ _ => false)) = true := by kernel_rfl
theorem tk32_13 (τ : Nat → Nat) : mkTK τ tbl (putO (tokO 12 97 122 13 [] (some 32) 103) .leaf) (fun h0 => R0 50 (.cons (.p 12 0) .nil) h0 (12 + 3 + 13) (tokK 12 97 122 13 [] (some 32) 103 160) (fun _ _ _ => false)) = true := by kernel_rfl
theorem tk59_12 (τ : Nat → Nat) : mkTK τ tbl (putO (tokO 12 97 122 12 [] (some 59) 103) .leaf) (fun h0 => R0 50 (.cons (.p 12 0) .nil) h0 (12 + 3 + 12) (tokK 12 97 122 12 [] (some 59) 103 160) (fun _ _ _ => false)) = true := by kernel_rfl
theorem pl11 (τ : Nat → Nat) : mkTK τ tbl .leaf (fun h0 => R0 162 (.cons (.w (wordV 97 122 11 12)) .nil) h0 (12 + 11) (fun v _ _ => isSame (wordV 97 122 11 12) true v) (fun _ _ _ => false)) = true := by kernel_rfl
theorem tk32_9 (τ : Nat → Nat) : mkTK τ tbl (putO (tokO 12 97 122 9 [] (some 32) 103) .leaf) (fun h0 => R0 50 (.cons (.p 12 0) .nil) h0 (12 + 3 + 9) (tokK 12 97 122 9 [] (some 32) 103 160) (fun _ _ _ => false)) = true := by kernel_rfl
theorem tk59_8 (τ : Nat → Nat) : mkTK τ tbl (putO (tokO 12 97 122 8 [] (some 59) 103) .leaf) (fun h0 => R0 50 (.cons (.p 12 0) .nil) h0 (12 + 3 + 8) (tokK 12 97 122 8 [] (some 59) 103 160) (fun _ _ _ => false)) = true := by kernel_rfl
theorem pl7 (τ : Nat → Nat) : mkTK τ tbl .leaf (fun h0 => R0 162 (.cons (.w (wordV 97 122 7 12)) .nil) h0 (12 + 7) (fun v _ _ => isSame (wordV 97 122 7 12) true v) (fun _ _ _ => false)) = true := by kernel_rfl
theorem tk32_5 (τ : Nat → Nat) : mkTK τ tbl (putO (tokO 12 97 122 5 [] (some 32) 103) .leaf) (fun h0 => R0 50 (.cons (.p 12 0) .nil) h0 (12 + 3 + 5) (tokK 12 97 122 5 [] (some 32) 103 160) (fun _ _ _ => false)) = true := by kernel_rfl
theorem tk59_4 (τ : Nat → Nat) : mkTK τ tbl (putO (tokO 12 97 122 4 [] (some 59) 103) .leaf) (fun h0 => R0 50 (.cons (.p 12 0) .nil) h0 (12 + 3 + 4) (tokK 12 97 122 4 [] (some 59) 103 160) (fun _ _ _ => false)) = true := by kernel_rfl
theorem pl3 (τ : Nat → Nat) : mkTK τ tbl .leaf (fun h0 => R0 162 (.cons (.w (wordV 97 122 3 12)) .nil) h0 (12 + 3) (fun v _ _ => isSame (wordV 97 122 3 12) true v) (fun _ _ _ => false)) = true := by kernel_rfl
theorem tk32_1 (τ : Nat → Nat) : mkTK τ tbl (putO (tokO 12 97 122 1 [] (some 32) 103) .leaf) (fun h0 => R0 50 (.cons (.p 12 0) .nil) h0 (12 + 3 + 1) (tokK 12 97 122 1 [] (some 32) 103 160) (fun _ _ _ => false)) = true := by kernel_rfl
end
end Go.Proofs.YtcmnkndbcecbiaaGreatDoor
