/-
  Words of each length: how a scanner reads them, and that they are patterns of themselves (4 of 4). No condition.
-/
import Derived.Test.YtcmnkndbcecbiaaGreatDoorHkC
open Go Go.Mx
namespace Go.Proofs.YtcmnkndbcecbiaaGreatDoor
set_option maxRecDepth 1000000
noncomputable section
theorem tk32_59 (τ : Nat → Nat) : mkTK τ tbl (putO (tokO 12 97 122 59 [] (some 32) 103) .leaf) (fun h0 => R0 50 (.cons (.p 12 0) .nil) h0 (12 + 3 + 59) (tokK 12 97 122 59 [] (some 32) 103 160) (fun _ _ _ => false)) = true := by kernel_rfl
theorem tk59_58 (τ : Nat → Nat) : mkTK τ tbl (putO (tokO 12 97 122 58 [] (some 59) 103) .leaf) (fun h0 => R0 50 (.cons (.p 12 0) .nil) h0 (12 + 3 + 58) (tokK 12 97 122 58 [] (some 59) 103 160) (fun _ _ _ => false)) = true := by kernel_rfl
theorem pl57 (τ : Nat → Nat) : mkTK τ tbl .leaf (fun h0 => R0 162 (.cons (.w (wordV 97 122 57 12)) .nil) h0 (12 + 57) (fun v _ _ => isSame (wordV 97 122 57 12) true v) (fun _ _ _ => false)) = true := by kernel_rfl
theorem tk32_55 (τ : Nat → Nat) : mkTK τ tbl (putO (tokO 12 97 122 55 [] (some 32) 103) .leaf) (fun h0 => R0 50 (.cons (.p 12 0) .nil) h0 (12 + 3 + 55) (tokK 12 97 122 55 [] (some 32) 103 160) (fun _ _ _ => false)) = true := by kernel_rfl
theorem tk59_54 (τ : Nat → Nat) : mkTK τ tbl (putO (tokO 12 97 122 54 [] (some 59) 103) .leaf) (fun h0 => R0 50 (.cons (.p 12 0) .nil) h0 (12 + 3 + 54) (tokK 12 97 122 54 [] (some 59) 103 160) (fun _ _ _ => false)) = true := by kernel_rfl
theorem pl53 (τ : Nat → Nat) : mkTK τ tbl .leaf (fun h0 => R0 162 (.cons (.w (wordV 97 122 53 12)) .nil) h0 (12 + 53) (fun v _ _ => isSame (wordV 97 122 53 12) true v) (fun _ _ _ => false)) = true := by kernel_rfl
theorem tk32_51 (τ : Nat → Nat) : mkTK τ tbl (putO (tokO 12 97 122 51 [] (some 32) 103) .leaf) (fun h0 => R0 50 (.cons (.p 12 0) .nil) h0 (12 + 3 + 51) (tokK 12 97 122 51 [] (some 32) 103 160) (fun _ _ _ => false)) = true := by kernel_rfl
theorem tk59_50 (τ : Nat → Nat) : mkTK τ tbl (putO (tokO 12 97 122 50 [] (some 59) 103) .leaf) (fun h0 => R0 50 (.cons (.p 12 0) .nil) h0 (12 + 3 + 50) (tokK 12 97 122 50 [] (some 59) 103 160) (fun _ _ _ => false)) = true := by kernel_rfl
theorem pl49 (τ : Nat → Nat) : mkTK τ tbl .leaf (fun h0 => R0 162 (.cons (.w (wordV 97 122 49 12)) .nil) h0 (12 + 49) (fun v _ _ => isSame (wordV 97 122 49 12) true v) (fun _ _ _ => false)) = true := by kernel_rfl
theorem tk32_47 (τ : Nat → Nat) : mkTK τ tbl (putO (tokO 12 97 122 47 [] (some 32) 103) .leaf) (fun h0 => R0 50 (.cons (.p 12 0) .nil) h0 (12 + 3 + 47) (tokK 12 97 122 47 [] (some 32) 103 160) (fun _ _ _ => false)) = true := by kernel_rfl
theorem tk59_46 (τ : Nat → Nat) : mkTK τ tbl (putO (tokO 12 97 122 46 [] (some 59) 103) .leaf) (fun h0 => R0 50 (.cons (.p 12 0) .nil) h0 (12 + 3 + 46) (tokK 12 97 122 46 [] (some 59) 103 160) (fun _ _ _ => false)) = true := by kernel_rfl
theorem pl45 (τ : Nat → Nat) : mkTK τ tbl .leaf (fun h0 => R0 162 (.cons (.w (wordV 97 122 45 12)) .nil) h0 (12 + 45) (fun v _ _ => isSame (wordV 97 122 45 12) true v) (fun _ _ _ => false)) = true := by kernel_rfl
theorem tk32_43 (τ : Nat → Nat) : mkTK τ tbl (putO (tokO 12 97 122 43 [] (some 32) 103) .leaf) (fun h0 => R0 50 (.cons (.p 12 0) .nil) h0 (12 + 3 + 43) (tokK 12 97 122 43 [] (some 32) 103 160) (fun _ _ _ => false)) = true := by kernel_rfl
theorem tk59_42 (τ : Nat → Nat) : mkTK τ tbl (putO (tokO 12 97 122 42 [] (some 59) 103) .leaf) (fun h0 => R0 50 (.cons (.p 12 0) .nil) h0 (12 + 3 + 42) (tokK 12 97 122 42 [] (some 59) 103 160) (fun _ _ _ => false)) = true := by kernel_rfl
theorem pl41 (τ : Nat → Nat) : mkTK τ tbl .leaf (fun h0 => R0 162 (.cons (.w (wordV 97 122 41 12)) .nil) h0 (12 + 41) (fun v _ _ => isSame (wordV 97 122 41 12) true v) (fun _ _ _ => false)) = true := by kernel_rfl
theorem tk32_39 (τ : Nat → Nat) : mkTK τ tbl (putO (tokO 12 97 122 39 [] (some 32) 103) .leaf) (fun h0 => R0 50 (.cons (.p 12 0) .nil) h0 (12 + 3 + 39) (tokK 12 97 122 39 [] (some 32) 103 160) (fun _ _ _ => false)) = true := by kernel_rfl
theorem tk59_38 (τ : Nat → Nat) : mkTK τ tbl (putO (tokO 12 97 122 38 [] (some 59) 103) .leaf) (fun h0 => R0 50 (.cons (.p 12 0) .nil) h0 (12 + 3 + 38) (tokK 12 97 122 38 [] (some 59) 103 160) (fun _ _ _ => false)) = true := by kernel_rfl
theorem pl37 (τ : Nat → Nat) : mkTK τ tbl .leaf (fun h0 => R0 162 (.cons (.w (wordV 97 122 37 12)) .nil) h0 (12 + 37) (fun v _ _ => isSame (wordV 97 122 37 12) true v) (fun _ _ _ => false)) = true := by kernel_rfl
theorem tk32_35 (τ : Nat → Nat) : mkTK τ tbl (putO (tokO 12 97 122 35 [] (some 32) 103) .leaf) (fun h0 => R0 50 (.cons (.p 12 0) .nil) h0 (12 + 3 + 35) (tokK 12 97 122 35 [] (some 32) 103 160) (fun _ _ _ => false)) = true := by kernel_rfl
theorem tk59_34 (τ : Nat → Nat) : mkTK τ tbl (putO (tokO 12 97 122 34 [] (some 59) 103) .leaf) (fun h0 => R0 50 (.cons (.p 12 0) .nil) h0 (12 + 3 + 34) (tokK 12 97 122 34 [] (some 59) 103 160) (fun _ _ _ => false)) = true := by kernel_rfl
theorem pl33 (τ : Nat → Nat) : mkTK τ tbl .leaf (fun h0 => R0 162 (.cons (.w (wordV 97 122 33 12)) .nil) h0 (12 + 33) (fun v _ _ => isSame (wordV 97 122 33 12) true v) (fun _ _ _ => false)) = true := by kernel_rfl
theorem tk32_31 (τ : Nat → Nat) : mkTK τ tbl (putO (tokO 12 97 122 31 [] (some 32) 103) .leaf) (fun h0 => R0 50 (.cons (.p 12 0) .nil) h0 (12 + 3 + 31) (tokK 12 97 122 31 [] (some 32) 103 160) (fun _ _ _ => false)) = true := by kernel_rfl
theorem tk59_30 (τ : Nat → Nat) : mkTK τ tbl (putO (tokO 12 97 122 30 [] (some 59) 103) .leaf) (fun h0 => R0 50 (.cons (.p 12 0) .nil) h0 (12 + 3 + 30) (tokK 12 97 122 30 [] (some 59) 103 160) (fun _ _ _ => false)) = true := by kernel_rfl
theorem pl29 (τ : Nat → Nat) : mkTK τ tbl .leaf (fun h0 => R0 162 (.cons (.w (wordV 97 122 29 12)) .nil) h0 (12 + 29) (fun v _ _ => isSame (wordV 97 122 29 12) true v) (fun _ _ _ => false)) = true := by kernel_rfl
theorem tk32_27 (τ : Nat → Nat) : mkTK τ tbl (putO (tokO 12 97 122 27 [] (some 32) 103) .leaf) (fun h0 => R0 50 (.cons (.p 12 0) .nil) h0 (12 + 3 + 27) (tokK 12 97 122 27 [] (some 32) 103 160) (fun _ _ _ => false)) = true := by kernel_rfl
theorem tk59_26 (τ : Nat → Nat) : mkTK τ tbl (putO (tokO 12 97 122 26 [] (some 59) 103) .leaf) (fun h0 => R0 50 (.cons (.p 12 0) .nil) h0 (12 + 3 + 26) (tokK 12 97 122 26 [] (some 59) 103 160) (fun _ _ _ => false)) = true := by kernel_rfl
theorem pl25 (τ : Nat → Nat) : mkTK τ tbl .leaf (fun h0 => R0 162 (.cons (.w (wordV 97 122 25 12)) .nil) h0 (12 + 25) (fun v _ _ => isSame (wordV 97 122 25 12) true v) (fun _ _ _ => false)) = true := by kernel_rfl
theorem tk32_23 (τ : Nat → Nat) : mkTK τ tbl (putO (tokO 12 97 122 23 [] (some 32) 103) .leaf) (fun h0 => R0 50 (.cons (.p 12 0) .nil) h0 (12 + 3 + 23) (tokK 12 97 122 23 [] (some 32) 103 160) (fun _ _ _ => false)) = true := by kernel_rfl
theorem tk59_22 (τ : Nat → Nat) : mkTK τ tbl (putO (tokO 12 97 122 22 [] (some 59) 103) .leaf) (fun h0 => R0 50 (.cons (.p 12 0) .nil) h0 (12 + 3 + 22) (tokK 12 97 122 22 [] (some 59) 103 160) (fun _ _ _ => false)) = true := by kernel_rfl
theorem pl21 (τ : Nat → Nat) : mkTK τ tbl .leaf (fun h0 => R0 162 (.cons (.w (wordV 97 122 21 12)) .nil) h0 (12 + 21) (fun v _ _ => isSame (wordV 97 122 21 12) true v) (fun _ _ _ => false)) = true := by kernel_rfl
theorem tk32_19 (τ : Nat → Nat) : mkTK τ tbl (putO (tokO 12 97 122 19 [] (some 32) 103) .leaf) (fun h0 => R0 50 (.cons (.p 12 0) .nil) h0 (12 + 3 + 19) (tokK 12 97 122 19 [] (some 32) 103 160) (fun _ _ _ => false)) = true := by kernel_rfl
theorem tk59_18 (τ : Nat → Nat) : mkTK τ tbl (putO (tokO 12 97 122 18 [] (some 59) 103) .leaf) (fun h0 => R0 50 (.cons (.p 12 0) .nil) h0 (12 + 3 + 18) (tokK 12 97 122 18 [] (some 59) 103 160) (fun _ _ _ => false)) = true := by kernel_rfl
theorem pl17 (τ : Nat → Nat) : mkTK τ tbl .leaf (fun h0 => R0 162 (.cons (.w (wordV 97 122 17 12)) .nil) h0 (12 + 17) (fun v _ _ => isSame (wordV 97 122 17 12) true v) (fun _ _ _ => false)) = true := by kernel_rfl
theorem tk32_15 (τ : Nat → Nat) : mkTK τ tbl (putO (tokO 12 97 122 15 [] (some 32) 103) .leaf) (fun h0 => R0 50 (.cons (.p 12 0) .nil) h0 (12 + 3 + 15) (tokK 12 97 122 15 [] (some 32) 103 160) (fun _ _ _ => false)) = true := by kernel_rfl
theorem tk59_14 (τ : Nat → Nat) : mkTK τ tbl (putO (tokO 12 97 122 14 [] (some 59) 103) .leaf) (fun h0 => R0 50 (.cons (.p 12 0) .nil) h0 (12 + 3 + 14) (tokK 12 97 122 14 [] (some 59) 103 160) (fun _ _ _ => false)) = true := by kernel_rfl
theorem pl13 (τ : Nat → Nat) : mkTK τ tbl .leaf (fun h0 => R0 162 (.cons (.w (wordV 97 122 13 12)) .nil) h0 (12 + 13) (fun v _ _ => isSame (wordV 97 122 13 12) true v) (fun _ _ _ => false)) = true := by kernel_rfl
theorem tk32_11 (τ : Nat → Nat) : mkTK τ tbl (putO (tokO 12 97 122 11 [] (some 32) 103) .leaf) (fun h0 => R0 50 (.cons (.p 12 0) .nil) h0 (12 + 3 + 11) (tokK 12 97 122 11 [] (some 32) 103 160) (fun _ _ _ => false)) = true := by kernel_rfl
theorem tk59_10 (τ : Nat → Nat) : mkTK τ tbl (putO (tokO 12 97 122 10 [] (some 59) 103) .leaf) (fun h0 => R0 50 (.cons (.p 12 0) .nil) h0 (12 + 3 + 10) (tokK 12 97 122 10 [] (some 59) 103 160) (fun _ _ _ => false)) = true := by kernel_rfl
theorem pl9 (τ : Nat → Nat) : mkTK τ tbl .leaf (fun h0 => R0 162 (.cons (.w (wordV 97 122 9 12)) .nil) h0 (12 + 9) (fun v _ _ => isSame (wordV 97 122 9 12) true v) (fun _ _ _ => false)) = true := by kernel_rfl
theorem tk32_7 (τ : Nat → Nat) : mkTK τ tbl (putO (tokO 12 97 122 7 [] (some 32) 103) .leaf) (fun h0 => R0 50 (.cons (.p 12 0) .nil) h0 (12 + 3 + 7) (tokK 12 97 122 7 [] (some 32) 103 160) (fun _ _ _ => false)) = true := by kernel_rfl
theorem tk59_6 (τ : Nat → Nat) : mkTK τ tbl (putO (tokO 12 97 122 6 [] (some 59) 103) .leaf) (fun h0 => R0 50 (.cons (.p 12 0) .nil) h0 (12 + 3 + 6) (tokK 12 97 122 6 [] (some 59) 103 160) (fun _ _ _ => false)) = true := by kernel_rfl
theorem pl5 (τ : Nat → Nat) : mkTK τ tbl .leaf (fun h0 => R0 162 (.cons (.w (wordV 97 122 5 12)) .nil) h0 (12 + 5) (fun v _ _ => isSame (wordV 97 122 5 12) true v) (fun _ _ _ => false)) = true := by kernel_rfl
theorem tk32_3 (τ : Nat → Nat) : mkTK τ tbl (putO (tokO 12 97 122 3 [] (some 32) 103) .leaf) (fun h0 => R0 50 (.cons (.p 12 0) .nil) h0 (12 + 3 + 3) (tokK 12 97 122 3 [] (some 32) 103 160) (fun _ _ _ => false)) = true := by kernel_rfl
theorem tk59_2 (τ : Nat → Nat) : mkTK τ tbl (putO (tokO 12 97 122 2 [] (some 59) 103) .leaf) (fun h0 => R0 50 (.cons (.p 12 0) .nil) h0 (12 + 3 + 2) (tokK 12 97 122 2 [] (some 59) 103 160) (fun _ _ _ => false)) = true := by kernel_rfl
theorem pl1 (τ : Nat → Nat) : mkTK τ tbl .leaf (fun h0 => R0 162 (.cons (.w (wordV 97 122 1 12)) .nil) h0 (12 + 1) (fun v _ _ => isSame (wordV 97 122 1 12) true v) (fun _ _ _ => false)) = true := by kernel_rfl
end
end Go.Proofs.YtcmnkndbcecbiaaGreatDoor
