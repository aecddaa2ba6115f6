/-
  Words of each length: how a scanner reads them, and that they are patterns of themselves (1 of 4). No condition.
-/
import Derived.Test.YtcmnkndbcecbiaaGreatDoorHkC
open Go Go.Mx
namespace Go.Proofs.YtcmnkndbcecbiaaGreatDoor
set_option maxRecDepth 1000000
noncomputable section
theorem tk32_60 (τ : Nat → Nat) : mkTK τ tbl (putO (tokO 12 97 122 60 [] (some 32) 103) .leaf) (fun h0 => R0 50 (.cons (.p 12 0) .nil) h0 (12 + 3 + 60) (tokK 12 97 122 60 [] (some 32) 103 160) (fun _ _ _ => false)) = true := by kernel_rfl
theorem tk59_59 (τ : Nat → Nat) : mkTK τ tbl (putO (tokO 12 97 122 59 [] (some 59) 103) .leaf) (fun h0 => R0 50 (.cons (.p 12 0) .nil) h0 (12 + 3 + 59) (tokK 12 97 122 59 [] (some 59) 103 160) (fun _ _ _ => false)) = true := by kernel_rfl
theorem pl58 (τ : Nat → Nat) : mkTK τ tbl .leaf (fun h0 => R0 162 (.cons (.w (wordV 97 122 58 12)) .nil) h0 (12 + 58) (fun v _ _ => isSame (wordV 97 122 58 12) true v) (fun _ _ _ => false)) = true := by kernel_rfl
theorem tk32_56 (τ : Nat → Nat) : mkTK τ tbl (putO (tokO 12 97 122 56 [] (some 32) 103) .leaf) (fun h0 => R0 50 (.cons (.p 12 0) .nil) h0 (12 + 3 + 56) (tokK 12 97 122 56 [] (some 32) 103 160) (fun _ _ _ => false)) = true := by kernel_rfl
theorem tk59_55 (τ : Nat → Nat) : mkTK τ tbl (putO (tokO 12 97 122 55 [] (some 59) 103) .leaf) (fun h0 => R0 50 (.cons (.p 12 0) .nil) h0 (12 + 3 + 55) (tokK 12 97 122 55 [] (some 59) 103 160) (fun _ _ _ => false)) = true := by kernel_rfl
theorem pl54 (τ : Nat → Nat) : mkTK τ tbl .leaf (fun h0 => R0 162 (.cons (.w (wordV 97 122 54 12)) .nil) h0 (12 + 54) (fun v _ _ => isSame (wordV 97 122 54 12) true v) (fun _ _ _ => false)) = true := by kernel_rfl
theorem tk32_52 (τ : Nat → Nat) : mkTK τ tbl (putO (tokO 12 97 122 52 [] (some 32) 103) .leaf) (fun h0 => R0 50 (.cons (.p 12 0) .nil) h0 (12 + 3 + 52) (tokK 12 97 122 52 [] (some 32) 103 160) (fun _ _ _ => false)) = true := by kernel_rfl
theorem tk59_51 (τ : Nat → Nat) : mkTK τ tbl (putO (tokO 12 97 122 51 [] (some 59) 103) .leaf) (fun h0 => R0 50 (.cons (.p 12 0) .nil) h0 (12 + 3 + 51) (tokK 12 97 122 51 [] (some 59) 103 160) (fun _ _ _ => false)) = true := by kernel_rfl
theorem pl50 (τ : Nat → Nat) : mkTK τ tbl .leaf (fun h0 => R0 162 (.cons (.w (wordV 97 122 50 12)) .nil) h0 (12 + 50) (fun v _ _ => isSame (wordV 97 122 50 12) true v) (fun _ _ _ => false)) = true := by kernel_rfl
theorem tk32_48 (τ : Nat → Nat) : mkTK τ tbl (putO (tokO 12 97 122 48 [] (some 32) 103) .leaf) (fun h0 => R0 50 (.cons (.p 12 0) .nil) h0 (12 + 3 + 48) (tokK 12 97 122 48 [] (some 32) 103 160) (fun _ _ _ => false)) = true := by kernel_rfl
theorem tk59_47 (τ : Nat → Nat) : mkTK τ tbl (putO (tokO 12 97 122 47 [] (some 59) 103) .leaf) (fun h0 => R0 50 (.cons (.p 12 0) .nil) h0 (12 + 3 + 47) (tokK 12 97 122 47 [] (some 59) 103 160) (fun _ _ _ => false)) = true := by kernel_rfl
theorem pl46 (τ : Nat → Nat) : mkTK τ tbl .leaf (fun h0 => R0 162 (.cons (.w (wordV 97 122 46 12)) .nil) h0 (12 + 46) (fun v _ _ => isSame (wordV 97 122 46 12) true v) (fun _ _ _ => false)) = true := by kernel_rfl
theorem tk32_44 (τ : Nat → Nat) : mkTK τ tbl (putO (tokO 12 97 122 44 [] (some 32) 103) .leaf) (fun h0 => R0 50 (.cons (.p 12 0) .nil) h0 (12 + 3 + 44) (tokK 12 97 122 44 [] (some 32) 103 160) (fun _ _ _ => false)) = true := by kernel_rfl
theorem tk59_43 (τ : Nat → Nat) : mkTK τ tbl (putO (tokO 12 97 122 43 [] (some 59) 103) .leaf) (fun h0 => R0 50 (.cons (.p 12 0) .nil) h0 (12 + 3 + 43) (tokK 12 97 122 43 [] (some 59) 103 160) (fun _ _ _ => false)) = true := by kernel_rfl
theorem pl42 (τ : Nat → Nat) : mkTK τ tbl .leaf (fun h0 => R0 162 (.cons (.w (wordV 97 122 42 12)) .nil) h0 (12 + 42) (fun v _ _ => isSame (wordV 97 122 42 12) true v) (fun _ _ _ => false)) = true := by kernel_rfl
theorem tk32_40 (τ : Nat → Nat) : mkTK τ tbl (putO (tokO 12 97 122 40 [] (some 32) 103) .leaf) (fun h0 => R0 50 (.cons (.p 12 0) .nil) h0 (12 + 3 + 40) (tokK 12 97 122 40 [] (some 32) 103 160) (fun _ _ _ => false)) = true := by kernel_rfl
theorem tk59_39 (τ : Nat → Nat) : mkTK τ tbl (putO (tokO 12 97 122 39 [] (some 59) 103) .leaf) (fun h0 => R0 50 (.cons (.p 12 0) .nil) h0 (12 + 3 + 39) (tokK 12 97 122 39 [] (some 59) 103 160) (fun _ _ _ => false)) = true := by kernel_rfl
theorem pl38 (τ : Nat → Nat) : mkTK τ tbl .leaf (fun h0 => R0 162 (.cons (.w (wordV 97 122 38 12)) .nil) h0 (12 + 38) (fun v _ _ => isSame (wordV 97 122 38 12) true v) (fun _ _ _ => false)) = true := by kernel_rfl
theorem tk32_36 (τ : Nat → Nat) : mkTK τ tbl (putO (tokO 12 97 122 36 [] (some 32) 103) .leaf) (fun h0 => R0 50 (.cons (.p 12 0) .nil) h0 (12 + 3 + 36) (tokK 12 97 122 36 [] (some 32) 103 160) (fun _ _ _ => false)) = true := by kernel_rfl
theorem tk59_35 (τ : Nat → Nat) : mkTK τ tbl (putO (tokO 12 97 122 35 [] (some 59) 103) .leaf) (fun h0 => R0 50 (.cons (.p 12 0) .nil) h0 (12 + 3 + 35) (tokK 12 97 122 35 [] (some 59) 103 160) (fun _ _ _ => false)) = true := by kernel_rfl
theorem pl34 (τ : Nat → Nat) : mkTK τ tbl .leaf (fun h0 => R0 162 (.cons (.w (wordV 97 122 34 12)) .nil) h0 (12 + 34) (fun v _ _ => isSame (wordV 97 122 34 12) true v) (fun _ _ _ => false)) = true := by kernel_rfl
theorem tk32_32 (τ : Nat → Nat) : mkTK τ tbl (putO (tokO 12 97 122 32 [] (some 32) 103) .leaf) (fun h0 => R0 50 (.cons (.p 12 0) .nil) h0 (12 + 3 + 32) (tokK 12 97 122 32 [] (some 32) 103 160) (fun _ _ _ => false)) = true := by kernel_rfl
theorem tk59_31 (τ : Nat → Nat) : mkTK τ tbl (putO (tokO 12 97 122 31 [] (some 59) 103) .leaf) (fun h0 => R0 50 (.cons (.p 12 0) .nil) h0 (12 + 3 + 31) (tokK 12 97 122 31 [] (some 59) 103 160) (fun _ _ _ => false)) = true := by kernel_rfl
theorem pl30 (τ : Nat → Nat) : mkTK τ tbl .leaf (fun h0 => R0 162 (.cons (.w (wordV 97 122 30 12)) .nil) h0 (12 + 30) (fun v _ _ => isSame (wordV 97 122 30 12) true v) (fun _ _ _ => false)) = true := by kernel_rfl
theorem tk32_28 (τ : Nat → Nat) : mkTK τ tbl (putO (tokO 12 97 122 28 [] (some 32) 103) .leaf) (fun h0 => R0 50 (.cons (.p 12 0) .nil) h0 (12 + 3 + 28) (tokK 12 97 122 28 [] (some 32) 103 160) (fun _ _ _ => false)) = true := by kernel_rfl
theorem tk59_27 (τ : Nat → Nat) : mkTK τ tbl (putO (tokO 12 97 122 27 [] (some 59) 103) .leaf) (fun h0 => R0 50 (.cons (.p 12 0) .nil) h0 (12 + 3 + 27) (tokK 12 97 122 27 [] (some 59) 103 160) (fun _ _ _ => false)) = true := by kernel_rfl
theorem pl26 (τ : Nat → Nat) : mkTK τ tbl .leaf (fun h0 => R0 162 (.cons (.w (wordV 97 122 26 12)) .nil) h0 (12 + 26) (fun v _ _ => isSame (wordV 97 122 26 12) true v) (fun _ _ _ => false)) = true := by kernel_rfl
theorem tk32_24 (τ : Nat → Nat) : mkTK τ tbl (putO (tokO 12 97 122 24 [] (some 32) 103) .leaf) (fun h0 => R0 50 (.cons (.p 12 0) .nil) h0 (12 + 3 + 24) (tokK 12 97 122 24 [] (some 32) 103 160) (fun _ _ _ => false)) = true := by kernel_rfl
theorem tk59_23 (τ : Nat → Nat) : mkTK τ tbl (putO (tokO 12 97 122 23 [] (some 59) 103) .leaf) (fun h0 => R0 50 (.cons (.p 12 0) .nil) h0 (12 + 3 + 23) (tokK 12 97 122 23 [] (some 59) 103 160) (fun _ _ _ => false)) = true := by kernel_rfl
theorem pl22 (τ : Nat → Nat) : mkTK τ tbl .leaf (fun h0 => R0 162 (.cons (.w (wordV 97 122 22 12)) .nil) h0 (12 + 22) (fun v _ _ => isSame (wordV 97 122 22 12) true v) (fun _ _ _ => false)) = true := by kernel_rfl
theorem tk32_20 (τ : Nat → Nat) : mkTK τ tbl (putO (tokO 12 97 122 20 [] (some 32) 103) .leaf) (fun h0 => R0 50 (.cons (.p 12 0) .nil) h0 (12 + 3 + 20) (tokK 12 97 122 20 [] (some 32) 103 160) (fun _ _ _ => false)) = true := by kernel_rfl
theorem tk59_19 (τ : Nat → Nat) : mkTK τ tbl (putO (tokO 12 97 122 19 [] (some 59) 103) .leaf) (fun h0 => R0 50 (.cons (.p 12 0) .nil) h0 (12 + 3 + 19) (tokK 12 97 122 19 [] (some 59) 103 160) (fun _ _ _ => false)) = true := by kernel_rfl
theorem pl18 (τ : Nat → Nat) : mkTK τ tbl .leaf (fun h0 => R0 162 (.cons (.w (wordV 97 122 18 12)) .nil) h0 (12 + 18) (fun v _ _ => isSame (wordV 97 122 18 12) true v) (fun _ _ _ => false)) = true := by kernel_rfl
theorem tk32_16 (τ : Nat → Nat) : mkTK τ tbl (putO (tokO 12 97 122 16 [] (some 32) 103) .leaf) (fun h0 => R0 50 (.cons (.p 12 0) .nil) h0 (12 + 3 + 16) (tokK 12 97 122 16 [] (some 32) 103 160) (fun _ _ _ => false)) = true := by kernel_rfl
theorem tk59_15 (τ : Nat → Nat) : mkTK τ tbl (putO (tokO 12 97 122 15 [] (some 59) 103) .leaf) (fun h0 => R0 50 (.cons (.p 12 0) .nil) h0 (12 + 3 + 15) (tokK 12 97 122 15 [] (some 59) 103 160) (fun _ _ _ => false)) = true := by kernel_rfl
theorem pl14 (τ : Nat → Nat) : mkTK τ tbl .leaf (fun h0 => R0 162 (.cons (.w (wordV 97 122 14 12)) .nil) h0 (12 + 14) (fun v _ _ => isSame (wordV 97 122 14 12) true v) (fun _ _ _ => false)) = true := by kernel_rfl
theorem tk32_12 (τ : Nat → Nat) : mkTK τ tbl (putO (tokO 12 97 122 12 [] (some 32) 103) .leaf) (fun h0 => R0 50 (.cons (.p 12 0) .nil) h0 (12 + 3 + 12) (tokK 12 97 122 12 [] (some 32) 103 160) (fun _ _ _ => false)) = true := by kernel_rfl
theorem tk59_11 (τ : Nat → Nat) : mkTK τ tbl (putO (tokO 12 97 122 11 [] (some 59) 103) .leaf) (fun h0 => R0 50 (.cons (.p 12 0) .nil) h0 (12 + 3 + 11) (tokK 12 97 122 11 [] (some 59) 103 160) (fun _ _ _ => false)) = true := by kernel_rfl
theorem pl10 (τ : Nat → Nat) : mkTK τ tbl .leaf (fun h0 => R0 162 (.cons (.w (wordV 97 122 10 12)) .nil) h0 (12 + 10) (fun v _ _ => isSame (wordV 97 122 10 12) true v) (fun _ _ _ => false)) = true := by kernel_rfl
theorem tk32_8 (τ : Nat → Nat) : mkTK τ tbl (putO (tokO 12 97 122 8 [] (some 32) 103) .leaf) (fun h0 => R0 50 (.cons (.p 12 0) .nil) h0 (12 + 3 + 8) (tokK 12 97 122 8 [] (some 32) 103 160) (fun _ _ _ => false)) = true := by kernel_rfl
theorem tk59_7 (τ : Nat → Nat) : mkTK τ tbl (putO (tokO 12 97 122 7 [] (some 59) 103) .leaf) (fun h0 => R0 50 (.cons (.p 12 0) .nil) h0 (12 + 3 + 7) (tokK 12 97 122 7 [] (some 59) 103 160) (fun _ _ _ => false)) = true := by kernel_rfl
theorem pl6 (τ : Nat → Nat) : mkTK τ tbl .leaf (fun h0 => R0 162 (.cons (.w (wordV 97 122 6 12)) .nil) h0 (12 + 6) (fun v _ _ => isSame (wordV 97 122 6 12) true v) (fun _ _ _ => false)) = true := by kernel_rfl
theorem tk32_4 (τ : Nat → Nat) : mkTK τ tbl (putO (tokO 12 97 122 4 [] (some 32) 103) .leaf) (fun h0 => R0 50 (.cons (.p 12 0) .nil) h0 (12 + 3 + 4) (tokK 12 97 122 4 [] (some 32) 103 160) (fun _ _ _ => false)) = true := by kernel_rfl
theorem tk59_3 (τ : Nat → Nat) : mkTK τ tbl (putO (tokO 12 97 122 3 [] (some 59) 103) .leaf) (fun h0 => R0 50 (.cons (.p 12 0) .nil) h0 (12 + 3 + 3) (tokK 12 97 122 3 [] (some 59) 103 160) (fun _ _ _ => false)) = true := by kernel_rfl
theorem pl2 (τ : Nat → Nat) : mkTK τ tbl .leaf (fun h0 => R0 162 (.cons (.w (wordV 97 122 2 12)) .nil) h0 (12 + 2) (fun v _ _ => isSame (wordV 97 122 2 12) true v) (fun _ _ _ => false)) = true := by kernel_rfl
theorem pl0 (τ : Nat → Nat) : mkTK τ tbl .leaf (fun h0 => R0 162 (.cons (.w (wordV 97 122 0 12)) .nil) h0 (12 + 0) (fun v _ _ => isSame (wordV 97 122 0 12) true v) (fun _ _ _ => false)) = true := by kernel_rfl
end
end Go.Proofs.YtcmnkndbcecbiaaGreatDoor
