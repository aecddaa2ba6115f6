/-
  Runs of quartermasterFiles, by the kernel (5 of 8). No condition.
-/
import Derived.Test.YtdkpggfooahnnaaGreatDoorRunquartermasterFiles0
open Go Go.Mx
namespace Go.Proofs.YtdkpggfooahnnaaGreatDoor
set_option maxRecDepth 1000000
noncomputable section
theorem xy_g19f (ty : Nat) (τ : Nat → Nat) : xyRun τ (.sl 12 0 19 1) (.cons (gdE false 13) (lsG gdL (fun _ => .nil) 18 16 18)) ty = true := by kernel_rfl
theorem xy_g15f (ty : Nat) (τ : Nat → Nat) : xyRun τ (.sl 12 0 15 1) (.cons (gdE false 13) (lsG gdL (fun _ => .nil) 14 16 14)) ty = true := by kernel_rfl
theorem xy_g12f (ty : Nat) (τ : Nat → Nat) : xyRun τ (.sl 12 0 12 1) (.cons (gdE false 13) (lsG gdL (fun _ => .nil) 11 16 11)) ty = true := by kernel_rfl
theorem xy_g9t (ty : Nat) (τ : Nat → Nat) : xyRun τ (.sl 12 0 9 1) (.cons (gdE true 13) (lsG gdL (fun _ => .nil) 8 16 8)) ty = true := by kernel_rfl
theorem b17_16_l : Ls 17 16 := fun _ _ => by kernel_rfl
theorem b17_16_0 : Qs 17 16 0 := fun _ _ => by kernel_rfl
theorem b17_16_1 : Qs 17 16 1 := fun _ _ => by kernel_rfl
theorem b17_16_2 : Qs 17 16 2 := fun _ _ => by kernel_rfl
theorem b17_16_3 : Qs 17 16 3 := fun _ _ => by kernel_rfl
theorem b20_16_l : Ls 20 16 := fun _ _ => by kernel_rfl
theorem b20_16_0 : Qs 20 16 0 := fun _ _ => by kernel_rfl
theorem b20_16_1 : Qs 20 16 1 := fun _ _ => by kernel_rfl
theorem b20_16_2 : Qs 20 16 2 := fun _ _ => by kernel_rfl
theorem b20_16_3 : Qs 20 16 3 := fun _ _ => by kernel_rfl
theorem b16_14_l : Ls 16 14 := fun _ _ => by kernel_rfl
theorem b16_14_0 : Qs 16 14 0 := fun _ _ => by kernel_rfl
theorem b16_14_1 : Qs 16 14 1 := fun _ _ => by kernel_rfl
theorem b16_14_2 : Qs 16 14 2 := fun _ _ => by kernel_rfl
theorem b16_14_3 : Qs 16 14 3 := fun _ _ => by kernel_rfl
theorem b20_14_l : Ls 20 14 := fun _ _ => by kernel_rfl
theorem b20_14_0 : Qs 20 14 0 := fun _ _ => by kernel_rfl
theorem b20_14_1 : Qs 20 14 1 := fun _ _ => by kernel_rfl
theorem b20_14_2 : Qs 20 14 2 := fun _ _ => by kernel_rfl
theorem b20_14_3 : Qs 20 14 3 := fun _ _ => by kernel_rfl
theorem xy_g4t (ty : Nat) (τ : Nat → Nat) : xyRun τ (.sl 12 0 4 1) (.cons (gdE true 13) (lsG gdL (fun _ => .nil) 3 16 3)) ty = true := by kernel_rfl
theorem b19_12_l : Ls 19 12 := fun _ _ => by kernel_rfl
theorem b19_12_0 : Qs 19 12 0 := fun _ _ => by kernel_rfl
theorem b19_12_1 : Qs 19 12 1 := fun _ _ => by kernel_rfl
theorem b19_12_2 : Qs 19 12 2 := fun _ _ => by kernel_rfl
theorem b19_12_3 : Qs 19 12 3 := fun _ _ => by kernel_rfl
theorem b15_11_l : Ls 15 11 := fun _ _ => by kernel_rfl
theorem b15_11_0 : Qs 15 11 0 := fun _ _ => by kernel_rfl
theorem b15_11_1 : Qs 15 11 1 := fun _ _ => by kernel_rfl
theorem b15_11_2 : Qs 15 11 2 := fun _ _ => by kernel_rfl
theorem b15_11_3 : Qs 15 11 3 := fun _ _ => by kernel_rfl
theorem b20_11_l : Ls 20 11 := fun _ _ => by kernel_rfl
theorem b20_11_0 : Qs 20 11 0 := fun _ _ => by kernel_rfl
theorem b20_11_1 : Qs 20 11 1 := fun _ _ => by kernel_rfl
theorem b20_11_2 : Qs 20 11 2 := fun _ _ => by kernel_rfl
theorem b20_11_3 : Qs 20 11 3 := fun _ _ => by kernel_rfl
theorem b16_10_l : Ls 16 10 := fun _ _ => by kernel_rfl
theorem b16_10_0 : Qs 16 10 0 := fun _ _ => by kernel_rfl
theorem b16_10_1 : Qs 16 10 1 := fun _ _ => by kernel_rfl
theorem b16_10_2 : Qs 16 10 2 := fun _ _ => by kernel_rfl
theorem b16_10_3 : Qs 16 10 3 := fun _ _ => by kernel_rfl
theorem b10_9_l : Ls 10 9 := fun _ _ => by kernel_rfl
theorem b10_9_0 : Qs 10 9 0 := fun _ _ => by kernel_rfl
theorem b10_9_1 : Qs 10 9 1 := fun _ _ => by kernel_rfl
theorem b10_9_2 : Qs 10 9 2 := fun _ _ => by kernel_rfl
theorem b10_9_3 : Qs 10 9 3 := fun _ _ => by kernel_rfl
theorem b13_9_l : Ls 13 9 := fun _ _ => by kernel_rfl
theorem b13_9_0 : Qs 13 9 0 := fun _ _ => by kernel_rfl
theorem b13_9_1 : Qs 13 9 1 := fun _ _ => by kernel_rfl
theorem b13_9_2 : Qs 13 9 2 := fun _ _ => by kernel_rfl
theorem b13_9_3 : Qs 13 9 3 := fun _ _ => by kernel_rfl
theorem b20_9_l : Ls 20 9 := fun _ _ => by kernel_rfl
theorem b20_9_0 : Qs 20 9 0 := fun _ _ => by kernel_rfl
theorem b20_9_1 : Qs 20 9 1 := fun _ _ => by kernel_rfl
theorem b20_9_2 : Qs 20 9 2 := fun _ _ => by kernel_rfl
theorem b20_9_3 : Qs 20 9 3 := fun _ _ => by kernel_rfl
theorem b8_7_l : Ls 8 7 := fun _ _ => by kernel_rfl
theorem b8_7_0 : Qs 8 7 0 := fun _ _ => by kernel_rfl
theorem b8_7_1 : Qs 8 7 1 := fun _ _ => by kernel_rfl
theorem b8_7_2 : Qs 8 7 2 := fun _ _ => by kernel_rfl
theorem b8_7_3 : Qs 8 7 3 := fun _ _ => by kernel_rfl
theorem b9_7_l : Ls 9 7 := fun _ _ => by kernel_rfl
theorem b9_7_0 : Qs 9 7 0 := fun _ _ => by kernel_rfl
theorem b9_7_1 : Qs 9 7 1 := fun _ _ => by kernel_rfl
theorem b9_7_2 : Qs 9 7 2 := fun _ _ => by kernel_rfl
theorem b9_7_3 : Qs 9 7 3 := fun _ _ => by kernel_rfl
theorem b16_7_l : Ls 16 7 := fun _ _ => by kernel_rfl
theorem b16_7_0 : Qs 16 7 0 := fun _ _ => by kernel_rfl
theorem b16_7_1 : Qs 16 7 1 := fun _ _ => by kernel_rfl
theorem b16_7_2 : Qs 16 7 2 := fun _ _ => by kernel_rfl
theorem b16_7_3 : Qs 16 7 3 := fun _ _ => by kernel_rfl
theorem b11_6_l : Ls 11 6 := fun _ _ => by kernel_rfl
theorem b11_6_0 : Qs 11 6 0 := fun _ _ => by kernel_rfl
theorem b11_6_1 : Qs 11 6 1 := fun _ _ => by kernel_rfl
theorem b11_6_2 : Qs 11 6 2 := fun _ _ => by kernel_rfl
theorem b11_6_3 : Qs 11 6 3 := fun _ _ => by kernel_rfl
theorem b18_6_l : Ls 18 6 := fun _ _ => by kernel_rfl
theorem b18_6_0 : Qs 18 6 0 := fun _ _ => by kernel_rfl
theorem b18_6_1 : Qs 18 6 1 := fun _ _ => by kernel_rfl
theorem b18_6_2 : Qs 18 6 2 := fun _ _ => by kernel_rfl
theorem b18_6_3 : Qs 18 6 3 := fun _ _ => by kernel_rfl
theorem b12_5_l : Ls 12 5 := fun _ _ => by kernel_rfl
theorem b12_5_0 : Qs 12 5 0 := fun _ _ => by kernel_rfl
theorem b12_5_1 : Qs 12 5 1 := fun _ _ => by kernel_rfl
theorem b12_5_2 : Qs 12 5 2 := fun _ _ => by kernel_rfl
theorem b12_5_3 : Qs 12 5 3 := fun _ _ => by kernel_rfl
theorem b19_5_l : Ls 19 5 := fun _ _ => by kernel_rfl
theorem b19_5_0 : Qs 19 5 0 := fun _ _ => by kernel_rfl
theorem b19_5_1 : Qs 19 5 1 := fun _ _ => by kernel_rfl
theorem b19_5_2 : Qs 19 5 2 := fun _ _ => by kernel_rfl
theorem b19_5_3 : Qs 19 5 3 := fun _ _ => by kernel_rfl
theorem b11_4_l : Ls 11 4 := fun _ _ => by kernel_rfl
theorem b11_4_0 : Qs 11 4 0 := fun _ _ => by kernel_rfl
theorem b11_4_1 : Qs 11 4 1 := fun _ _ => by kernel_rfl
theorem b11_4_2 : Qs 11 4 2 := fun _ _ => by kernel_rfl
theorem b11_4_3 : Qs 11 4 3 := fun _ _ => by kernel_rfl
theorem b18_4_l : Ls 18 4 := fun _ _ => by kernel_rfl
theorem b18_4_0 : Qs 18 4 0 := fun _ _ => by kernel_rfl
theorem b18_4_1 : Qs 18 4 1 := fun _ _ => by kernel_rfl
theorem b18_4_2 : Qs 18 4 2 := fun _ _ => by kernel_rfl
theorem b18_4_3 : Qs 18 4 3 := fun _ _ => by kernel_rfl
theorem b8_3_l : Ls 8 3 := fun _ _ => by kernel_rfl
theorem b8_3_0 : Qs 8 3 0 := fun _ _ => by kernel_rfl
theorem b8_3_1 : Qs 8 3 1 := fun _ _ => by kernel_rfl
theorem b8_3_2 : Qs 8 3 2 := fun _ _ => by kernel_rfl
theorem b8_3_3 : Qs 8 3 3 := fun _ _ => by kernel_rfl
theorem b14_3_l : Ls 14 3 := fun _ _ => by kernel_rfl
theorem b14_3_0 : Qs 14 3 0 := fun _ _ => by kernel_rfl
theorem b14_3_1 : Qs 14 3 1 := fun _ _ => by kernel_rfl
theorem b14_3_2 : Qs 14 3 2 := fun _ _ => by kernel_rfl
theorem b14_3_3 : Qs 14 3 3 := fun _ _ => by kernel_rfl
theorem b3_2_l : Ls 3 2 := fun _ _ => by kernel_rfl
theorem b3_2_0 : Qs 3 2 0 := fun _ _ => by kernel_rfl
theorem b3_2_1 : Qs 3 2 1 := fun _ _ => by kernel_rfl
theorem b3_2_2 : Qs 3 2 2 := fun _ _ => by kernel_rfl
theorem b3_2_3 : Qs 3 2 3 := fun _ _ => by kernel_rfl
theorem b6_2_l : Ls 6 2 := fun _ _ => by kernel_rfl
theorem b6_2_0 : Qs 6 2 0 := fun _ _ => by kernel_rfl
theorem b6_2_1 : Qs 6 2 1 := fun _ _ => by kernel_rfl
theorem b6_2_2 : Qs 6 2 2 := fun _ _ => by kernel_rfl
theorem b6_2_3 : Qs 6 2 3 := fun _ _ => by kernel_rfl
theorem b13_2_l : Ls 13 2 := fun _ _ => by kernel_rfl
theorem b13_2_0 : Qs 13 2 0 := fun _ _ => by kernel_rfl
theorem b13_2_1 : Qs 13 2 1 := fun _ _ => by kernel_rfl
theorem b13_2_2 : Qs 13 2 2 := fun _ _ => by kernel_rfl
theorem b13_2_3 : Qs 13 2 3 := fun _ _ => by kernel_rfl
theorem b20_2_l : Ls 20 2 := fun _ _ => by kernel_rfl
theorem b20_2_0 : Qs 20 2 0 := fun _ _ => by kernel_rfl
theorem b20_2_1 : Qs 20 2 1 := fun _ _ => by kernel_rfl
theorem b20_2_2 : Qs 20 2 2 := fun _ _ => by kernel_rfl
theorem b20_2_3 : Qs 20 2 3 := fun _ _ => by kernel_rfl
theorem b14_1_l : Ls 14 1 := fun _ _ => by kernel_rfl
theorem b14_1_0 : Qs 14 1 0 := fun _ _ => by kernel_rfl
theorem b14_1_1 : Qs 14 1 1 := fun _ _ => by kernel_rfl
theorem b14_1_2 : Qs 14 1 2 := fun _ _ => by kernel_rfl
theorem b14_1_3 : Qs 14 1 3 := fun _ _ => by kernel_rfl
theorem b1_0_l : Ls 1 0 := fun _ _ => by kernel_rfl
theorem b1_0_0 : Qs 1 0 0 := fun _ _ => by kernel_rfl
theorem b1_0_1 : Qs 1 0 1 := fun _ _ => by kernel_rfl
theorem b1_0_2 : Qs 1 0 2 := fun _ _ => by kernel_rfl
theorem b1_0_3 : Qs 1 0 3 := fun _ _ => by kernel_rfl
theorem b2_0_l : Ls 2 0 := fun _ _ => by kernel_rfl
theorem b2_0_0 : Qs 2 0 0 := fun _ _ => by kernel_rfl
theorem b2_0_1 : Qs 2 0 1 := fun _ _ => by kernel_rfl
theorem b2_0_2 : Qs 2 0 2 := fun _ _ => by kernel_rfl
theorem b2_0_3 : Qs 2 0 3 := fun _ _ => by kernel_rfl
theorem b9_0_l : Ls 9 0 := fun _ _ => by kernel_rfl
theorem b9_0_0 : Qs 9 0 0 := fun _ _ => by kernel_rfl
theorem b9_0_1 : Qs 9 0 1 := fun _ _ => by kernel_rfl
theorem b9_0_2 : Qs 9 0 2 := fun _ _ => by kernel_rfl
theorem b9_0_3 : Qs 9 0 3 := fun _ _ => by kernel_rfl
theorem b16_0_l : Ls 16 0 := fun _ _ => by kernel_rfl
theorem b16_0_0 : Qs 16 0 0 := fun _ _ => by kernel_rfl
theorem b16_0_1 : Qs 16 0 1 := fun _ _ => by kernel_rfl
theorem b16_0_2 : Qs 16 0 2 := fun _ _ => by kernel_rfl
theorem b16_0_3 : Qs 16 0 3 := fun _ _ => by kernel_rfl
end
end Go.Proofs.YtdkpggfooahnnaaGreatDoor
