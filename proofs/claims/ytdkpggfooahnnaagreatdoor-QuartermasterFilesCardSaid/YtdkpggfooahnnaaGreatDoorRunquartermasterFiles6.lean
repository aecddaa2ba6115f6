/-
  Runs of quartermasterFiles, by the kernel (7 of 8). No condition.
-/
import Derived.Test.YtdkpggfooahnnaaGreatDoorRunquartermasterFiles0
open Go Go.Mx
namespace Go.Proofs.YtdkpggfooahnnaaGreatDoor
set_option maxRecDepth 1000000
noncomputable section
theorem xy_g18f (ty : Nat) (τ : Nat → Nat) : xyRun τ (.sl 12 0 18 1) (.cons (gdE false 13) (lsG gdL (fun _ => .nil) 17 16 17)) ty = true := by kernel_rfl
theorem xy_g16f (ty : Nat) (τ : Nat → Nat) : xyRun τ (.sl 12 0 16 1) (.cons (gdE false 13) (lsG gdL (fun _ => .nil) 15 16 15)) ty = true := by kernel_rfl
theorem xy_g11f (ty : Nat) (τ : Nat → Nat) : xyRun τ (.sl 12 0 11 1) (.cons (gdE false 13) (lsG gdL (fun _ => .nil) 10 16 10)) ty = true := by kernel_rfl
theorem b19_18_l : Ls 19 18 := fun _ _ => by kernel_rfl
theorem b19_18_0 : Qs 19 18 0 := fun _ _ => by kernel_rfl
theorem b19_18_1 : Qs 19 18 1 := fun _ _ => by kernel_rfl
theorem b19_18_2 : Qs 19 18 2 := fun _ _ => by kernel_rfl
theorem b19_18_3 : Qs 19 18 3 := fun _ _ => by kernel_rfl
theorem b19_17_l : Ls 19 17 := fun _ _ => by kernel_rfl
theorem b19_17_0 : Qs 19 17 0 := fun _ _ => by kernel_rfl
theorem b19_17_1 : Qs 19 17 1 := fun _ _ => by kernel_rfl
theorem b19_17_2 : Qs 19 17 2 := fun _ _ => by kernel_rfl
theorem b19_17_3 : Qs 19 17 3 := fun _ _ => by kernel_rfl
theorem xy_g7f (ty : Nat) (τ : Nat → Nat) : xyRun τ (.sl 12 0 7 1) (.cons (gdE false 13) (lsG gdL (fun _ => .nil) 6 16 6)) ty = true := by kernel_rfl
theorem b18_14_l : Ls 18 14 := fun _ _ => by kernel_rfl
theorem b18_14_0 : Qs 18 14 0 := fun _ _ => by kernel_rfl
theorem b18_14_1 : Qs 18 14 1 := fun _ _ => by kernel_rfl
theorem b18_14_2 : Qs 18 14 2 := fun _ _ => by kernel_rfl
theorem b18_14_3 : Qs 18 14 3 := fun _ _ => by kernel_rfl
theorem xy_g5f (ty : Nat) (τ : Nat → Nat) : xyRun τ (.sl 12 0 5 1) (.cons (gdE false 13) (lsG gdL (fun _ => .nil) 4 16 4)) ty = true := by kernel_rfl
theorem b13_12_l : Ls 13 12 := fun _ _ => by kernel_rfl
theorem b13_12_0 : Qs 13 12 0 := fun _ _ => by kernel_rfl
theorem b13_12_1 : Qs 13 12 1 := fun _ _ => by kernel_rfl
theorem b13_12_2 : Qs 13 12 2 := fun _ _ => by kernel_rfl
theorem b13_12_3 : Qs 13 12 3 := fun _ _ => by kernel_rfl
theorem b14_12_l : Ls 14 12 := fun _ _ => by kernel_rfl
theorem b14_12_0 : Qs 14 12 0 := fun _ _ => by kernel_rfl
theorem b14_12_1 : Qs 14 12 1 := fun _ _ => by kernel_rfl
theorem b14_12_2 : Qs 14 12 2 := fun _ _ => by kernel_rfl
theorem b14_12_3 : Qs 14 12 3 := fun _ _ => by kernel_rfl
theorem xy_g3t (ty : Nat) (τ : Nat → Nat) : xyRun τ (.sl 12 0 3 1) (.cons (gdE true 13) (lsG gdL (fun _ => .nil) 2 16 2)) ty = true := by kernel_rfl
theorem xy_g2f (ty : Nat) (τ : Nat → Nat) : xyRun τ (.sl 12 0 2 1) (.cons (gdE false 13) (lsG gdL (fun _ => .nil) 1 16 1)) ty = true := by kernel_rfl
theorem b18_10_l : Ls 18 10 := fun _ _ => by kernel_rfl
theorem b18_10_0 : Qs 18 10 0 := fun _ _ => by kernel_rfl
theorem b18_10_1 : Qs 18 10 1 := fun _ _ => by kernel_rfl
theorem b18_10_2 : Qs 18 10 2 := fun _ _ => by kernel_rfl
theorem b18_10_3 : Qs 18 10 3 := fun _ _ => by kernel_rfl
theorem b12_9_l : Ls 12 9 := fun _ _ => by kernel_rfl
theorem b12_9_0 : Qs 12 9 0 := fun _ _ => by kernel_rfl
theorem b12_9_1 : Qs 12 9 1 := fun _ _ => by kernel_rfl
theorem b12_9_2 : Qs 12 9 2 := fun _ _ => by kernel_rfl
theorem b12_9_3 : Qs 12 9 3 := fun _ _ => by kernel_rfl
theorem b15_9_l : Ls 15 9 := fun _ _ => by kernel_rfl
theorem b15_9_0 : Qs 15 9 0 := fun _ _ => by kernel_rfl
theorem b15_9_1 : Qs 15 9 1 := fun _ _ => by kernel_rfl
theorem b15_9_2 : Qs 15 9 2 := fun _ _ => by kernel_rfl
theorem b15_9_3 : Qs 15 9 3 := fun _ _ => by kernel_rfl
theorem b10_8_l : Ls 10 8 := fun _ _ => by kernel_rfl
theorem b10_8_0 : Qs 10 8 0 := fun _ _ => by kernel_rfl
theorem b10_8_1 : Qs 10 8 1 := fun _ _ => by kernel_rfl
theorem b10_8_2 : Qs 10 8 2 := fun _ _ => by kernel_rfl
theorem b10_8_3 : Qs 10 8 3 := fun _ _ => by kernel_rfl
theorem b16_8_l : Ls 16 8 := fun _ _ => by kernel_rfl
theorem b16_8_0 : Qs 16 8 0 := fun _ _ => by kernel_rfl
theorem b16_8_1 : Qs 16 8 1 := fun _ _ => by kernel_rfl
theorem b16_8_2 : Qs 16 8 2 := fun _ _ => by kernel_rfl
theorem b16_8_3 : Qs 16 8 3 := fun _ _ => by kernel_rfl
theorem b11_7_l : Ls 11 7 := fun _ _ => by kernel_rfl
theorem b11_7_0 : Qs 11 7 0 := fun _ _ => by kernel_rfl
theorem b11_7_1 : Qs 11 7 1 := fun _ _ => by kernel_rfl
theorem b11_7_2 : Qs 11 7 2 := fun _ _ => by kernel_rfl
theorem b11_7_3 : Qs 11 7 3 := fun _ _ => by kernel_rfl
theorem b18_7_l : Ls 18 7 := fun _ _ => by kernel_rfl
theorem b18_7_0 : Qs 18 7 0 := fun _ _ => by kernel_rfl
theorem b18_7_1 : Qs 18 7 1 := fun _ _ => by kernel_rfl
theorem b18_7_2 : Qs 18 7 2 := fun _ _ => by kernel_rfl
theorem b18_7_3 : Qs 18 7 3 := fun _ _ => by kernel_rfl
theorem b13_6_l : Ls 13 6 := fun _ _ => by kernel_rfl
theorem b13_6_0 : Qs 13 6 0 := fun _ _ => by kernel_rfl
theorem b13_6_1 : Qs 13 6 1 := fun _ _ => by kernel_rfl
theorem b13_6_2 : Qs 13 6 2 := fun _ _ => by kernel_rfl
theorem b13_6_3 : Qs 13 6 3 := fun _ _ => by kernel_rfl
theorem b20_6_l : Ls 20 6 := fun _ _ => by kernel_rfl
theorem b20_6_0 : Qs 20 6 0 := fun _ _ => by kernel_rfl
theorem b20_6_1 : Qs 20 6 1 := fun _ _ => by kernel_rfl
theorem b20_6_2 : Qs 20 6 2 := fun _ _ => by kernel_rfl
theorem b20_6_3 : Qs 20 6 3 := fun _ _ => by kernel_rfl
theorem b14_5_l : Ls 14 5 := fun _ _ => by kernel_rfl
theorem b14_5_0 : Qs 14 5 0 := fun _ _ => by kernel_rfl
theorem b14_5_1 : Qs 14 5 1 := fun _ _ => by kernel_rfl
theorem b14_5_2 : Qs 14 5 2 := fun _ _ => by kernel_rfl
theorem b14_5_3 : Qs 14 5 3 := fun _ _ => by kernel_rfl
theorem b5_4_l : Ls 5 4 := fun _ _ => by kernel_rfl
theorem b5_4_0 : Qs 5 4 0 := fun _ _ => by kernel_rfl
theorem b5_4_1 : Qs 5 4 1 := fun _ _ => by kernel_rfl
theorem b5_4_2 : Qs 5 4 2 := fun _ _ => by kernel_rfl
theorem b5_4_3 : Qs 5 4 3 := fun _ _ => by kernel_rfl
theorem b6_4_l : Ls 6 4 := fun _ _ => by kernel_rfl
theorem b6_4_0 : Qs 6 4 0 := fun _ _ => by kernel_rfl
theorem b6_4_1 : Qs 6 4 1 := fun _ _ => by kernel_rfl
theorem b6_4_2 : Qs 6 4 2 := fun _ _ => by kernel_rfl
theorem b6_4_3 : Qs 6 4 3 := fun _ _ => by kernel_rfl
theorem b13_4_l : Ls 13 4 := fun _ _ => by kernel_rfl
theorem b13_4_0 : Qs 13 4 0 := fun _ _ => by kernel_rfl
theorem b13_4_1 : Qs 13 4 1 := fun _ _ => by kernel_rfl
theorem b13_4_2 : Qs 13 4 2 := fun _ _ => by kernel_rfl
theorem b13_4_3 : Qs 13 4 3 := fun _ _ => by kernel_rfl
theorem b20_4_l : Ls 20 4 := fun _ _ => by kernel_rfl
theorem b20_4_0 : Qs 20 4 0 := fun _ _ => by kernel_rfl
theorem b20_4_1 : Qs 20 4 1 := fun _ _ => by kernel_rfl
theorem b20_4_2 : Qs 20 4 2 := fun _ _ => by kernel_rfl
theorem b20_4_3 : Qs 20 4 3 := fun _ _ => by kernel_rfl
theorem b16_3_l : Ls 16 3 := fun _ _ => by kernel_rfl
theorem b16_3_0 : Qs 16 3 0 := fun _ _ => by kernel_rfl
theorem b16_3_1 : Qs 16 3 1 := fun _ _ => by kernel_rfl
theorem b16_3_2 : Qs 16 3 2 := fun _ _ => by kernel_rfl
theorem b16_3_3 : Qs 16 3 3 := fun _ _ => by kernel_rfl
theorem b5_2_l : Ls 5 2 := fun _ _ => by kernel_rfl
theorem b5_2_0 : Qs 5 2 0 := fun _ _ => by kernel_rfl
theorem b5_2_1 : Qs 5 2 1 := fun _ _ => by kernel_rfl
theorem b5_2_2 : Qs 5 2 2 := fun _ _ => by kernel_rfl
theorem b5_2_3 : Qs 5 2 3 := fun _ _ => by kernel_rfl
theorem b8_2_l : Ls 8 2 := fun _ _ => by kernel_rfl
theorem b8_2_0 : Qs 8 2 0 := fun _ _ => by kernel_rfl
theorem b8_2_1 : Qs 8 2 1 := fun _ _ => by kernel_rfl
theorem b8_2_2 : Qs 8 2 2 := fun _ _ => by kernel_rfl
theorem b8_2_3 : Qs 8 2 3 := fun _ _ => by kernel_rfl
theorem b15_2_l : Ls 15 2 := fun _ _ => by kernel_rfl
theorem b15_2_0 : Qs 15 2 0 := fun _ _ => by kernel_rfl
theorem b15_2_1 : Qs 15 2 1 := fun _ _ => by kernel_rfl
theorem b15_2_2 : Qs 15 2 2 := fun _ _ => by kernel_rfl
theorem b15_2_3 : Qs 15 2 3 := fun _ _ => by kernel_rfl
theorem b3_1_l : Ls 3 1 := fun _ _ => by kernel_rfl
theorem b3_1_0 : Qs 3 1 0 := fun _ _ => by kernel_rfl
theorem b3_1_1 : Qs 3 1 1 := fun _ _ => by kernel_rfl
theorem b3_1_2 : Qs 3 1 2 := fun _ _ => by kernel_rfl
theorem b3_1_3 : Qs 3 1 3 := fun _ _ => by kernel_rfl
theorem b9_1_l : Ls 9 1 := fun _ _ => by kernel_rfl
theorem b9_1_0 : Qs 9 1 0 := fun _ _ => by kernel_rfl
theorem b9_1_1 : Qs 9 1 1 := fun _ _ => by kernel_rfl
theorem b9_1_2 : Qs 9 1 2 := fun _ _ => by kernel_rfl
theorem b9_1_3 : Qs 9 1 3 := fun _ _ => by kernel_rfl
theorem b16_1_l : Ls 16 1 := fun _ _ => by kernel_rfl
theorem b16_1_0 : Qs 16 1 0 := fun _ _ => by kernel_rfl
theorem b16_1_1 : Qs 16 1 1 := fun _ _ => by kernel_rfl
theorem b16_1_2 : Qs 16 1 2 := fun _ _ => by kernel_rfl
theorem b16_1_3 : Qs 16 1 3 := fun _ _ => by kernel_rfl
theorem b4_0_l : Ls 4 0 := fun _ _ => by kernel_rfl
theorem b4_0_0 : Qs 4 0 0 := fun _ _ => by kernel_rfl
theorem b4_0_1 : Qs 4 0 1 := fun _ _ => by kernel_rfl
theorem b4_0_2 : Qs 4 0 2 := fun _ _ => by kernel_rfl
theorem b4_0_3 : Qs 4 0 3 := fun _ _ => by kernel_rfl
theorem b11_0_l : Ls 11 0 := fun _ _ => by kernel_rfl
theorem b11_0_0 : Qs 11 0 0 := fun _ _ => by kernel_rfl
theorem b11_0_1 : Qs 11 0 1 := fun _ _ => by kernel_rfl
theorem b11_0_2 : Qs 11 0 2 := fun _ _ => by kernel_rfl
theorem b11_0_3 : Qs 11 0 3 := fun _ _ => by kernel_rfl
theorem b18_0_l : Ls 18 0 := fun _ _ => by kernel_rfl
theorem b18_0_0 : Qs 18 0 0 := fun _ _ => by kernel_rfl
theorem b18_0_1 : Qs 18 0 1 := fun _ _ => by kernel_rfl
theorem b18_0_2 : Qs 18 0 2 := fun _ _ => by kernel_rfl
theorem b18_0_3 : Qs 18 0 3 := fun _ _ => by kernel_rfl
end
end Go.Proofs.YtdkpggfooahnnaaGreatDoor
