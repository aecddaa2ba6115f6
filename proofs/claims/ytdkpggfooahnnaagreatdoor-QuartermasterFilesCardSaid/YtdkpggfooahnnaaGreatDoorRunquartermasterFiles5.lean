/-
  Runs of quartermasterFiles, by the kernel (6 of 8). No condition.
-/
import Derived.Test.YtdkpggfooahnnaaGreatDoorRunquartermasterFiles0
open Go Go.Mx
namespace Go.Proofs.YtdkpggfooahnnaaGreatDoor
set_option maxRecDepth 1000000
noncomputable section
theorem xy_g18t (ty : Nat) (τ : Nat → Nat) : xyRun τ (.sl 12 0 18 1) (.cons (gdE true 13) (lsG gdL (fun _ => .nil) 17 16 17)) ty = true := by kernel_rfl
theorem xy_g16t (ty : Nat) (τ : Nat → Nat) : xyRun τ (.sl 12 0 16 1) (.cons (gdE true 13) (lsG gdL (fun _ => .nil) 15 16 15)) ty = true := by kernel_rfl
theorem xy_g11t (ty : Nat) (τ : Nat → Nat) : xyRun τ (.sl 12 0 11 1) (.cons (gdE true 13) (lsG gdL (fun _ => .nil) 10 16 10)) ty = true := by kernel_rfl
theorem xy_g10f (ty : Nat) (τ : Nat → Nat) : xyRun τ (.sl 12 0 10 1) (.cons (gdE false 13) (lsG gdL (fun _ => .nil) 9 16 9)) ty = true := by kernel_rfl
theorem b18_16_l : Ls 18 16 := fun _ _ => by kernel_rfl
theorem b18_16_0 : Qs 18 16 0 := fun _ _ => by kernel_rfl
theorem b18_16_1 : Qs 18 16 1 := fun _ _ => by kernel_rfl
theorem b18_16_2 : Qs 18 16 2 := fun _ _ => by kernel_rfl
theorem b18_16_3 : Qs 18 16 3 := fun _ _ => by kernel_rfl
theorem xy_g7t (ty : Nat) (τ : Nat → Nat) : xyRun τ (.sl 12 0 7 1) (.cons (gdE true 13) (lsG gdL (fun _ => .nil) 6 16 6)) ty = true := by kernel_rfl
theorem b17_14_l : Ls 17 14 := fun _ _ => by kernel_rfl
theorem b17_14_0 : Qs 17 14 0 := fun _ _ => by kernel_rfl
theorem b17_14_1 : Qs 17 14 1 := fun _ _ => by kernel_rfl
theorem b17_14_2 : Qs 17 14 2 := fun _ _ => by kernel_rfl
theorem b17_14_3 : Qs 17 14 3 := fun _ _ => by kernel_rfl
theorem xy_g5t (ty : Nat) (τ : Nat → Nat) : xyRun τ (.sl 12 0 5 1) (.cons (gdE true 13) (lsG gdL (fun _ => .nil) 4 16 4)) ty = true := by kernel_rfl
theorem xy_g4f (ty : Nat) (τ : Nat → Nat) : xyRun τ (.sl 12 0 4 1) (.cons (gdE false 13) (lsG gdL (fun _ => .nil) 3 16 3)) ty = true := by kernel_rfl
theorem b20_12_l : Ls 20 12 := fun _ _ => by kernel_rfl
theorem b20_12_0 : Qs 20 12 0 := fun _ _ => by kernel_rfl
theorem b20_12_1 : Qs 20 12 1 := fun _ _ => by kernel_rfl
theorem b20_12_2 : Qs 20 12 2 := fun _ _ => by kernel_rfl
theorem b20_12_3 : Qs 20 12 3 := fun _ _ => by kernel_rfl
theorem b16_11_l : Ls 16 11 := fun _ _ => by kernel_rfl
theorem b16_11_0 : Qs 16 11 0 := fun _ _ => by kernel_rfl
theorem b16_11_1 : Qs 16 11 1 := fun _ _ => by kernel_rfl
theorem b16_11_2 : Qs 16 11 2 := fun _ _ => by kernel_rfl
theorem b16_11_3 : Qs 16 11 3 := fun _ _ => by kernel_rfl
theorem xy_g2t (ty : Nat) (τ : Nat → Nat) : xyRun τ (.sl 12 0 2 1) (.cons (gdE true 13) (lsG gdL (fun _ => .nil) 1 16 1)) ty = true := by kernel_rfl
theorem b17_10_l : Ls 17 10 := fun _ _ => by kernel_rfl
theorem b17_10_0 : Qs 17 10 0 := fun _ _ => by kernel_rfl
theorem b17_10_1 : Qs 17 10 1 := fun _ _ => by kernel_rfl
theorem b17_10_2 : Qs 17 10 2 := fun _ _ => by kernel_rfl
theorem b17_10_3 : Qs 17 10 3 := fun _ _ => by kernel_rfl
theorem b11_9_l : Ls 11 9 := fun _ _ => by kernel_rfl
theorem b11_9_0 : Qs 11 9 0 := fun _ _ => by kernel_rfl
theorem b11_9_1 : Qs 11 9 1 := fun _ _ => by kernel_rfl
theorem b11_9_2 : Qs 11 9 2 := fun _ _ => by kernel_rfl
theorem b11_9_3 : Qs 11 9 3 := fun _ _ => by kernel_rfl
theorem b14_9_l : Ls 14 9 := fun _ _ => by kernel_rfl
theorem b14_9_0 : Qs 14 9 0 := fun _ _ => by kernel_rfl
theorem b14_9_1 : Qs 14 9 1 := fun _ _ => by kernel_rfl
theorem b14_9_2 : Qs 14 9 2 := fun _ _ => by kernel_rfl
theorem b14_9_3 : Qs 14 9 3 := fun _ _ => by kernel_rfl
theorem b9_8_l : Ls 9 8 := fun _ _ => by kernel_rfl
theorem b9_8_0 : Qs 9 8 0 := fun _ _ => by kernel_rfl
theorem b9_8_1 : Qs 9 8 1 := fun _ _ => by kernel_rfl
theorem b9_8_2 : Qs 9 8 2 := fun _ _ => by kernel_rfl
theorem b9_8_3 : Qs 9 8 3 := fun _ _ => by kernel_rfl
theorem b15_8_l : Ls 15 8 := fun _ _ => by kernel_rfl
theorem b15_8_0 : Qs 15 8 0 := fun _ _ => by kernel_rfl
theorem b15_8_1 : Qs 15 8 1 := fun _ _ => by kernel_rfl
theorem b15_8_2 : Qs 15 8 2 := fun _ _ => by kernel_rfl
theorem b15_8_3 : Qs 15 8 3 := fun _ _ => by kernel_rfl
theorem b10_7_l : Ls 10 7 := fun _ _ => by kernel_rfl
theorem b10_7_0 : Qs 10 7 0 := fun _ _ => by kernel_rfl
theorem b10_7_1 : Qs 10 7 1 := fun _ _ => by kernel_rfl
theorem b10_7_2 : Qs 10 7 2 := fun _ _ => by kernel_rfl
theorem b10_7_3 : Qs 10 7 3 := fun _ _ => by kernel_rfl
theorem b17_7_l : Ls 17 7 := fun _ _ => by kernel_rfl
theorem b17_7_0 : Qs 17 7 0 := fun _ _ => by kernel_rfl
theorem b17_7_1 : Qs 17 7 1 := fun _ _ => by kernel_rfl
theorem b17_7_2 : Qs 17 7 2 := fun _ _ => by kernel_rfl
theorem b17_7_3 : Qs 17 7 3 := fun _ _ => by kernel_rfl
theorem b12_6_l : Ls 12 6 := fun _ _ => by kernel_rfl
theorem b12_6_0 : Qs 12 6 0 := fun _ _ => by kernel_rfl
theorem b12_6_1 : Qs 12 6 1 := fun _ _ => by kernel_rfl
theorem b12_6_2 : Qs 12 6 2 := fun _ _ => by kernel_rfl
theorem b12_6_3 : Qs 12 6 3 := fun _ _ => by kernel_rfl
theorem b19_6_l : Ls 19 6 := fun _ _ => by kernel_rfl
theorem b19_6_0 : Qs 19 6 0 := fun _ _ => by kernel_rfl
theorem b19_6_1 : Qs 19 6 1 := fun _ _ => by kernel_rfl
theorem b19_6_2 : Qs 19 6 2 := fun _ _ => by kernel_rfl
theorem b19_6_3 : Qs 19 6 3 := fun _ _ => by kernel_rfl
theorem b13_5_l : Ls 13 5 := fun _ _ => by kernel_rfl
theorem b13_5_0 : Qs 13 5 0 := fun _ _ => by kernel_rfl
theorem b13_5_1 : Qs 13 5 1 := fun _ _ => by kernel_rfl
theorem b13_5_2 : Qs 13 5 2 := fun _ _ => by kernel_rfl
theorem b13_5_3 : Qs 13 5 3 := fun _ _ => by kernel_rfl
theorem b20_5_l : Ls 20 5 := fun _ _ => by kernel_rfl
theorem b20_5_0 : Qs 20 5 0 := fun _ _ => by kernel_rfl
theorem b20_5_1 : Qs 20 5 1 := fun _ _ => by kernel_rfl
theorem b20_5_2 : Qs 20 5 2 := fun _ _ => by kernel_rfl
theorem b20_5_3 : Qs 20 5 3 := fun _ _ => by kernel_rfl
theorem b12_4_l : Ls 12 4 := fun _ _ => by kernel_rfl
theorem b12_4_0 : Qs 12 4 0 := fun _ _ => by kernel_rfl
theorem b12_4_1 : Qs 12 4 1 := fun _ _ => by kernel_rfl
theorem b12_4_2 : Qs 12 4 2 := fun _ _ => by kernel_rfl
theorem b12_4_3 : Qs 12 4 3 := fun _ _ => by kernel_rfl
theorem b19_4_l : Ls 19 4 := fun _ _ => by kernel_rfl
theorem b19_4_0 : Qs 19 4 0 := fun _ _ => by kernel_rfl
theorem b19_4_1 : Qs 19 4 1 := fun _ _ => by kernel_rfl
theorem b19_4_2 : Qs 19 4 2 := fun _ _ => by kernel_rfl
theorem b19_4_3 : Qs 19 4 3 := fun _ _ => by kernel_rfl
theorem b9_3_l : Ls 9 3 := fun _ _ => by kernel_rfl
theorem b9_3_0 : Qs 9 3 0 := fun _ _ => by kernel_rfl
theorem b9_3_1 : Qs 9 3 1 := fun _ _ => by kernel_rfl
theorem b9_3_2 : Qs 9 3 2 := fun _ _ => by kernel_rfl
theorem b9_3_3 : Qs 9 3 3 := fun _ _ => by kernel_rfl
theorem b15_3_l : Ls 15 3 := fun _ _ => by kernel_rfl
theorem b15_3_0 : Qs 15 3 0 := fun _ _ => by kernel_rfl
theorem b15_3_1 : Qs 15 3 1 := fun _ _ => by kernel_rfl
theorem b15_3_2 : Qs 15 3 2 := fun _ _ => by kernel_rfl
theorem b15_3_3 : Qs 15 3 3 := fun _ _ => by kernel_rfl
theorem b4_2_l : Ls 4 2 := fun _ _ => by kernel_rfl
theorem b4_2_0 : Qs 4 2 0 := fun _ _ => by kernel_rfl
theorem b4_2_1 : Qs 4 2 1 := fun _ _ => by kernel_rfl
theorem b4_2_2 : Qs 4 2 2 := fun _ _ => by kernel_rfl
theorem b4_2_3 : Qs 4 2 3 := fun _ _ => by kernel_rfl
theorem b7_2_l : Ls 7 2 := fun _ _ => by kernel_rfl
theorem b7_2_0 : Qs 7 2 0 := fun _ _ => by kernel_rfl
theorem b7_2_1 : Qs 7 2 1 := fun _ _ => by kernel_rfl
theorem b7_2_2 : Qs 7 2 2 := fun _ _ => by kernel_rfl
theorem b7_2_3 : Qs 7 2 3 := fun _ _ => by kernel_rfl
theorem b14_2_l : Ls 14 2 := fun _ _ => by kernel_rfl
theorem b14_2_0 : Qs 14 2 0 := fun _ _ => by kernel_rfl
theorem b14_2_1 : Qs 14 2 1 := fun _ _ => by kernel_rfl
theorem b14_2_2 : Qs 14 2 2 := fun _ _ => by kernel_rfl
theorem b14_2_3 : Qs 14 2 3 := fun _ _ => by kernel_rfl
theorem b2_1_l : Ls 2 1 := fun _ _ => by kernel_rfl
theorem b2_1_0 : Qs 2 1 0 := fun _ _ => by kernel_rfl
theorem b2_1_1 : Qs 2 1 1 := fun _ _ => by kernel_rfl
theorem b2_1_2 : Qs 2 1 2 := fun _ _ => by kernel_rfl
theorem b2_1_3 : Qs 2 1 3 := fun _ _ => by kernel_rfl
theorem b8_1_l : Ls 8 1 := fun _ _ => by kernel_rfl
theorem b8_1_0 : Qs 8 1 0 := fun _ _ => by kernel_rfl
theorem b8_1_1 : Qs 8 1 1 := fun _ _ => by kernel_rfl
theorem b8_1_2 : Qs 8 1 2 := fun _ _ => by kernel_rfl
theorem b8_1_3 : Qs 8 1 3 := fun _ _ => by kernel_rfl
theorem b15_1_l : Ls 15 1 := fun _ _ => by kernel_rfl
theorem b15_1_0 : Qs 15 1 0 := fun _ _ => by kernel_rfl
theorem b15_1_1 : Qs 15 1 1 := fun _ _ => by kernel_rfl
theorem b15_1_2 : Qs 15 1 2 := fun _ _ => by kernel_rfl
theorem b15_1_3 : Qs 15 1 3 := fun _ _ => by kernel_rfl
theorem b3_0_l : Ls 3 0 := fun _ _ => by kernel_rfl
theorem b3_0_0 : Qs 3 0 0 := fun _ _ => by kernel_rfl
theorem b3_0_1 : Qs 3 0 1 := fun _ _ => by kernel_rfl
theorem b3_0_2 : Qs 3 0 2 := fun _ _ => by kernel_rfl
theorem b3_0_3 : Qs 3 0 3 := fun _ _ => by kernel_rfl
theorem b10_0_l : Ls 10 0 := fun _ _ => by kernel_rfl
theorem b10_0_0 : Qs 10 0 0 := fun _ _ => by kernel_rfl
theorem b10_0_1 : Qs 10 0 1 := fun _ _ => by kernel_rfl
theorem b10_0_2 : Qs 10 0 2 := fun _ _ => by kernel_rfl
theorem b10_0_3 : Qs 10 0 3 := fun _ _ => by kernel_rfl
theorem b17_0_l : Ls 17 0 := fun _ _ => by kernel_rfl
theorem b17_0_0 : Qs 17 0 0 := fun _ _ => by kernel_rfl
theorem b17_0_1 : Qs 17 0 1 := fun _ _ => by kernel_rfl
theorem b17_0_2 : Qs 17 0 2 := fun _ _ => by kernel_rfl
theorem b17_0_3 : Qs 17 0 3 := fun _ _ => by kernel_rfl
end
end Go.Proofs.YtdkpggfooahnnaaGreatDoor
