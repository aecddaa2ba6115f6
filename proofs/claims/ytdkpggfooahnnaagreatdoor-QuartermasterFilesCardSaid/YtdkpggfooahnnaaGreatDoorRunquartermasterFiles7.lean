/-
  Runs of quartermasterFiles, by the kernel (8 of 8). No condition.
-/
import Derived.Test.YtdkpggfooahnnaaGreatDoorRunquartermasterFiles0
open Go Go.Mx
namespace Go.Proofs.YtdkpggfooahnnaaGreatDoor
set_option maxRecDepth 1000000
noncomputable section
theorem xy_g17t (ty : Nat) (τ : Nat → Nat) : xyRun τ (.sl 12 0 17 1) (.cons (gdE true 13) (lsG gdL (fun _ => .nil) 16 16 16)) ty = true := by kernel_rfl
theorem xy_g17f (ty : Nat) (τ : Nat → Nat) : xyRun τ (.sl 12 0 17 1) (.cons (gdE false 13) (lsG gdL (fun _ => .nil) 16 16 16)) ty = true := by kernel_rfl
theorem b20_19_l : Ls 20 19 := fun _ _ => by kernel_rfl
theorem b20_19_0 : Qs 20 19 0 := fun _ _ => by kernel_rfl
theorem b20_19_1 : Qs 20 19 1 := fun _ _ => by kernel_rfl
theorem b20_19_2 : Qs 20 19 2 := fun _ _ => by kernel_rfl
theorem b20_19_3 : Qs 20 19 3 := fun _ _ => by kernel_rfl
theorem xy_g10t (ty : Nat) (τ : Nat → Nat) : xyRun τ (.sl 12 0 10 1) (.cons (gdE true 13) (lsG gdL (fun _ => .nil) 9 16 9)) ty = true := by kernel_rfl
theorem b20_17_l : Ls 20 17 := fun _ _ => by kernel_rfl
theorem b20_17_0 : Qs 20 17 0 := fun _ _ => by kernel_rfl
theorem b20_17_1 : Qs 20 17 1 := fun _ _ => by kernel_rfl
theorem b20_17_2 : Qs 20 17 2 := fun _ _ => by kernel_rfl
theorem b20_17_3 : Qs 20 17 3 := fun _ _ => by kernel_rfl
theorem b16_15_l : Ls 16 15 := fun _ _ => by kernel_rfl
theorem b16_15_0 : Qs 16 15 0 := fun _ _ => by kernel_rfl
theorem b16_15_1 : Qs 16 15 1 := fun _ _ => by kernel_rfl
theorem b16_15_2 : Qs 16 15 2 := fun _ _ => by kernel_rfl
theorem b16_15_3 : Qs 16 15 3 := fun _ _ => by kernel_rfl
theorem b20_15_l : Ls 20 15 := fun _ _ => by kernel_rfl
theorem b20_15_0 : Qs 20 15 0 := fun _ _ => by kernel_rfl
theorem b20_15_1 : Qs 20 15 1 := fun _ _ => by kernel_rfl
theorem b20_15_2 : Qs 20 15 2 := fun _ _ => by kernel_rfl
theorem b20_15_3 : Qs 20 15 3 := fun _ _ => by kernel_rfl
theorem b14_13_l : Ls 14 13 := fun _ _ => by kernel_rfl
theorem b14_13_0 : Qs 14 13 0 := fun _ _ => by kernel_rfl
theorem b14_13_1 : Qs 14 13 1 := fun _ _ => by kernel_rfl
theorem b14_13_2 : Qs 14 13 2 := fun _ _ => by kernel_rfl
theorem b14_13_3 : Qs 14 13 3 := fun _ _ => by kernel_rfl
theorem b17_13_l : Ls 17 13 := fun _ _ => by kernel_rfl
theorem b17_13_0 : Qs 17 13 0 := fun _ _ => by kernel_rfl
theorem b17_13_1 : Qs 17 13 1 := fun _ _ => by kernel_rfl
theorem b17_13_2 : Qs 17 13 2 := fun _ _ => by kernel_rfl
theorem b17_13_3 : Qs 17 13 3 := fun _ _ => by kernel_rfl
theorem b15_12_l : Ls 15 12 := fun _ _ => by kernel_rfl
theorem b15_12_0 : Qs 15 12 0 := fun _ _ => by kernel_rfl
theorem b15_12_1 : Qs 15 12 1 := fun _ _ => by kernel_rfl
theorem b15_12_2 : Qs 15 12 2 := fun _ _ => by kernel_rfl
theorem b15_12_3 : Qs 15 12 3 := fun _ _ => by kernel_rfl
theorem xy_g3f (ty : Nat) (τ : Nat → Nat) : xyRun τ (.sl 12 0 3 1) (.cons (gdE false 13) (lsG gdL (fun _ => .nil) 2 16 2)) ty = true := by kernel_rfl
theorem b11_10_l : Ls 11 10 := fun _ _ => by kernel_rfl
theorem b11_10_0 : Qs 11 10 0 := fun _ _ => by kernel_rfl
theorem b11_10_1 : Qs 11 10 1 := fun _ _ => by kernel_rfl
theorem b11_10_2 : Qs 11 10 2 := fun _ _ => by kernel_rfl
theorem b11_10_3 : Qs 11 10 3 := fun _ _ => by kernel_rfl
theorem b12_10_l : Ls 12 10 := fun _ _ => by kernel_rfl
theorem b12_10_0 : Qs 12 10 0 := fun _ _ => by kernel_rfl
theorem b12_10_1 : Qs 12 10 1 := fun _ _ => by kernel_rfl
theorem b12_10_2 : Qs 12 10 2 := fun _ _ => by kernel_rfl
theorem b12_10_3 : Qs 12 10 3 := fun _ _ => by kernel_rfl
theorem b19_10_l : Ls 19 10 := fun _ _ => by kernel_rfl
theorem b19_10_0 : Qs 19 10 0 := fun _ _ => by kernel_rfl
theorem b19_10_1 : Qs 19 10 1 := fun _ _ => by kernel_rfl
theorem b19_10_2 : Qs 19 10 2 := fun _ _ => by kernel_rfl
theorem b19_10_3 : Qs 19 10 3 := fun _ _ => by kernel_rfl
theorem b16_9_l : Ls 16 9 := fun _ _ => by kernel_rfl
theorem b16_9_0 : Qs 16 9 0 := fun _ _ => by kernel_rfl
theorem b16_9_1 : Qs 16 9 1 := fun _ _ => by kernel_rfl
theorem b16_9_2 : Qs 16 9 2 := fun _ _ => by kernel_rfl
theorem b16_9_3 : Qs 16 9 3 := fun _ _ => by kernel_rfl
theorem b11_8_l : Ls 11 8 := fun _ _ => by kernel_rfl
theorem b11_8_0 : Qs 11 8 0 := fun _ _ => by kernel_rfl
theorem b11_8_1 : Qs 11 8 1 := fun _ _ => by kernel_rfl
theorem b11_8_2 : Qs 11 8 2 := fun _ _ => by kernel_rfl
theorem b11_8_3 : Qs 11 8 3 := fun _ _ => by kernel_rfl
theorem b17_8_l : Ls 17 8 := fun _ _ => by kernel_rfl
theorem b17_8_0 : Qs 17 8 0 := fun _ _ => by kernel_rfl
theorem b17_8_1 : Qs 17 8 1 := fun _ _ => by kernel_rfl
theorem b17_8_2 : Qs 17 8 2 := fun _ _ => by kernel_rfl
theorem b17_8_3 : Qs 17 8 3 := fun _ _ => by kernel_rfl
theorem b12_7_l : Ls 12 7 := fun _ _ => by kernel_rfl
theorem b12_7_0 : Qs 12 7 0 := fun _ _ => by kernel_rfl
theorem b12_7_1 : Qs 12 7 1 := fun _ _ => by kernel_rfl
theorem b12_7_2 : Qs 12 7 2 := fun _ _ => by kernel_rfl
theorem b12_7_3 : Qs 12 7 3 := fun _ _ => by kernel_rfl
theorem b19_7_l : Ls 19 7 := fun _ _ => by kernel_rfl
theorem b19_7_0 : Qs 19 7 0 := fun _ _ => by kernel_rfl
theorem b19_7_1 : Qs 19 7 1 := fun _ _ => by kernel_rfl
theorem b19_7_2 : Qs 19 7 2 := fun _ _ => by kernel_rfl
theorem b19_7_3 : Qs 19 7 3 := fun _ _ => by kernel_rfl
theorem b14_6_l : Ls 14 6 := fun _ _ => by kernel_rfl
theorem b14_6_0 : Qs 14 6 0 := fun _ _ => by kernel_rfl
theorem b14_6_1 : Qs 14 6 1 := fun _ _ => by kernel_rfl
theorem b14_6_2 : Qs 14 6 2 := fun _ _ => by kernel_rfl
theorem b14_6_3 : Qs 14 6 3 := fun _ _ => by kernel_rfl
theorem b6_5_l : Ls 6 5 := fun _ _ => by kernel_rfl
theorem b6_5_0 : Qs 6 5 0 := fun _ _ => by kernel_rfl
theorem b6_5_1 : Qs 6 5 1 := fun _ _ => by kernel_rfl
theorem b6_5_2 : Qs 6 5 2 := fun _ _ => by kernel_rfl
theorem b6_5_3 : Qs 6 5 3 := fun _ _ => by kernel_rfl
theorem b8_5_l : Ls 8 5 := fun _ _ => by kernel_rfl
theorem b8_5_0 : Qs 8 5 0 := fun _ _ => by kernel_rfl
theorem b8_5_1 : Qs 8 5 1 := fun _ _ => by kernel_rfl
theorem b8_5_2 : Qs 8 5 2 := fun _ _ => by kernel_rfl
theorem b8_5_3 : Qs 8 5 3 := fun _ _ => by kernel_rfl
theorem b15_5_l : Ls 15 5 := fun _ _ => by kernel_rfl
theorem b15_5_0 : Qs 15 5 0 := fun _ _ => by kernel_rfl
theorem b15_5_1 : Qs 15 5 1 := fun _ _ => by kernel_rfl
theorem b15_5_2 : Qs 15 5 2 := fun _ _ => by kernel_rfl
theorem b15_5_3 : Qs 15 5 3 := fun _ _ => by kernel_rfl
theorem b7_4_l : Ls 7 4 := fun _ _ => by kernel_rfl
theorem b7_4_0 : Qs 7 4 0 := fun _ _ => by kernel_rfl
theorem b7_4_1 : Qs 7 4 1 := fun _ _ => by kernel_rfl
theorem b7_4_2 : Qs 7 4 2 := fun _ _ => by kernel_rfl
theorem b7_4_3 : Qs 7 4 3 := fun _ _ => by kernel_rfl
theorem b14_4_l : Ls 14 4 := fun _ _ => by kernel_rfl
theorem b14_4_0 : Qs 14 4 0 := fun _ _ => by kernel_rfl
theorem b14_4_1 : Qs 14 4 1 := fun _ _ => by kernel_rfl
theorem b14_4_2 : Qs 14 4 2 := fun _ _ => by kernel_rfl
theorem b14_4_3 : Qs 14 4 3 := fun _ _ => by kernel_rfl
theorem b4_3_l : Ls 4 3 := fun _ _ => by kernel_rfl
theorem b4_3_0 : Qs 4 3 0 := fun _ _ => by kernel_rfl
theorem b4_3_1 : Qs 4 3 1 := fun _ _ => by kernel_rfl
theorem b4_3_2 : Qs 4 3 2 := fun _ _ => by kernel_rfl
theorem b4_3_3 : Qs 4 3 3 := fun _ _ => by kernel_rfl
theorem b10_3_l : Ls 10 3 := fun _ _ => by kernel_rfl
theorem b10_3_0 : Qs 10 3 0 := fun _ _ => by kernel_rfl
theorem b10_3_1 : Qs 10 3 1 := fun _ _ => by kernel_rfl
theorem b10_3_2 : Qs 10 3 2 := fun _ _ => by kernel_rfl
theorem b10_3_3 : Qs 10 3 3 := fun _ _ => by kernel_rfl
theorem b17_3_l : Ls 17 3 := fun _ _ => by kernel_rfl
theorem b17_3_0 : Qs 17 3 0 := fun _ _ => by kernel_rfl
theorem b17_3_1 : Qs 17 3 1 := fun _ _ => by kernel_rfl
theorem b17_3_2 : Qs 17 3 2 := fun _ _ => by kernel_rfl
theorem b17_3_3 : Qs 17 3 3 := fun _ _ => by kernel_rfl
theorem b9_2_l : Ls 9 2 := fun _ _ => by kernel_rfl
theorem b9_2_0 : Qs 9 2 0 := fun _ _ => by kernel_rfl
theorem b9_2_1 : Qs 9 2 1 := fun _ _ => by kernel_rfl
theorem b9_2_2 : Qs 9 2 2 := fun _ _ => by kernel_rfl
theorem b9_2_3 : Qs 9 2 3 := fun _ _ => by kernel_rfl
theorem b16_2_l : Ls 16 2 := fun _ _ => by kernel_rfl
theorem b16_2_0 : Qs 16 2 0 := fun _ _ => by kernel_rfl
theorem b16_2_1 : Qs 16 2 1 := fun _ _ => by kernel_rfl
theorem b16_2_2 : Qs 16 2 2 := fun _ _ => by kernel_rfl
theorem b16_2_3 : Qs 16 2 3 := fun _ _ => by kernel_rfl
theorem b4_1_l : Ls 4 1 := fun _ _ => by kernel_rfl
theorem b4_1_0 : Qs 4 1 0 := fun _ _ => by kernel_rfl
theorem b4_1_1 : Qs 4 1 1 := fun _ _ => by kernel_rfl
theorem b4_1_2 : Qs 4 1 2 := fun _ _ => by kernel_rfl
theorem b4_1_3 : Qs 4 1 3 := fun _ _ => by kernel_rfl
theorem b10_1_l : Ls 10 1 := fun _ _ => by kernel_rfl
theorem b10_1_0 : Qs 10 1 0 := fun _ _ => by kernel_rfl
theorem b10_1_1 : Qs 10 1 1 := fun _ _ => by kernel_rfl
theorem b10_1_2 : Qs 10 1 2 := fun _ _ => by kernel_rfl
theorem b10_1_3 : Qs 10 1 3 := fun _ _ => by kernel_rfl
theorem b17_1_l : Ls 17 1 := fun _ _ => by kernel_rfl
theorem b17_1_0 : Qs 17 1 0 := fun _ _ => by kernel_rfl
theorem b17_1_1 : Qs 17 1 1 := fun _ _ => by kernel_rfl
theorem b17_1_2 : Qs 17 1 2 := fun _ _ => by kernel_rfl
theorem b17_1_3 : Qs 17 1 3 := fun _ _ => by kernel_rfl
theorem b5_0_l : Ls 5 0 := fun _ _ => by kernel_rfl
theorem b5_0_0 : Qs 5 0 0 := fun _ _ => by kernel_rfl
theorem b5_0_1 : Qs 5 0 1 := fun _ _ => by kernel_rfl
theorem b5_0_2 : Qs 5 0 2 := fun _ _ => by kernel_rfl
theorem b5_0_3 : Qs 5 0 3 := fun _ _ => by kernel_rfl
theorem b12_0_l : Ls 12 0 := fun _ _ => by kernel_rfl
theorem b12_0_0 : Qs 12 0 0 := fun _ _ => by kernel_rfl
theorem b12_0_1 : Qs 12 0 1 := fun _ _ => by kernel_rfl
theorem b12_0_2 : Qs 12 0 2 := fun _ _ => by kernel_rfl
theorem b12_0_3 : Qs 12 0 3 := fun _ _ => by kernel_rfl
theorem b19_0_l : Ls 19 0 := fun _ _ => by kernel_rfl
theorem b19_0_0 : Qs 19 0 0 := fun _ _ => by kernel_rfl
theorem b19_0_1 : Qs 19 0 1 := fun _ _ => by kernel_rfl
theorem b19_0_2 : Qs 19 0 2 := fun _ _ => by kernel_rfl
theorem b19_0_3 : Qs 19 0 3 := fun _ _ => by kernel_rfl
end
end Go.Proofs.YtdkpggfooahnnaaGreatDoor
