/-
  Runs of quartermasterFiles, by the kernel (3 of 8). No condition.
-/
import Derived.Test.YtdkpggfooahnnaaGreatDoorRunquartermasterFiles0
open Go Go.Mx
namespace Go.Proofs.YtdkpggfooahnnaaGreatDoor
set_option maxRecDepth 1000000
noncomputable section
theorem xy_g20f (ty : Nat) (τ : Nat → Nat) : xyRun τ (.sl 12 0 20 1) (.cons (gdE false 13) (lsG gdL (fun _ => .nil) 19 16 19)) ty = true := by kernel_rfl
theorem xy_g14f (ty : Nat) (τ : Nat → Nat) : xyRun τ (.sl 12 0 14 1) (.cons (gdE false 13) (lsG gdL (fun _ => .nil) 13 16 13)) ty = true := by kernel_rfl
theorem xy_g13f (ty : Nat) (τ : Nat → Nat) : xyRun τ (.sl 12 0 13 1) (.cons (gdE false 13) (lsG gdL (fun _ => .nil) 12 16 12)) ty = true := by kernel_rfl
theorem b18_17_l : Ls 18 17 := fun _ _ => by kernel_rfl
theorem b18_17_0 : Qs 18 17 0 := fun _ _ => by kernel_rfl
theorem b18_17_1 : Qs 18 17 1 := fun _ _ => by kernel_rfl
theorem b18_17_2 : Qs 18 17 2 := fun _ _ => by kernel_rfl
theorem b18_17_3 : Qs 18 17 3 := fun _ _ => by kernel_rfl
theorem xy_g8t (ty : Nat) (τ : Nat → Nat) : xyRun τ (.sl 12 0 8 1) (.cons (gdE true 13) (lsG gdL (fun _ => .nil) 7 16 7)) ty = true := by kernel_rfl
theorem b18_15_l : Ls 18 15 := fun _ _ => by kernel_rfl
theorem b18_15_0 : Qs 18 15 0 := fun _ _ => by kernel_rfl
theorem b18_15_1 : Qs 18 15 1 := fun _ _ => by kernel_rfl
theorem b18_15_2 : Qs 18 15 2 := fun _ _ => by kernel_rfl
theorem b18_15_3 : Qs 18 15 3 := fun _ _ => by kernel_rfl
theorem xy_g6f (ty : Nat) (τ : Nat → Nat) : xyRun τ (.sl 12 0 6 1) (.cons (gdE false 13) (lsG gdL (fun _ => .nil) 5 16 5)) ty = true := by kernel_rfl
theorem b16_13_l : Ls 16 13 := fun _ _ => by kernel_rfl
theorem b16_13_0 : Qs 16 13 0 := fun _ _ => by kernel_rfl
theorem b16_13_1 : Qs 16 13 1 := fun _ _ => by kernel_rfl
theorem b16_13_2 : Qs 16 13 2 := fun _ _ => by kernel_rfl
theorem b16_13_3 : Qs 16 13 3 := fun _ _ => by kernel_rfl
theorem b19_13_l : Ls 19 13 := fun _ _ => by kernel_rfl
theorem b19_13_0 : Qs 19 13 0 := fun _ _ => by kernel_rfl
theorem b19_13_1 : Qs 19 13 1 := fun _ _ => by kernel_rfl
theorem b19_13_2 : Qs 19 13 2 := fun _ _ => by kernel_rfl
theorem b19_13_3 : Qs 19 13 3 := fun _ _ => by kernel_rfl
theorem b17_12_l : Ls 17 12 := fun _ _ => by kernel_rfl
theorem b17_12_0 : Qs 17 12 0 := fun _ _ => by kernel_rfl
theorem b17_12_1 : Qs 17 12 1 := fun _ _ => by kernel_rfl
theorem b17_12_2 : Qs 17 12 2 := fun _ _ => by kernel_rfl
theorem b17_12_3 : Qs 17 12 3 := fun _ _ => by kernel_rfl
theorem b13_11_l : Ls 13 11 := fun _ _ => by kernel_rfl
theorem b13_11_0 : Qs 13 11 0 := fun _ _ => by kernel_rfl
theorem b13_11_1 : Qs 13 11 1 := fun _ _ => by kernel_rfl
theorem b13_11_2 : Qs 13 11 2 := fun _ _ => by kernel_rfl
theorem b13_11_3 : Qs 13 11 3 := fun _ _ => by kernel_rfl
theorem b18_11_l : Ls 18 11 := fun _ _ => by kernel_rfl
theorem b18_11_0 : Qs 18 11 0 := fun _ _ => by kernel_rfl
theorem b18_11_1 : Qs 18 11 1 := fun _ _ => by kernel_rfl
theorem b18_11_2 : Qs 18 11 2 := fun _ _ => by kernel_rfl
theorem b18_11_3 : Qs 18 11 3 := fun _ _ => by kernel_rfl
theorem b14_10_l : Ls 14 10 := fun _ _ => by kernel_rfl
theorem b14_10_0 : Qs 14 10 0 := fun _ _ => by kernel_rfl
theorem b14_10_1 : Qs 14 10 1 := fun _ _ => by kernel_rfl
theorem b14_10_2 : Qs 14 10 2 := fun _ _ => by kernel_rfl
theorem b14_10_3 : Qs 14 10 3 := fun _ _ => by kernel_rfl
theorem xy_g1t (ty : Nat) (τ : Nat → Nat) : xyRun τ (.sl 12 0 1 1) (.cons (gdE true 13) (lsG gdL (fun _ => .nil) 0 16 0)) ty = true := by kernel_rfl
theorem b18_9_l : Ls 18 9 := fun _ _ => by kernel_rfl
theorem b18_9_0 : Qs 18 9 0 := fun _ _ => by kernel_rfl
theorem b18_9_1 : Qs 18 9 1 := fun _ _ => by kernel_rfl
theorem b18_9_2 : Qs 18 9 2 := fun _ _ => by kernel_rfl
theorem b18_9_3 : Qs 18 9 3 := fun _ _ => by kernel_rfl
theorem b13_8_l : Ls 13 8 := fun _ _ => by kernel_rfl
theorem b13_8_0 : Qs 13 8 0 := fun _ _ => by kernel_rfl
theorem b13_8_1 : Qs 13 8 1 := fun _ _ => by kernel_rfl
theorem b13_8_2 : Qs 13 8 2 := fun _ _ => by kernel_rfl
theorem b13_8_3 : Qs 13 8 3 := fun _ _ => by kernel_rfl
theorem b19_8_l : Ls 19 8 := fun _ _ => by kernel_rfl
theorem b19_8_0 : Qs 19 8 0 := fun _ _ => by kernel_rfl
theorem b19_8_1 : Qs 19 8 1 := fun _ _ => by kernel_rfl
theorem b19_8_2 : Qs 19 8 2 := fun _ _ => by kernel_rfl
theorem b19_8_3 : Qs 19 8 3 := fun _ _ => by kernel_rfl
theorem b14_7_l : Ls 14 7 := fun _ _ => by kernel_rfl
theorem b14_7_0 : Qs 14 7 0 := fun _ _ => by kernel_rfl
theorem b14_7_1 : Qs 14 7 1 := fun _ _ => by kernel_rfl
theorem b14_7_2 : Qs 14 7 2 := fun _ _ => by kernel_rfl
theorem b14_7_3 : Qs 14 7 3 := fun _ _ => by kernel_rfl
theorem b7_6_l : Ls 7 6 := fun _ _ => by kernel_rfl
theorem b7_6_0 : Qs 7 6 0 := fun _ _ => by kernel_rfl
theorem b7_6_1 : Qs 7 6 1 := fun _ _ => by kernel_rfl
theorem b7_6_2 : Qs 7 6 2 := fun _ _ => by kernel_rfl
theorem b7_6_3 : Qs 7 6 3 := fun _ _ => by kernel_rfl
theorem b9_6_l : Ls 9 6 := fun _ _ => by kernel_rfl
theorem b9_6_0 : Qs 9 6 0 := fun _ _ => by kernel_rfl
theorem b9_6_1 : Qs 9 6 1 := fun _ _ => by kernel_rfl
theorem b9_6_2 : Qs 9 6 2 := fun _ _ => by kernel_rfl
theorem b9_6_3 : Qs 9 6 3 := fun _ _ => by kernel_rfl
theorem b16_6_l : Ls 16 6 := fun _ _ => by kernel_rfl
theorem b16_6_0 : Qs 16 6 0 := fun _ _ => by kernel_rfl
theorem b16_6_1 : Qs 16 6 1 := fun _ _ => by kernel_rfl
theorem b16_6_2 : Qs 16 6 2 := fun _ _ => by kernel_rfl
theorem b16_6_3 : Qs 16 6 3 := fun _ _ => by kernel_rfl
theorem b10_5_l : Ls 10 5 := fun _ _ => by kernel_rfl
theorem b10_5_0 : Qs 10 5 0 := fun _ _ => by kernel_rfl
theorem b10_5_1 : Qs 10 5 1 := fun _ _ => by kernel_rfl
theorem b10_5_2 : Qs 10 5 2 := fun _ _ => by kernel_rfl
theorem b10_5_3 : Qs 10 5 3 := fun _ _ => by kernel_rfl
theorem b17_5_l : Ls 17 5 := fun _ _ => by kernel_rfl
theorem b17_5_0 : Qs 17 5 0 := fun _ _ => by kernel_rfl
theorem b17_5_1 : Qs 17 5 1 := fun _ _ => by kernel_rfl
theorem b17_5_2 : Qs 17 5 2 := fun _ _ => by kernel_rfl
theorem b17_5_3 : Qs 17 5 3 := fun _ _ => by kernel_rfl
theorem b9_4_l : Ls 9 4 := fun _ _ => by kernel_rfl
theorem b9_4_0 : Qs 9 4 0 := fun _ _ => by kernel_rfl
theorem b9_4_1 : Qs 9 4 1 := fun _ _ => by kernel_rfl
theorem b9_4_2 : Qs 9 4 2 := fun _ _ => by kernel_rfl
theorem b9_4_3 : Qs 9 4 3 := fun _ _ => by kernel_rfl
theorem b16_4_l : Ls 16 4 := fun _ _ => by kernel_rfl
theorem b16_4_0 : Qs 16 4 0 := fun _ _ => by kernel_rfl
theorem b16_4_1 : Qs 16 4 1 := fun _ _ => by kernel_rfl
theorem b16_4_2 : Qs 16 4 2 := fun _ _ => by kernel_rfl
theorem b16_4_3 : Qs 16 4 3 := fun _ _ => by kernel_rfl
theorem b6_3_l : Ls 6 3 := fun _ _ => by kernel_rfl
theorem b6_3_0 : Qs 6 3 0 := fun _ _ => by kernel_rfl
theorem b6_3_1 : Qs 6 3 1 := fun _ _ => by kernel_rfl
theorem b6_3_2 : Qs 6 3 2 := fun _ _ => by kernel_rfl
theorem b6_3_3 : Qs 6 3 3 := fun _ _ => by kernel_rfl
theorem b12_3_l : Ls 12 3 := fun _ _ => by kernel_rfl
theorem b12_3_0 : Qs 12 3 0 := fun _ _ => by kernel_rfl
theorem b12_3_1 : Qs 12 3 1 := fun _ _ => by kernel_rfl
theorem b12_3_2 : Qs 12 3 2 := fun _ _ => by kernel_rfl
theorem b12_3_3 : Qs 12 3 3 := fun _ _ => by kernel_rfl
theorem b19_3_l : Ls 19 3 := fun _ _ => by kernel_rfl
theorem b19_3_0 : Qs 19 3 0 := fun _ _ => by kernel_rfl
theorem b19_3_1 : Qs 19 3 1 := fun _ _ => by kernel_rfl
theorem b19_3_2 : Qs 19 3 2 := fun _ _ => by kernel_rfl
theorem b19_3_3 : Qs 19 3 3 := fun _ _ => by kernel_rfl
theorem b11_2_l : Ls 11 2 := fun _ _ => by kernel_rfl
theorem b11_2_0 : Qs 11 2 0 := fun _ _ => by kernel_rfl
theorem b11_2_1 : Qs 11 2 1 := fun _ _ => by kernel_rfl
theorem b11_2_2 : Qs 11 2 2 := fun _ _ => by kernel_rfl
theorem b11_2_3 : Qs 11 2 3 := fun _ _ => by kernel_rfl
theorem b18_2_l : Ls 18 2 := fun _ _ => by kernel_rfl
theorem b18_2_0 : Qs 18 2 0 := fun _ _ => by kernel_rfl
theorem b18_2_1 : Qs 18 2 1 := fun _ _ => by kernel_rfl
theorem b18_2_2 : Qs 18 2 2 := fun _ _ => by kernel_rfl
theorem b18_2_3 : Qs 18 2 3 := fun _ _ => by kernel_rfl
theorem b6_1_l : Ls 6 1 := fun _ _ => by kernel_rfl
theorem b6_1_0 : Qs 6 1 0 := fun _ _ => by kernel_rfl
theorem b6_1_1 : Qs 6 1 1 := fun _ _ => by kernel_rfl
theorem b6_1_2 : Qs 6 1 2 := fun _ _ => by kernel_rfl
theorem b6_1_3 : Qs 6 1 3 := fun _ _ => by kernel_rfl
theorem b12_1_l : Ls 12 1 := fun _ _ => by kernel_rfl
theorem b12_1_0 : Qs 12 1 0 := fun _ _ => by kernel_rfl
theorem b12_1_1 : Qs 12 1 1 := fun _ _ => by kernel_rfl
theorem b12_1_2 : Qs 12 1 2 := fun _ _ => by kernel_rfl
theorem b12_1_3 : Qs 12 1 3 := fun _ _ => by kernel_rfl
theorem b19_1_l : Ls 19 1 := fun _ _ => by kernel_rfl
theorem b19_1_0 : Qs 19 1 0 := fun _ _ => by kernel_rfl
theorem b19_1_1 : Qs 19 1 1 := fun _ _ => by kernel_rfl
theorem b19_1_2 : Qs 19 1 2 := fun _ _ => by kernel_rfl
theorem b19_1_3 : Qs 19 1 3 := fun _ _ => by kernel_rfl
theorem b7_0_l : Ls 7 0 := fun _ _ => by kernel_rfl
theorem b7_0_0 : Qs 7 0 0 := fun _ _ => by kernel_rfl
theorem b7_0_1 : Qs 7 0 1 := fun _ _ => by kernel_rfl
theorem b7_0_2 : Qs 7 0 2 := fun _ _ => by kernel_rfl
theorem b7_0_3 : Qs 7 0 3 := fun _ _ => by kernel_rfl
theorem b14_0_l : Ls 14 0 := fun _ _ => by kernel_rfl
theorem b14_0_0 : Qs 14 0 0 := fun _ _ => by kernel_rfl
theorem b14_0_1 : Qs 14 0 1 := fun _ _ => by kernel_rfl
theorem b14_0_2 : Qs 14 0 2 := fun _ _ => by kernel_rfl
theorem b14_0_3 : Qs 14 0 3 := fun _ _ => by kernel_rfl
end
end Go.Proofs.YtdkpggfooahnnaaGreatDoor
