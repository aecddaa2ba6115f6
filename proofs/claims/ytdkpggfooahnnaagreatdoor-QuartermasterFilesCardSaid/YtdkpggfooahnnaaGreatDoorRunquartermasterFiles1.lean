/-
  Runs of quartermasterFiles, by the kernel (2 of 8). No condition.
-/
import Derived.Test.YtdkpggfooahnnaaGreatDoorRunquartermasterFiles0
open Go Go.Mx
namespace Go.Proofs.YtdkpggfooahnnaaGreatDoor
set_option maxRecDepth 1000000
noncomputable section
theorem xy_g20t (ty : Nat) (τ : Nat → Nat) : xyRun τ (.sl 12 0 20 1) (.cons (gdE true 13) (lsG gdL (fun _ => .nil) 19 16 19)) ty = true := by kernel_rfl
theorem xy_g14t (ty : Nat) (τ : Nat → Nat) : xyRun τ (.sl 12 0 14 1) (.cons (gdE true 13) (lsG gdL (fun _ => .nil) 13 16 13)) ty = true := by kernel_rfl
theorem xy_g13t (ty : Nat) (τ : Nat → Nat) : xyRun τ (.sl 12 0 13 1) (.cons (gdE true 13) (lsG gdL (fun _ => .nil) 12 16 12)) ty = true := by kernel_rfl
theorem xy_g9f (ty : Nat) (τ : Nat → Nat) : xyRun τ (.sl 12 0 9 1) (.cons (gdE false 13) (lsG gdL (fun _ => .nil) 8 16 8)) ty = true := by kernel_rfl
theorem b19_16_l : Ls 19 16 := fun _ _ => by kernel_rfl
theorem b19_16_0 : Qs 19 16 0 := fun _ _ => by kernel_rfl
theorem b19_16_1 : Qs 19 16 1 := fun _ _ => by kernel_rfl
theorem b19_16_2 : Qs 19 16 2 := fun _ _ => by kernel_rfl
theorem b19_16_3 : Qs 19 16 3 := fun _ _ => by kernel_rfl
theorem b17_15_l : Ls 17 15 := fun _ _ => by kernel_rfl
theorem b17_15_0 : Qs 17 15 0 := fun _ _ => by kernel_rfl
theorem b17_15_1 : Qs 17 15 1 := fun _ _ => by kernel_rfl
theorem b17_15_2 : Qs 17 15 2 := fun _ _ => by kernel_rfl
theorem b17_15_3 : Qs 17 15 3 := fun _ _ => by kernel_rfl
theorem xy_g6t (ty : Nat) (τ : Nat → Nat) : xyRun τ (.sl 12 0 6 1) (.cons (gdE true 13) (lsG gdL (fun _ => .nil) 5 16 5)) ty = true := by kernel_rfl
theorem b15_13_l : Ls 15 13 := fun _ _ => by kernel_rfl
theorem b15_13_0 : Qs 15 13 0 := fun _ _ => by kernel_rfl
theorem b15_13_1 : Qs 15 13 1 := fun _ _ => by kernel_rfl
theorem b15_13_2 : Qs 15 13 2 := fun _ _ => by kernel_rfl
theorem b15_13_3 : Qs 15 13 3 := fun _ _ => by kernel_rfl
theorem b18_13_l : Ls 18 13 := fun _ _ => by kernel_rfl
theorem b18_13_0 : Qs 18 13 0 := fun _ _ => by kernel_rfl
theorem b18_13_1 : Qs 18 13 1 := fun _ _ => by kernel_rfl
theorem b18_13_2 : Qs 18 13 2 := fun _ _ => by kernel_rfl
theorem b18_13_3 : Qs 18 13 3 := fun _ _ => by kernel_rfl
theorem b16_12_l : Ls 16 12 := fun _ _ => by kernel_rfl
theorem b16_12_0 : Qs 16 12 0 := fun _ _ => by kernel_rfl
theorem b16_12_1 : Qs 16 12 1 := fun _ _ => by kernel_rfl
theorem b16_12_2 : Qs 16 12 2 := fun _ _ => by kernel_rfl
theorem b16_12_3 : Qs 16 12 3 := fun _ _ => by kernel_rfl
theorem b12_11_l : Ls 12 11 := fun _ _ => by kernel_rfl
theorem b12_11_0 : Qs 12 11 0 := fun _ _ => by kernel_rfl
theorem b12_11_1 : Qs 12 11 1 := fun _ _ => by kernel_rfl
theorem b12_11_2 : Qs 12 11 2 := fun _ _ => by kernel_rfl
theorem b12_11_3 : Qs 12 11 3 := fun _ _ => by kernel_rfl
theorem b17_11_l : Ls 17 11 := fun _ _ => by kernel_rfl
theorem b17_11_0 : Qs 17 11 0 := fun _ _ => by kernel_rfl
theorem b17_11_1 : Qs 17 11 1 := fun _ _ => by kernel_rfl
theorem b17_11_2 : Qs 17 11 2 := fun _ _ => by kernel_rfl
theorem b17_11_3 : Qs 17 11 3 := fun _ _ => by kernel_rfl
theorem b13_10_l : Ls 13 10 := fun _ _ => by kernel_rfl
theorem b13_10_0 : Qs 13 10 0 := fun _ _ => by kernel_rfl
theorem b13_10_1 : Qs 13 10 1 := fun _ _ => by kernel_rfl
theorem b13_10_2 : Qs 13 10 2 := fun _ _ => by kernel_rfl
theorem b13_10_3 : Qs 13 10 3 := fun _ _ => by kernel_rfl
theorem b20_10_l : Ls 20 10 := fun _ _ => by kernel_rfl
theorem b20_10_0 : Qs 20 10 0 := fun _ _ => by kernel_rfl
theorem b20_10_1 : Qs 20 10 1 := fun _ _ => by kernel_rfl
theorem b20_10_2 : Qs 20 10 2 := fun _ _ => by kernel_rfl
theorem b20_10_3 : Qs 20 10 3 := fun _ _ => by kernel_rfl
theorem b17_9_l : Ls 17 9 := fun _ _ => by kernel_rfl
theorem b17_9_0 : Qs 17 9 0 := fun _ _ => by kernel_rfl
theorem b17_9_1 : Qs 17 9 1 := fun _ _ => by kernel_rfl
theorem b17_9_2 : Qs 17 9 2 := fun _ _ => by kernel_rfl
theorem b17_9_3 : Qs 17 9 3 := fun _ _ => by kernel_rfl
theorem b12_8_l : Ls 12 8 := fun _ _ => by kernel_rfl
theorem b12_8_0 : Qs 12 8 0 := fun _ _ => by kernel_rfl
theorem b12_8_1 : Qs 12 8 1 := fun _ _ => by kernel_rfl
theorem b12_8_2 : Qs 12 8 2 := fun _ _ => by kernel_rfl
theorem b12_8_3 : Qs 12 8 3 := fun _ _ => by kernel_rfl
theorem b18_8_l : Ls 18 8 := fun _ _ => by kernel_rfl
theorem b18_8_0 : Qs 18 8 0 := fun _ _ => by kernel_rfl
theorem b18_8_1 : Qs 18 8 1 := fun _ _ => by kernel_rfl
theorem b18_8_2 : Qs 18 8 2 := fun _ _ => by kernel_rfl
theorem b18_8_3 : Qs 18 8 3 := fun _ _ => by kernel_rfl
theorem b13_7_l : Ls 13 7 := fun _ _ => by kernel_rfl
theorem b13_7_0 : Qs 13 7 0 := fun _ _ => by kernel_rfl
theorem b13_7_1 : Qs 13 7 1 := fun _ _ => by kernel_rfl
theorem b13_7_2 : Qs 13 7 2 := fun _ _ => by kernel_rfl
theorem b13_7_3 : Qs 13 7 3 := fun _ _ => by kernel_rfl
theorem b20_7_l : Ls 20 7 := fun _ _ => by kernel_rfl
theorem b20_7_0 : Qs 20 7 0 := fun _ _ => by kernel_rfl
theorem b20_7_1 : Qs 20 7 1 := fun _ _ => by kernel_rfl
theorem b20_7_2 : Qs 20 7 2 := fun _ _ => by kernel_rfl
theorem b20_7_3 : Qs 20 7 3 := fun _ _ => by kernel_rfl
theorem b15_6_l : Ls 15 6 := fun _ _ => by kernel_rfl
theorem b15_6_0 : Qs 15 6 0 := fun _ _ => by kernel_rfl
theorem b15_6_1 : Qs 15 6 1 := fun _ _ => by kernel_rfl
theorem b15_6_2 : Qs 15 6 2 := fun _ _ => by kernel_rfl
theorem b15_6_3 : Qs 15 6 3 := fun _ _ => by kernel_rfl
theorem b7_5_l : Ls 7 5 := fun _ _ => by kernel_rfl
theorem b7_5_0 : Qs 7 5 0 := fun _ _ => by kernel_rfl
theorem b7_5_1 : Qs 7 5 1 := fun _ _ => by kernel_rfl
theorem b7_5_2 : Qs 7 5 2 := fun _ _ => by kernel_rfl
theorem b7_5_3 : Qs 7 5 3 := fun _ _ => by kernel_rfl
theorem b9_5_l : Ls 9 5 := fun _ _ => by kernel_rfl
theorem b9_5_0 : Qs 9 5 0 := fun _ _ => by kernel_rfl
theorem b9_5_1 : Qs 9 5 1 := fun _ _ => by kernel_rfl
theorem b9_5_2 : Qs 9 5 2 := fun _ _ => by kernel_rfl
theorem b9_5_3 : Qs 9 5 3 := fun _ _ => by kernel_rfl
theorem b16_5_l : Ls 16 5 := fun _ _ => by kernel_rfl
theorem b16_5_0 : Qs 16 5 0 := fun _ _ => by kernel_rfl
theorem b16_5_1 : Qs 16 5 1 := fun _ _ => by kernel_rfl
theorem b16_5_2 : Qs 16 5 2 := fun _ _ => by kernel_rfl
theorem b16_5_3 : Qs 16 5 3 := fun _ _ => by kernel_rfl
theorem b8_4_l : Ls 8 4 := fun _ _ => by kernel_rfl
theorem b8_4_0 : Qs 8 4 0 := fun _ _ => by kernel_rfl
theorem b8_4_1 : Qs 8 4 1 := fun _ _ => by kernel_rfl
theorem b8_4_2 : Qs 8 4 2 := fun _ _ => by kernel_rfl
theorem b8_4_3 : Qs 8 4 3 := fun _ _ => by kernel_rfl
theorem b15_4_l : Ls 15 4 := fun _ _ => by kernel_rfl
theorem b15_4_0 : Qs 15 4 0 := fun _ _ => by kernel_rfl
theorem b15_4_1 : Qs 15 4 1 := fun _ _ => by kernel_rfl
theorem b15_4_2 : Qs 15 4 2 := fun _ _ => by kernel_rfl
theorem b15_4_3 : Qs 15 4 3 := fun _ _ => by kernel_rfl
theorem b5_3_l : Ls 5 3 := fun _ _ => by kernel_rfl
theorem b5_3_0 : Qs 5 3 0 := fun _ _ => by kernel_rfl
theorem b5_3_1 : Qs 5 3 1 := fun _ _ => by kernel_rfl
theorem b5_3_2 : Qs 5 3 2 := fun _ _ => by kernel_rfl
theorem b5_3_3 : Qs 5 3 3 := fun _ _ => by kernel_rfl
theorem b11_3_l : Ls 11 3 := fun _ _ => by kernel_rfl
theorem b11_3_0 : Qs 11 3 0 := fun _ _ => by kernel_rfl
theorem b11_3_1 : Qs 11 3 1 := fun _ _ => by kernel_rfl
theorem b11_3_2 : Qs 11 3 2 := fun _ _ => by kernel_rfl
theorem b11_3_3 : Qs 11 3 3 := fun _ _ => by kernel_rfl
theorem b18_3_l : Ls 18 3 := fun _ _ => by kernel_rfl
theorem b18_3_0 : Qs 18 3 0 := fun _ _ => by kernel_rfl
theorem b18_3_1 : Qs 18 3 1 := fun _ _ => by kernel_rfl
theorem b18_3_2 : Qs 18 3 2 := fun _ _ => by kernel_rfl
theorem b18_3_3 : Qs 18 3 3 := fun _ _ => by kernel_rfl
theorem b10_2_l : Ls 10 2 := fun _ _ => by kernel_rfl
theorem b10_2_0 : Qs 10 2 0 := fun _ _ => by kernel_rfl
theorem b10_2_1 : Qs 10 2 1 := fun _ _ => by kernel_rfl
theorem b10_2_2 : Qs 10 2 2 := fun _ _ => by kernel_rfl
theorem b10_2_3 : Qs 10 2 3 := fun _ _ => by kernel_rfl
theorem b17_2_l : Ls 17 2 := fun _ _ => by kernel_rfl
theorem b17_2_0 : Qs 17 2 0 := fun _ _ => by kernel_rfl
theorem b17_2_1 : Qs 17 2 1 := fun _ _ => by kernel_rfl
theorem b17_2_2 : Qs 17 2 2 := fun _ _ => by kernel_rfl
theorem b17_2_3 : Qs 17 2 3 := fun _ _ => by kernel_rfl
theorem b5_1_l : Ls 5 1 := fun _ _ => by kernel_rfl
theorem b5_1_0 : Qs 5 1 0 := fun _ _ => by kernel_rfl
theorem b5_1_1 : Qs 5 1 1 := fun _ _ => by kernel_rfl
theorem b5_1_2 : Qs 5 1 2 := fun _ _ => by kernel_rfl
theorem b5_1_3 : Qs 5 1 3 := fun _ _ => by kernel_rfl
theorem b11_1_l : Ls 11 1 := fun _ _ => by kernel_rfl
theorem b11_1_0 : Qs 11 1 0 := fun _ _ => by kernel_rfl
theorem b11_1_1 : Qs 11 1 1 := fun _ _ => by kernel_rfl
theorem b11_1_2 : Qs 11 1 2 := fun _ _ => by kernel_rfl
theorem b11_1_3 : Qs 11 1 3 := fun _ _ => by kernel_rfl
theorem b18_1_l : Ls 18 1 := fun _ _ => by kernel_rfl
theorem b18_1_0 : Qs 18 1 0 := fun _ _ => by kernel_rfl
theorem b18_1_1 : Qs 18 1 1 := fun _ _ => by kernel_rfl
theorem b18_1_2 : Qs 18 1 2 := fun _ _ => by kernel_rfl
theorem b18_1_3 : Qs 18 1 3 := fun _ _ => by kernel_rfl
theorem b6_0_l : Ls 6 0 := fun _ _ => by kernel_rfl
theorem b6_0_0 : Qs 6 0 0 := fun _ _ => by kernel_rfl
theorem b6_0_1 : Qs 6 0 1 := fun _ _ => by kernel_rfl
theorem b6_0_2 : Qs 6 0 2 := fun _ _ => by kernel_rfl
theorem b6_0_3 : Qs 6 0 3 := fun _ _ => by kernel_rfl
theorem b13_0_l : Ls 13 0 := fun _ _ => by kernel_rfl
theorem b13_0_0 : Qs 13 0 0 := fun _ _ => by kernel_rfl
theorem b13_0_1 : Qs 13 0 1 := fun _ _ => by kernel_rfl
theorem b13_0_2 : Qs 13 0 2 := fun _ _ => by kernel_rfl
theorem b13_0_3 : Qs 13 0 3 := fun _ _ => by kernel_rfl
theorem b20_0_l : Ls 20 0 := fun _ _ => by kernel_rfl
theorem b20_0_0 : Qs 20 0 0 := fun _ _ => by kernel_rfl
theorem b20_0_1 : Qs 20 0 1 := fun _ _ => by kernel_rfl
theorem b20_0_2 : Qs 20 0 2 := fun _ _ => by kernel_rfl
theorem b20_0_3 : Qs 20 0 3 := fun _ _ => by kernel_rfl
end
end Go.Proofs.YtdkpggfooahnnaaGreatDoor
