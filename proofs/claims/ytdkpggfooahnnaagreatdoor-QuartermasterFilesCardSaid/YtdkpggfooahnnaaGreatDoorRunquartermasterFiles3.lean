/-
  Runs of quartermasterFiles, by the kernel (4 of 8). No condition.
-/
import Derived.Test.YtdkpggfooahnnaaGreatDoorRunquartermasterFiles0
open Go Go.Mx
namespace Go.Proofs.YtdkpggfooahnnaaGreatDoor
set_option maxRecDepth 1000000
noncomputable section
theorem xy_g19t (ty : Nat) (τ : Nat → Nat) : xyRun τ (.sl 12 0 19 1) (.cons (gdE true 13) (lsG gdL (fun _ => .nil) 18 16 18)) ty = true := by kernel_rfl
theorem xy_g15t (ty : Nat) (τ : Nat → Nat) : xyRun τ (.sl 12 0 15 1) (.cons (gdE true 13) (lsG gdL (fun _ => .nil) 14 16 14)) ty = true := by kernel_rfl
theorem xy_g12t (ty : Nat) (τ : Nat → Nat) : xyRun τ (.sl 12 0 12 1) (.cons (gdE true 13) (lsG gdL (fun _ => .nil) 11 16 11)) ty = true := by kernel_rfl
theorem b20_18_l : Ls 20 18 := fun _ _ => by kernel_rfl
theorem b20_18_0 : Qs 20 18 0 := fun _ _ => by kernel_rfl
theorem b20_18_1 : Qs 20 18 1 := fun _ _ => by kernel_rfl
theorem b20_18_2 : Qs 20 18 2 := fun _ _ => by kernel_rfl
theorem b20_18_3 : Qs 20 18 3 := fun _ _ => by kernel_rfl
theorem xy_g8f (ty : Nat) (τ : Nat → Nat) : xyRun τ (.sl 12 0 8 1) (.cons (gdE false 13) (lsG gdL (fun _ => .nil) 7 16 7)) ty = true := by kernel_rfl
theorem b19_15_l : Ls 19 15 := fun _ _ => by kernel_rfl
theorem b19_15_0 : Qs 19 15 0 := fun _ _ => by kernel_rfl
theorem b19_15_1 : Qs 19 15 1 := fun _ _ => by kernel_rfl
theorem b19_15_2 : Qs 19 15 2 := fun _ _ => by kernel_rfl
theorem b19_15_3 : Qs 19 15 3 := fun _ _ => by kernel_rfl
theorem b15_14_l : Ls 15 14 := fun _ _ => by kernel_rfl
theorem b15_14_0 : Qs 15 14 0 := fun _ _ => by kernel_rfl
theorem b15_14_1 : Qs 15 14 1 := fun _ _ => by kernel_rfl
theorem b15_14_2 : Qs 15 14 2 := fun _ _ => by kernel_rfl
theorem b15_14_3 : Qs 15 14 3 := fun _ _ => by kernel_rfl
theorem b19_14_l : Ls 19 14 := fun _ _ => by kernel_rfl
theorem b19_14_0 : Qs 19 14 0 := fun _ _ => by kernel_rfl
theorem b19_14_1 : Qs 19 14 1 := fun _ _ => by kernel_rfl
theorem b19_14_2 : Qs 19 14 2 := fun _ _ => by kernel_rfl
theorem b19_14_3 : Qs 19 14 3 := fun _ _ => by kernel_rfl
theorem b20_13_l : Ls 20 13 := fun _ _ => by kernel_rfl
theorem b20_13_0 : Qs 20 13 0 := fun _ _ => by kernel_rfl
theorem b20_13_1 : Qs 20 13 1 := fun _ _ => by kernel_rfl
theorem b20_13_2 : Qs 20 13 2 := fun _ _ => by kernel_rfl
theorem b20_13_3 : Qs 20 13 3 := fun _ _ => by kernel_rfl
theorem b18_12_l : Ls 18 12 := fun _ _ => by kernel_rfl
theorem b18_12_0 : Qs 18 12 0 := fun _ _ => by kernel_rfl
theorem b18_12_1 : Qs 18 12 1 := fun _ _ => by kernel_rfl
theorem b18_12_2 : Qs 18 12 2 := fun _ _ => by kernel_rfl
theorem b18_12_3 : Qs 18 12 3 := fun _ _ => by kernel_rfl
theorem b14_11_l : Ls 14 11 := fun _ _ => by kernel_rfl
theorem b14_11_0 : Qs 14 11 0 := fun _ _ => by kernel_rfl
theorem b14_11_1 : Qs 14 11 1 := fun _ _ => by kernel_rfl
theorem b14_11_2 : Qs 14 11 2 := fun _ _ => by kernel_rfl
theorem b14_11_3 : Qs 14 11 3 := fun _ _ => by kernel_rfl
theorem b19_11_l : Ls 19 11 := fun _ _ => by kernel_rfl
theorem b19_11_0 : Qs 19 11 0 := fun _ _ => by kernel_rfl
theorem b19_11_1 : Qs 19 11 1 := fun _ _ => by kernel_rfl
theorem b19_11_2 : Qs 19 11 2 := fun _ _ => by kernel_rfl
theorem b19_11_3 : Qs 19 11 3 := fun _ _ => by kernel_rfl
theorem b15_10_l : Ls 15 10 := fun _ _ => by kernel_rfl
theorem b15_10_0 : Qs 15 10 0 := fun _ _ => by kernel_rfl
theorem b15_10_1 : Qs 15 10 1 := fun _ _ => by kernel_rfl
theorem b15_10_2 : Qs 15 10 2 := fun _ _ => by kernel_rfl
theorem b15_10_3 : Qs 15 10 3 := fun _ _ => by kernel_rfl
theorem xy_g1f (ty : Nat) (τ : Nat → Nat) : xyRun τ (.sl 12 0 1 1) (.cons (gdE false 13) (lsG gdL (fun _ => .nil) 0 16 0)) ty = true := by kernel_rfl
theorem b19_9_l : Ls 19 9 := fun _ _ => by kernel_rfl
theorem b19_9_0 : Qs 19 9 0 := fun _ _ => by kernel_rfl
theorem b19_9_1 : Qs 19 9 1 := fun _ _ => by kernel_rfl
theorem b19_9_2 : Qs 19 9 2 := fun _ _ => by kernel_rfl
theorem b19_9_3 : Qs 19 9 3 := fun _ _ => by kernel_rfl
theorem b14_8_l : Ls 14 8 := fun _ _ => by kernel_rfl
theorem b14_8_0 : Qs 14 8 0 := fun _ _ => by kernel_rfl
theorem b14_8_1 : Qs 14 8 1 := fun _ _ => by kernel_rfl
theorem b14_8_2 : Qs 14 8 2 := fun _ _ => by kernel_rfl
theorem b14_8_3 : Qs 14 8 3 := fun _ _ => by kernel_rfl
theorem b20_8_l : Ls 20 8 := fun _ _ => by kernel_rfl
theorem b20_8_0 : Qs 20 8 0 := fun _ _ => by kernel_rfl
theorem b20_8_1 : Qs 20 8 1 := fun _ _ => by kernel_rfl
theorem b20_8_2 : Qs 20 8 2 := fun _ _ => by kernel_rfl
theorem b20_8_3 : Qs 20 8 3 := fun _ _ => by kernel_rfl
theorem b15_7_l : Ls 15 7 := fun _ _ => by kernel_rfl
theorem b15_7_0 : Qs 15 7 0 := fun _ _ => by kernel_rfl
theorem b15_7_1 : Qs 15 7 1 := fun _ _ => by kernel_rfl
theorem b15_7_2 : Qs 15 7 2 := fun _ _ => by kernel_rfl
theorem b15_7_3 : Qs 15 7 3 := fun _ _ => by kernel_rfl
theorem b8_6_l : Ls 8 6 := fun _ _ => by kernel_rfl
theorem b8_6_0 : Qs 8 6 0 := fun _ _ => by kernel_rfl
theorem b8_6_1 : Qs 8 6 1 := fun _ _ => by kernel_rfl
theorem b8_6_2 : Qs 8 6 2 := fun _ _ => by kernel_rfl
theorem b8_6_3 : Qs 8 6 3 := fun _ _ => by kernel_rfl
theorem b10_6_l : Ls 10 6 := fun _ _ => by kernel_rfl
theorem b10_6_0 : Qs 10 6 0 := fun _ _ => by kernel_rfl
theorem b10_6_1 : Qs 10 6 1 := fun _ _ => by kernel_rfl
theorem b10_6_2 : Qs 10 6 2 := fun _ _ => by kernel_rfl
theorem b10_6_3 : Qs 10 6 3 := fun _ _ => by kernel_rfl
theorem b17_6_l : Ls 17 6 := fun _ _ => by kernel_rfl
theorem b17_6_0 : Qs 17 6 0 := fun _ _ => by kernel_rfl
theorem b17_6_1 : Qs 17 6 1 := fun _ _ => by kernel_rfl
theorem b17_6_2 : Qs 17 6 2 := fun _ _ => by kernel_rfl
theorem b17_6_3 : Qs 17 6 3 := fun _ _ => by kernel_rfl
theorem b11_5_l : Ls 11 5 := fun _ _ => by kernel_rfl
theorem b11_5_0 : Qs 11 5 0 := fun _ _ => by kernel_rfl
theorem b11_5_1 : Qs 11 5 1 := fun _ _ => by kernel_rfl
theorem b11_5_2 : Qs 11 5 2 := fun _ _ => by kernel_rfl
theorem b11_5_3 : Qs 11 5 3 := fun _ _ => by kernel_rfl
theorem b18_5_l : Ls 18 5 := fun _ _ => by kernel_rfl
theorem b18_5_0 : Qs 18 5 0 := fun _ _ => by kernel_rfl
theorem b18_5_1 : Qs 18 5 1 := fun _ _ => by kernel_rfl
theorem b18_5_2 : Qs 18 5 2 := fun _ _ => by kernel_rfl
theorem b18_5_3 : Qs 18 5 3 := fun _ _ => by kernel_rfl
theorem b10_4_l : Ls 10 4 := fun _ _ => by kernel_rfl
theorem b10_4_0 : Qs 10 4 0 := fun _ _ => by kernel_rfl
theorem b10_4_1 : Qs 10 4 1 := fun _ _ => by kernel_rfl
theorem b10_4_2 : Qs 10 4 2 := fun _ _ => by kernel_rfl
theorem b10_4_3 : Qs 10 4 3 := fun _ _ => by kernel_rfl
theorem b17_4_l : Ls 17 4 := fun _ _ => by kernel_rfl
theorem b17_4_0 : Qs 17 4 0 := fun _ _ => by kernel_rfl
theorem b17_4_1 : Qs 17 4 1 := fun _ _ => by kernel_rfl
theorem b17_4_2 : Qs 17 4 2 := fun _ _ => by kernel_rfl
theorem b17_4_3 : Qs 17 4 3 := fun _ _ => by kernel_rfl
theorem b7_3_l : Ls 7 3 := fun _ _ => by kernel_rfl
theorem b7_3_0 : Qs 7 3 0 := fun _ _ => by kernel_rfl
theorem b7_3_1 : Qs 7 3 1 := fun _ _ => by kernel_rfl
theorem b7_3_2 : Qs 7 3 2 := fun _ _ => by kernel_rfl
theorem b7_3_3 : Qs 7 3 3 := fun _ _ => by kernel_rfl
theorem b13_3_l : Ls 13 3 := fun _ _ => by kernel_rfl
theorem b13_3_0 : Qs 13 3 0 := fun _ _ => by kernel_rfl
theorem b13_3_1 : Qs 13 3 1 := fun _ _ => by kernel_rfl
theorem b13_3_2 : Qs 13 3 2 := fun _ _ => by kernel_rfl
theorem b13_3_3 : Qs 13 3 3 := fun _ _ => by kernel_rfl
theorem b20_3_l : Ls 20 3 := fun _ _ => by kernel_rfl
theorem b20_3_0 : Qs 20 3 0 := fun _ _ => by kernel_rfl
theorem b20_3_1 : Qs 20 3 1 := fun _ _ => by kernel_rfl
theorem b20_3_2 : Qs 20 3 2 := fun _ _ => by kernel_rfl
theorem b20_3_3 : Qs 20 3 3 := fun _ _ => by kernel_rfl
theorem b12_2_l : Ls 12 2 := fun _ _ => by kernel_rfl
theorem b12_2_0 : Qs 12 2 0 := fun _ _ => by kernel_rfl
theorem b12_2_1 : Qs 12 2 1 := fun _ _ => by kernel_rfl
theorem b12_2_2 : Qs 12 2 2 := fun _ _ => by kernel_rfl
theorem b12_2_3 : Qs 12 2 3 := fun _ _ => by kernel_rfl
theorem b19_2_l : Ls 19 2 := fun _ _ => by kernel_rfl
theorem b19_2_0 : Qs 19 2 0 := fun _ _ => by kernel_rfl
theorem b19_2_1 : Qs 19 2 1 := fun _ _ => by kernel_rfl
theorem b19_2_2 : Qs 19 2 2 := fun _ _ => by kernel_rfl
theorem b19_2_3 : Qs 19 2 3 := fun _ _ => by kernel_rfl
theorem b7_1_l : Ls 7 1 := fun _ _ => by kernel_rfl
theorem b7_1_0 : Qs 7 1 0 := fun _ _ => by kernel_rfl
theorem b7_1_1 : Qs 7 1 1 := fun _ _ => by kernel_rfl
theorem b7_1_2 : Qs 7 1 2 := fun _ _ => by kernel_rfl
theorem b7_1_3 : Qs 7 1 3 := fun _ _ => by kernel_rfl
theorem b13_1_l : Ls 13 1 := fun _ _ => by kernel_rfl
theorem b13_1_0 : Qs 13 1 0 := fun _ _ => by kernel_rfl
theorem b13_1_1 : Qs 13 1 1 := fun _ _ => by kernel_rfl
theorem b13_1_2 : Qs 13 1 2 := fun _ _ => by kernel_rfl
theorem b13_1_3 : Qs 13 1 3 := fun _ _ => by kernel_rfl
theorem b20_1_l : Ls 20 1 := fun _ _ => by kernel_rfl
theorem b20_1_0 : Qs 20 1 0 := fun _ _ => by kernel_rfl
theorem b20_1_1 : Qs 20 1 1 := fun _ _ => by kernel_rfl
theorem b20_1_2 : Qs 20 1 2 := fun _ _ => by kernel_rfl
theorem b20_1_3 : Qs 20 1 3 := fun _ _ => by kernel_rfl
theorem b8_0_l : Ls 8 0 := fun _ _ => by kernel_rfl
theorem b8_0_0 : Qs 8 0 0 := fun _ _ => by kernel_rfl
theorem b8_0_1 : Qs 8 0 1 := fun _ _ => by kernel_rfl
theorem b8_0_2 : Qs 8 0 2 := fun _ _ => by kernel_rfl
theorem b8_0_3 : Qs 8 0 3 := fun _ _ => by kernel_rfl
theorem b15_0_l : Ls 15 0 := fun _ _ => by kernel_rfl
theorem b15_0_0 : Qs 15 0 0 := fun _ _ => by kernel_rfl
theorem b15_0_1 : Qs 15 0 1 := fun _ _ => by kernel_rfl
theorem b15_0_2 : Qs 15 0 2 := fun _ _ => by kernel_rfl
theorem b15_0_3 : Qs 15 0 3 := fun _ _ => by kernel_rfl
end
end Go.Proofs.YtdkpggfooahnnaaGreatDoor
