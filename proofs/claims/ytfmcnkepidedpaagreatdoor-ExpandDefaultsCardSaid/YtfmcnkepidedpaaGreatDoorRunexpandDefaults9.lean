/-
  Runs of expandDefaults, by the kernel (10 of 22). No condition.
-/
import Derived.Test.YtfmcnkepidedpaaGreatDoorRunexpandDefaults0
open Go Go.Mx
namespace Go.Proofs.YtfmcnkepidedpaaGreatDoor
set_option maxRecDepth 1000000
noncomputable section
theorem xd_m1_0_60 (τ : Nat → Nat) : xdRun τ (.i .i64 1) (.i .i64 0) (nzV 68 69 59) (.w (atomsV 97 122 60 8 .nil)) 70 = true := by kernel_rfl
theorem xd_m0_5_59 (τ : Nat → Nat) : xdRun τ (.i .i64 0) (.i .i64 5) (nzV 67 68 59) (.w (atomsV 97 122 59 8 .nil)) 69 = true := by kernel_rfl
theorem xd_m0_2_58 (τ : Nat → Nat) : xdRun τ (.i .i64 0) (.i .i64 2) (nzV 66 67 59) (.w (atomsV 97 122 58 8 .nil)) 68 = true := by kernel_rfl
theorem xd_m2_7_58 (τ : Nat → Nat) : xdRun τ (.i .i64 2) (.i .i64 7) (nzV 66 67 59) (.w (atomsV 97 122 58 8 .nil)) 68 = true := by kernel_rfl
theorem xd_m2_4_57 (τ : Nat → Nat) : xdRun τ (.i .i64 2) (.i .i64 4) (nzV 65 66 59) (.w (atomsV 97 122 57 8 .nil)) 67 = true := by kernel_rfl
theorem xd_m2_1_56 (τ : Nat → Nat) : xdRun τ (.i .i64 2) (.i .i64 1) (nzV 64 65 59) (.w (atomsV 97 122 56 8 .nil)) 66 = true := by kernel_rfl
theorem xd_m1_6_55 (τ : Nat → Nat) : xdRun τ (.i .i64 1) (.i .i64 6) (nzV 63 64 59) (.w (atomsV 97 122 55 8 .nil)) 65 = true := by kernel_rfl
theorem xd_m1_3_54 (τ : Nat → Nat) : xdRun τ (.i .i64 1) (.i .i64 3) (nzV 62 63 59) (.w (atomsV 97 122 54 8 .nil)) 64 = true := by kernel_rfl
theorem xd_m1_0_53 (τ : Nat → Nat) : xdRun τ (.i .i64 1) (.i .i64 0) (nzV 61 62 59) (.w (atomsV 97 122 53 8 .nil)) 63 = true := by kernel_rfl
theorem xd_m0_5_52 (τ : Nat → Nat) : xdRun τ (.i .i64 0) (.i .i64 5) (nzV 60 61 59) (.w (atomsV 97 122 52 8 .nil)) 62 = true := by kernel_rfl
theorem xd_m0_2_51 (τ : Nat → Nat) : xdRun τ (.i .i64 0) (.i .i64 2) (nzV 59 60 59) (.w (atomsV 97 122 51 8 .nil)) 61 = true := by kernel_rfl
theorem xd_m2_7_51 (τ : Nat → Nat) : xdRun τ (.i .i64 2) (.i .i64 7) (nzV 59 60 59) (.w (atomsV 97 122 51 8 .nil)) 61 = true := by kernel_rfl
theorem xd_m2_4_50 (τ : Nat → Nat) : xdRun τ (.i .i64 2) (.i .i64 4) (nzV 58 59 59) (.w (atomsV 97 122 50 8 .nil)) 60 = true := by kernel_rfl
theorem xd_m2_1_49 (τ : Nat → Nat) : xdRun τ (.i .i64 2) (.i .i64 1) (nzV 57 58 59) (.w (atomsV 97 122 49 8 .nil)) 59 = true := by kernel_rfl
theorem xd_m1_6_48 (τ : Nat → Nat) : xdRun τ (.i .i64 1) (.i .i64 6) (nzV 56 57 59) (.w (atomsV 97 122 48 8 .nil)) 58 = true := by kernel_rfl
theorem xd_m1_3_47 (τ : Nat → Nat) : xdRun τ (.i .i64 1) (.i .i64 3) (nzV 55 56 59) (.w (atomsV 97 122 47 8 .nil)) 57 = true := by kernel_rfl
theorem xd_m1_0_46 (τ : Nat → Nat) : xdRun τ (.i .i64 1) (.i .i64 0) (nzV 54 55 59) (.w (atomsV 97 122 46 8 .nil)) 56 = true := by kernel_rfl
theorem xd_m0_5_45 (τ : Nat → Nat) : xdRun τ (.i .i64 0) (.i .i64 5) (nzV 53 54 59) (.w (atomsV 97 122 45 8 .nil)) 55 = true := by kernel_rfl
theorem xd_m0_2_44 (τ : Nat → Nat) : xdRun τ (.i .i64 0) (.i .i64 2) (nzV 52 53 59) (.w (atomsV 97 122 44 8 .nil)) 54 = true := by kernel_rfl
theorem xd_m2_7_44 (τ : Nat → Nat) : xdRun τ (.i .i64 2) (.i .i64 7) (nzV 52 53 59) (.w (atomsV 97 122 44 8 .nil)) 54 = true := by kernel_rfl
theorem xd_m2_4_43 (τ : Nat → Nat) : xdRun τ (.i .i64 2) (.i .i64 4) (nzV 51 52 59) (.w (atomsV 97 122 43 8 .nil)) 53 = true := by kernel_rfl
theorem xd_m2_1_42 (τ : Nat → Nat) : xdRun τ (.i .i64 2) (.i .i64 1) (nzV 50 51 59) (.w (atomsV 97 122 42 8 .nil)) 52 = true := by kernel_rfl
theorem xd_m1_6_41 (τ : Nat → Nat) : xdRun τ (.i .i64 1) (.i .i64 6) (nzV 49 50 59) (.w (atomsV 97 122 41 8 .nil)) 51 = true := by kernel_rfl
theorem xd_m1_3_40 (τ : Nat → Nat) : xdRun τ (.i .i64 1) (.i .i64 3) (nzV 48 49 59) (.w (atomsV 97 122 40 8 .nil)) 50 = true := by kernel_rfl
theorem xd_m1_0_39 (τ : Nat → Nat) : xdRun τ (.i .i64 1) (.i .i64 0) (nzV 47 48 59) (.w (atomsV 97 122 39 8 .nil)) 49 = true := by kernel_rfl
theorem xd_m0_5_38 (τ : Nat → Nat) : xdRun τ (.i .i64 0) (.i .i64 5) (nzV 46 47 59) (.w (atomsV 97 122 38 8 .nil)) 48 = true := by kernel_rfl
theorem xd_m0_2_37 (τ : Nat → Nat) : xdRun τ (.i .i64 0) (.i .i64 2) (nzV 45 46 59) (.w (atomsV 97 122 37 8 .nil)) 47 = true := by kernel_rfl
theorem xd_m2_7_37 (τ : Nat → Nat) : xdRun τ (.i .i64 2) (.i .i64 7) (nzV 45 46 59) (.w (atomsV 97 122 37 8 .nil)) 47 = true := by kernel_rfl
theorem xd_m2_4_36 (τ : Nat → Nat) : xdRun τ (.i .i64 2) (.i .i64 4) (nzV 44 45 59) (.w (atomsV 97 122 36 8 .nil)) 46 = true := by kernel_rfl
theorem xd_m2_1_35 (τ : Nat → Nat) : xdRun τ (.i .i64 2) (.i .i64 1) (nzV 43 44 59) (.w (atomsV 97 122 35 8 .nil)) 45 = true := by kernel_rfl
theorem xd_m1_6_34 (τ : Nat → Nat) : xdRun τ (.i .i64 1) (.i .i64 6) (nzV 42 43 59) (.w (atomsV 97 122 34 8 .nil)) 44 = true := by kernel_rfl
theorem xd_m1_3_33 (τ : Nat → Nat) : xdRun τ (.i .i64 1) (.i .i64 3) (nzV 41 42 59) (.w (atomsV 97 122 33 8 .nil)) 43 = true := by kernel_rfl
theorem xd_m1_0_32 (τ : Nat → Nat) : xdRun τ (.i .i64 1) (.i .i64 0) (nzV 40 41 59) (.w (atomsV 97 122 32 8 .nil)) 42 = true := by kernel_rfl
theorem xd_m0_5_31 (τ : Nat → Nat) : xdRun τ (.i .i64 0) (.i .i64 5) (nzV 39 40 59) (.w (atomsV 97 122 31 8 .nil)) 41 = true := by kernel_rfl
theorem xd_m0_2_30 (τ : Nat → Nat) : xdRun τ (.i .i64 0) (.i .i64 2) (nzV 38 39 59) (.w (atomsV 97 122 30 8 .nil)) 40 = true := by kernel_rfl
theorem xd_m2_7_30 (τ : Nat → Nat) : xdRun τ (.i .i64 2) (.i .i64 7) (nzV 38 39 59) (.w (atomsV 97 122 30 8 .nil)) 40 = true := by kernel_rfl
theorem xd_m2_4_29 (τ : Nat → Nat) : xdRun τ (.i .i64 2) (.i .i64 4) (nzV 37 38 59) (.w (atomsV 97 122 29 8 .nil)) 39 = true := by kernel_rfl
theorem xd_m2_1_28 (τ : Nat → Nat) : xdRun τ (.i .i64 2) (.i .i64 1) (nzV 36 37 59) (.w (atomsV 97 122 28 8 .nil)) 38 = true := by kernel_rfl
theorem xd_m1_6_27 (τ : Nat → Nat) : xdRun τ (.i .i64 1) (.i .i64 6) (nzV 35 36 59) (.w (atomsV 97 122 27 8 .nil)) 37 = true := by kernel_rfl
theorem xd_m1_3_26 (τ : Nat → Nat) : xdRun τ (.i .i64 1) (.i .i64 3) (nzV 34 35 59) (.w (atomsV 97 122 26 8 .nil)) 36 = true := by kernel_rfl
theorem xd_m1_0_25 (τ : Nat → Nat) : xdRun τ (.i .i64 1) (.i .i64 0) (nzV 33 34 59) (.w (atomsV 97 122 25 8 .nil)) 35 = true := by kernel_rfl
theorem xd_m0_5_24 (τ : Nat → Nat) : xdRun τ (.i .i64 0) (.i .i64 5) (nzV 32 33 59) (.w (atomsV 97 122 24 8 .nil)) 34 = true := by kernel_rfl
theorem xd_m0_2_23 (τ : Nat → Nat) : xdRun τ (.i .i64 0) (.i .i64 2) (nzV 31 32 59) (.w (atomsV 97 122 23 8 .nil)) 33 = true := by kernel_rfl
theorem xd_m2_7_23 (τ : Nat → Nat) : xdRun τ (.i .i64 2) (.i .i64 7) (nzV 31 32 59) (.w (atomsV 97 122 23 8 .nil)) 33 = true := by kernel_rfl
theorem xd_m2_4_22 (τ : Nat → Nat) : xdRun τ (.i .i64 2) (.i .i64 4) (nzV 30 31 59) (.w (atomsV 97 122 22 8 .nil)) 32 = true := by kernel_rfl
theorem xd_m2_1_21 (τ : Nat → Nat) : xdRun τ (.i .i64 2) (.i .i64 1) (nzV 29 30 59) (.w (atomsV 97 122 21 8 .nil)) 31 = true := by kernel_rfl
theorem xd_m1_6_20 (τ : Nat → Nat) : xdRun τ (.i .i64 1) (.i .i64 6) (nzV 28 29 59) (.w (atomsV 97 122 20 8 .nil)) 30 = true := by kernel_rfl
theorem xd_m1_3_19 (τ : Nat → Nat) : xdRun τ (.i .i64 1) (.i .i64 3) (nzV 27 28 59) (.w (atomsV 97 122 19 8 .nil)) 29 = true := by kernel_rfl
theorem xd_m1_0_18 (τ : Nat → Nat) : xdRun τ (.i .i64 1) (.i .i64 0) (nzV 26 27 59) (.w (atomsV 97 122 18 8 .nil)) 28 = true := by kernel_rfl
theorem xd_m0_5_17 (τ : Nat → Nat) : xdRun τ (.i .i64 0) (.i .i64 5) (nzV 25 26 59) (.w (atomsV 97 122 17 8 .nil)) 27 = true := by kernel_rfl
theorem xd_m0_2_16 (τ : Nat → Nat) : xdRun τ (.i .i64 0) (.i .i64 2) (nzV 24 25 59) (.w (atomsV 97 122 16 8 .nil)) 26 = true := by kernel_rfl
theorem xd_m2_7_16 (τ : Nat → Nat) : xdRun τ (.i .i64 2) (.i .i64 7) (nzV 24 25 59) (.w (atomsV 97 122 16 8 .nil)) 26 = true := by kernel_rfl
theorem xd_m2_4_15 (τ : Nat → Nat) : xdRun τ (.i .i64 2) (.i .i64 4) (nzV 23 24 59) (.w (atomsV 97 122 15 8 .nil)) 25 = true := by kernel_rfl
theorem xd_m2_1_14 (τ : Nat → Nat) : xdRun τ (.i .i64 2) (.i .i64 1) (nzV 22 23 59) (.w (atomsV 97 122 14 8 .nil)) 24 = true := by kernel_rfl
theorem xd_m1_6_13 (τ : Nat → Nat) : xdRun τ (.i .i64 1) (.i .i64 6) (nzV 21 22 59) (.w (atomsV 97 122 13 8 .nil)) 23 = true := by kernel_rfl
theorem xd_m1_3_12 (τ : Nat → Nat) : xdRun τ (.i .i64 1) (.i .i64 3) (nzV 20 21 59) (.w (atomsV 97 122 12 8 .nil)) 22 = true := by kernel_rfl
theorem xd_m1_0_11 (τ : Nat → Nat) : xdRun τ (.i .i64 1) (.i .i64 0) (nzV 19 20 59) (.w (atomsV 97 122 11 8 .nil)) 21 = true := by kernel_rfl
theorem xd_m0_5_10 (τ : Nat → Nat) : xdRun τ (.i .i64 0) (.i .i64 5) (nzV 18 19 59) (.w (atomsV 97 122 10 8 .nil)) 20 = true := by kernel_rfl
theorem xd_m0_2_9 (τ : Nat → Nat) : xdRun τ (.i .i64 0) (.i .i64 2) (nzV 17 18 59) (.w (atomsV 97 122 9 8 .nil)) 19 = true := by kernel_rfl
theorem xd_m2_7_9 (τ : Nat → Nat) : xdRun τ (.i .i64 2) (.i .i64 7) (nzV 17 18 59) (.w (atomsV 97 122 9 8 .nil)) 19 = true := by kernel_rfl
theorem xd_m2_4_8 (τ : Nat → Nat) : xdRun τ (.i .i64 2) (.i .i64 4) (nzV 16 17 59) (.w (atomsV 97 122 8 8 .nil)) 18 = true := by kernel_rfl
theorem xd_m2_1_7 (τ : Nat → Nat) : xdRun τ (.i .i64 2) (.i .i64 1) (nzV 15 16 59) (.w (atomsV 97 122 7 8 .nil)) 17 = true := by kernel_rfl
theorem xd_m1_6_6 (τ : Nat → Nat) : xdRun τ (.i .i64 1) (.i .i64 6) (nzV 14 15 59) (.w (atomsV 97 122 6 8 .nil)) 16 = true := by kernel_rfl
theorem xd_m1_3_5 (τ : Nat → Nat) : xdRun τ (.i .i64 1) (.i .i64 3) (nzV 13 14 59) (.w (atomsV 97 122 5 8 .nil)) 15 = true := by kernel_rfl
theorem xd_m1_0_4 (τ : Nat → Nat) : xdRun τ (.i .i64 1) (.i .i64 0) (nzV 12 13 59) (.w (atomsV 97 122 4 8 .nil)) 14 = true := by kernel_rfl
theorem xd_m0_5_3 (τ : Nat → Nat) : xdRun τ (.i .i64 0) (.i .i64 5) (nzV 11 12 59) (.w (atomsV 97 122 3 8 .nil)) 13 = true := by kernel_rfl
theorem xd_m0_2_2 (τ : Nat → Nat) : xdRun τ (.i .i64 0) (.i .i64 2) (nzV 10 11 59) (.w (atomsV 97 122 2 8 .nil)) 12 = true := by kernel_rfl
theorem xd_m2_7_2 (τ : Nat → Nat) : xdRun τ (.i .i64 2) (.i .i64 7) (nzV 10 11 59) (.w (atomsV 97 122 2 8 .nil)) 12 = true := by kernel_rfl
theorem xd_m2_4_1 (τ : Nat → Nat) : xdRun τ (.i .i64 2) (.i .i64 4) (nzV 9 10 59) (.w (atomsV 97 122 1 8 .nil)) 11 = true := by kernel_rfl
theorem xd_m2_1_0 (τ : Nat → Nat) : xdRun τ (.i .i64 2) (.i .i64 1) (nzV 8 9 59) (.w (atomsV 97 122 0 8 .nil)) 10 = true := by kernel_rfl
theorem xd_z14 (τ : Nat → Nat) : allN 61 (fun n => xdRun τ (.x (8 + (n + 2)) .i64 0 2) (.x (8 + (n + 3)) .i64 0 7) (zzV (8 + n) (8 + (n + 1)) 14 45) (.w (atomsV 97 122 n 8 .nil)) (8 + (n + 4))) = true := by kernel_rfl
theorem xd_z35 (τ : Nat → Nat) : allN 61 (fun n => xdRun τ (.x (8 + (n + 2)) .i64 0 2) (.x (8 + (n + 3)) .i64 0 7) (zzV (8 + n) (8 + (n + 1)) 35 24) (.w (atomsV 97 122 n 8 .nil)) (8 + (n + 4))) = true := by kernel_rfl
theorem xd_z56 (τ : Nat → Nat) : allN 61 (fun n => xdRun τ (.x (8 + (n + 2)) .i64 0 2) (.x (8 + (n + 3)) .i64 0 7) (zzV (8 + n) (8 + (n + 1)) 56 3) (.w (atomsV 97 122 n 8 .nil)) (8 + (n + 4))) = true := by kernel_rfl
end
end Go.Proofs.YtfmcnkepidedpaaGreatDoor
