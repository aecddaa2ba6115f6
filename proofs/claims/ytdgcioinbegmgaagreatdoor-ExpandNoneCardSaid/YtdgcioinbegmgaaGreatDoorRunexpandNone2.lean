/-
  Runs of expandNone, by the kernel (3 of 3). No condition.
-/
import Derived.Test.YtdgcioinbegmgaaGreatDoorRunexpandNone0
open Go Go.Mx
namespace Go.Proofs.YtdgcioinbegmgaaGreatDoor
set_option maxRecDepth 1000000
noncomputable section
theorem enn_w2 (m : Nat) (τ : Nat → Nat) : ennRun τ (.cons (.i .i64 (Int.negSucc m)) (.cons (.w (atomsV 1 255 2 8 .nil)) .nil)) 10 = true := by kernel_rfl
theorem enn_w5 (m : Nat) (τ : Nat → Nat) : ennRun τ (.cons (.i .i64 (Int.negSucc m)) (.cons (.w (atomsV 1 255 5 8 .nil)) .nil)) 13 = true := by kernel_rfl
theorem enn_w8 (m : Nat) (τ : Nat → Nat) : ennRun τ (.cons (.i .i64 (Int.negSucc m)) (.cons (.w (atomsV 1 255 8 8 .nil)) .nil)) 16 = true := by kernel_rfl
theorem enn_w11 (m : Nat) (τ : Nat → Nat) : ennRun τ (.cons (.i .i64 (Int.negSucc m)) (.cons (.w (atomsV 1 255 11 8 .nil)) .nil)) 19 = true := by kernel_rfl
theorem enn_w14 (m : Nat) (τ : Nat → Nat) : ennRun τ (.cons (.i .i64 (Int.negSucc m)) (.cons (.w (atomsV 1 255 14 8 .nil)) .nil)) 22 = true := by kernel_rfl
theorem enn_w17 (m : Nat) (τ : Nat → Nat) : ennRun τ (.cons (.i .i64 (Int.negSucc m)) (.cons (.w (atomsV 1 255 17 8 .nil)) .nil)) 25 = true := by kernel_rfl
theorem enn_w20 (m : Nat) (τ : Nat → Nat) : ennRun τ (.cons (.i .i64 (Int.negSucc m)) (.cons (.w (atomsV 1 255 20 8 .nil)) .nil)) 28 = true := by kernel_rfl
theorem enn_w23 (m : Nat) (τ : Nat → Nat) : ennRun τ (.cons (.i .i64 (Int.negSucc m)) (.cons (.w (atomsV 1 255 23 8 .nil)) .nil)) 31 = true := by kernel_rfl
theorem enn_w26 (m : Nat) (τ : Nat → Nat) : ennRun τ (.cons (.i .i64 (Int.negSucc m)) (.cons (.w (atomsV 1 255 26 8 .nil)) .nil)) 34 = true := by kernel_rfl
theorem enn_w29 (m : Nat) (τ : Nat → Nat) : ennRun τ (.cons (.i .i64 (Int.negSucc m)) (.cons (.w (atomsV 1 255 29 8 .nil)) .nil)) 37 = true := by kernel_rfl
theorem enn_w32 (m : Nat) (τ : Nat → Nat) : ennRun τ (.cons (.i .i64 (Int.negSucc m)) (.cons (.w (atomsV 1 255 32 8 .nil)) .nil)) 40 = true := by kernel_rfl
theorem enn_w35 (m : Nat) (τ : Nat → Nat) : ennRun τ (.cons (.i .i64 (Int.negSucc m)) (.cons (.w (atomsV 1 255 35 8 .nil)) .nil)) 43 = true := by kernel_rfl
theorem enn_w38 (m : Nat) (τ : Nat → Nat) : ennRun τ (.cons (.i .i64 (Int.negSucc m)) (.cons (.w (atomsV 1 255 38 8 .nil)) .nil)) 46 = true := by kernel_rfl
theorem enn_w41 (m : Nat) (τ : Nat → Nat) : ennRun τ (.cons (.i .i64 (Int.negSucc m)) (.cons (.w (atomsV 1 255 41 8 .nil)) .nil)) 49 = true := by kernel_rfl
theorem enn_w44 (m : Nat) (τ : Nat → Nat) : ennRun τ (.cons (.i .i64 (Int.negSucc m)) (.cons (.w (atomsV 1 255 44 8 .nil)) .nil)) 52 = true := by kernel_rfl
theorem enn_w47 (m : Nat) (τ : Nat → Nat) : ennRun τ (.cons (.i .i64 (Int.negSucc m)) (.cons (.w (atomsV 1 255 47 8 .nil)) .nil)) 55 = true := by kernel_rfl
theorem enn_w50 (m : Nat) (τ : Nat → Nat) : ennRun τ (.cons (.i .i64 (Int.negSucc m)) (.cons (.w (atomsV 1 255 50 8 .nil)) .nil)) 58 = true := by kernel_rfl
theorem enn_w53 (m : Nat) (τ : Nat → Nat) : ennRun τ (.cons (.i .i64 (Int.negSucc m)) (.cons (.w (atomsV 1 255 53 8 .nil)) .nil)) 61 = true := by kernel_rfl
theorem enn_w56 (m : Nat) (τ : Nat → Nat) : ennRun τ (.cons (.i .i64 (Int.negSucc m)) (.cons (.w (atomsV 1 255 56 8 .nil)) .nil)) 64 = true := by kernel_rfl
theorem enn_w59 (m : Nat) (τ : Nat → Nat) : ennRun τ (.cons (.i .i64 (Int.negSucc m)) (.cons (.w (atomsV 1 255 59 8 .nil)) .nil)) 67 = true := by kernel_rfl
theorem enz_w2 (τ : Nat → Nat) : enzRun τ (.cons (.i .i64 (Int.ofNat 0)) (.cons (.w (atomsV 1 255 2 8 .nil)) .nil)) 10 = true := by kernel_rfl
theorem enz_w5 (τ : Nat → Nat) : enzRun τ (.cons (.i .i64 (Int.ofNat 0)) (.cons (.w (atomsV 1 255 5 8 .nil)) .nil)) 13 = true := by kernel_rfl
theorem enz_w8 (τ : Nat → Nat) : enzRun τ (.cons (.i .i64 (Int.ofNat 0)) (.cons (.w (atomsV 1 255 8 8 .nil)) .nil)) 16 = true := by kernel_rfl
theorem enz_w11 (τ : Nat → Nat) : enzRun τ (.cons (.i .i64 (Int.ofNat 0)) (.cons (.w (atomsV 1 255 11 8 .nil)) .nil)) 19 = true := by kernel_rfl
theorem enz_w14 (τ : Nat → Nat) : enzRun τ (.cons (.i .i64 (Int.ofNat 0)) (.cons (.w (atomsV 1 255 14 8 .nil)) .nil)) 22 = true := by kernel_rfl
theorem enz_w17 (τ : Nat → Nat) : enzRun τ (.cons (.i .i64 (Int.ofNat 0)) (.cons (.w (atomsV 1 255 17 8 .nil)) .nil)) 25 = true := by kernel_rfl
theorem enz_w20 (τ : Nat → Nat) : enzRun τ (.cons (.i .i64 (Int.ofNat 0)) (.cons (.w (atomsV 1 255 20 8 .nil)) .nil)) 28 = true := by kernel_rfl
theorem enz_w23 (τ : Nat → Nat) : enzRun τ (.cons (.i .i64 (Int.ofNat 0)) (.cons (.w (atomsV 1 255 23 8 .nil)) .nil)) 31 = true := by kernel_rfl
theorem enz_w26 (τ : Nat → Nat) : enzRun τ (.cons (.i .i64 (Int.ofNat 0)) (.cons (.w (atomsV 1 255 26 8 .nil)) .nil)) 34 = true := by kernel_rfl
theorem enz_w29 (τ : Nat → Nat) : enzRun τ (.cons (.i .i64 (Int.ofNat 0)) (.cons (.w (atomsV 1 255 29 8 .nil)) .nil)) 37 = true := by kernel_rfl
theorem enz_w32 (τ : Nat → Nat) : enzRun τ (.cons (.i .i64 (Int.ofNat 0)) (.cons (.w (atomsV 1 255 32 8 .nil)) .nil)) 40 = true := by kernel_rfl
theorem enz_w35 (τ : Nat → Nat) : enzRun τ (.cons (.i .i64 (Int.ofNat 0)) (.cons (.w (atomsV 1 255 35 8 .nil)) .nil)) 43 = true := by kernel_rfl
theorem enz_w38 (τ : Nat → Nat) : enzRun τ (.cons (.i .i64 (Int.ofNat 0)) (.cons (.w (atomsV 1 255 38 8 .nil)) .nil)) 46 = true := by kernel_rfl
theorem enz_w41 (τ : Nat → Nat) : enzRun τ (.cons (.i .i64 (Int.ofNat 0)) (.cons (.w (atomsV 1 255 41 8 .nil)) .nil)) 49 = true := by kernel_rfl
theorem enz_w44 (τ : Nat → Nat) : enzRun τ (.cons (.i .i64 (Int.ofNat 0)) (.cons (.w (atomsV 1 255 44 8 .nil)) .nil)) 52 = true := by kernel_rfl
theorem enz_w47 (τ : Nat → Nat) : enzRun τ (.cons (.i .i64 (Int.ofNat 0)) (.cons (.w (atomsV 1 255 47 8 .nil)) .nil)) 55 = true := by kernel_rfl
theorem enz_w50 (τ : Nat → Nat) : enzRun τ (.cons (.i .i64 (Int.ofNat 0)) (.cons (.w (atomsV 1 255 50 8 .nil)) .nil)) 58 = true := by kernel_rfl
theorem enz_w53 (τ : Nat → Nat) : enzRun τ (.cons (.i .i64 (Int.ofNat 0)) (.cons (.w (atomsV 1 255 53 8 .nil)) .nil)) 61 = true := by kernel_rfl
theorem enz_w56 (τ : Nat → Nat) : enzRun τ (.cons (.i .i64 (Int.ofNat 0)) (.cons (.w (atomsV 1 255 56 8 .nil)) .nil)) 64 = true := by kernel_rfl
theorem enz_w59 (τ : Nat → Nat) : enzRun τ (.cons (.i .i64 (Int.ofNat 0)) (.cons (.w (atomsV 1 255 59 8 .nil)) .nil)) 67 = true := by kernel_rfl
theorem enp_w2 (m : Nat) (τ : Nat → Nat) : enpRun τ (.cons (.i .i64 (Int.ofNat (m + 5))) (.cons (.w (atomsV 1 255 2 8 .nil)) .nil)) 10 = true := by kernel_rfl
theorem enp_w5 (m : Nat) (τ : Nat → Nat) : enpRun τ (.cons (.i .i64 (Int.ofNat (m + 5))) (.cons (.w (atomsV 1 255 5 8 .nil)) .nil)) 13 = true := by kernel_rfl
theorem enp_w8 (m : Nat) (τ : Nat → Nat) : enpRun τ (.cons (.i .i64 (Int.ofNat (m + 5))) (.cons (.w (atomsV 1 255 8 8 .nil)) .nil)) 16 = true := by kernel_rfl
theorem enp_w11 (m : Nat) (τ : Nat → Nat) : enpRun τ (.cons (.i .i64 (Int.ofNat (m + 5))) (.cons (.w (atomsV 1 255 11 8 .nil)) .nil)) 19 = true := by kernel_rfl
theorem enp_w14 (m : Nat) (τ : Nat → Nat) : enpRun τ (.cons (.i .i64 (Int.ofNat (m + 5))) (.cons (.w (atomsV 1 255 14 8 .nil)) .nil)) 22 = true := by kernel_rfl
theorem enp_w17 (m : Nat) (τ : Nat → Nat) : enpRun τ (.cons (.i .i64 (Int.ofNat (m + 5))) (.cons (.w (atomsV 1 255 17 8 .nil)) .nil)) 25 = true := by kernel_rfl
theorem enp_w20 (m : Nat) (τ : Nat → Nat) : enpRun τ (.cons (.i .i64 (Int.ofNat (m + 5))) (.cons (.w (atomsV 1 255 20 8 .nil)) .nil)) 28 = true := by kernel_rfl
theorem enp_w23 (m : Nat) (τ : Nat → Nat) : enpRun τ (.cons (.i .i64 (Int.ofNat (m + 5))) (.cons (.w (atomsV 1 255 23 8 .nil)) .nil)) 31 = true := by kernel_rfl
theorem enp_w26 (m : Nat) (τ : Nat → Nat) : enpRun τ (.cons (.i .i64 (Int.ofNat (m + 5))) (.cons (.w (atomsV 1 255 26 8 .nil)) .nil)) 34 = true := by kernel_rfl
theorem enp_w29 (m : Nat) (τ : Nat → Nat) : enpRun τ (.cons (.i .i64 (Int.ofNat (m + 5))) (.cons (.w (atomsV 1 255 29 8 .nil)) .nil)) 37 = true := by kernel_rfl
theorem enp_w32 (m : Nat) (τ : Nat → Nat) : enpRun τ (.cons (.i .i64 (Int.ofNat (m + 5))) (.cons (.w (atomsV 1 255 32 8 .nil)) .nil)) 40 = true := by kernel_rfl
theorem enp_w35 (m : Nat) (τ : Nat → Nat) : enpRun τ (.cons (.i .i64 (Int.ofNat (m + 5))) (.cons (.w (atomsV 1 255 35 8 .nil)) .nil)) 43 = true := by kernel_rfl
theorem enp_w38 (m : Nat) (τ : Nat → Nat) : enpRun τ (.cons (.i .i64 (Int.ofNat (m + 5))) (.cons (.w (atomsV 1 255 38 8 .nil)) .nil)) 46 = true := by kernel_rfl
theorem enp_w41 (m : Nat) (τ : Nat → Nat) : enpRun τ (.cons (.i .i64 (Int.ofNat (m + 5))) (.cons (.w (atomsV 1 255 41 8 .nil)) .nil)) 49 = true := by kernel_rfl
theorem enp_w44 (m : Nat) (τ : Nat → Nat) : enpRun τ (.cons (.i .i64 (Int.ofNat (m + 5))) (.cons (.w (atomsV 1 255 44 8 .nil)) .nil)) 52 = true := by kernel_rfl
theorem enp_w47 (m : Nat) (τ : Nat → Nat) : enpRun τ (.cons (.i .i64 (Int.ofNat (m + 5))) (.cons (.w (atomsV 1 255 47 8 .nil)) .nil)) 55 = true := by kernel_rfl
theorem enp_w50 (m : Nat) (τ : Nat → Nat) : enpRun τ (.cons (.i .i64 (Int.ofNat (m + 5))) (.cons (.w (atomsV 1 255 50 8 .nil)) .nil)) 58 = true := by kernel_rfl
theorem enp_w53 (m : Nat) (τ : Nat → Nat) : enpRun τ (.cons (.i .i64 (Int.ofNat (m + 5))) (.cons (.w (atomsV 1 255 53 8 .nil)) .nil)) 61 = true := by kernel_rfl
theorem enp_w56 (m : Nat) (τ : Nat → Nat) : enpRun τ (.cons (.i .i64 (Int.ofNat (m + 5))) (.cons (.w (atomsV 1 255 56 8 .nil)) .nil)) 64 = true := by kernel_rfl
theorem enp_w59 (m : Nat) (τ : Nat → Nat) : enpRun τ (.cons (.i .i64 (Int.ofNat (m + 5))) (.cons (.w (atomsV 1 255 59 8 .nil)) .nil)) 67 = true := by kernel_rfl
end
end Go.Proofs.YtdgcioinbegmgaaGreatDoor
