/-
  Runs of expandNone, by the kernel (2 of 3). No condition.
-/
import Derived.Test.YtdgcioinbegmgaaGreatDoorRunexpandNone0
open Go Go.Mx
namespace Go.Proofs.YtdgcioinbegmgaaGreatDoor
set_option maxRecDepth 1000000
noncomputable section
theorem enn_w1 (m : Nat) (τ : Nat → Nat) : ennRun τ (.cons (.i .i64 (Int.negSucc m)) (.cons (.w (atomsV 1 255 1 8 .nil)) .nil)) 9 = true := by kernel_rfl
theorem enn_w4 (m : Nat) (τ : Nat → Nat) : ennRun τ (.cons (.i .i64 (Int.negSucc m)) (.cons (.w (atomsV 1 255 4 8 .nil)) .nil)) 12 = true := by kernel_rfl
theorem enn_w7 (m : Nat) (τ : Nat → Nat) : ennRun τ (.cons (.i .i64 (Int.negSucc m)) (.cons (.w (atomsV 1 255 7 8 .nil)) .nil)) 15 = true := by kernel_rfl
theorem enn_w10 (m : Nat) (τ : Nat → Nat) : ennRun τ (.cons (.i .i64 (Int.negSucc m)) (.cons (.w (atomsV 1 255 10 8 .nil)) .nil)) 18 = true := by kernel_rfl
theorem enn_w13 (m : Nat) (τ : Nat → Nat) : ennRun τ (.cons (.i .i64 (Int.negSucc m)) (.cons (.w (atomsV 1 255 13 8 .nil)) .nil)) 21 = true := by kernel_rfl
theorem enn_w16 (m : Nat) (τ : Nat → Nat) : ennRun τ (.cons (.i .i64 (Int.negSucc m)) (.cons (.w (atomsV 1 255 16 8 .nil)) .nil)) 24 = true := by kernel_rfl
theorem enn_w19 (m : Nat) (τ : Nat → Nat) : ennRun τ (.cons (.i .i64 (Int.negSucc m)) (.cons (.w (atomsV 1 255 19 8 .nil)) .nil)) 27 = true := by kernel_rfl
theorem enn_w22 (m : Nat) (τ : Nat → Nat) : ennRun τ (.cons (.i .i64 (Int.negSucc m)) (.cons (.w (atomsV 1 255 22 8 .nil)) .nil)) 30 = true := by kernel_rfl
theorem enn_w25 (m : Nat) (τ : Nat → Nat) : ennRun τ (.cons (.i .i64 (Int.negSucc m)) (.cons (.w (atomsV 1 255 25 8 .nil)) .nil)) 33 = true := by kernel_rfl
theorem enn_w28 (m : Nat) (τ : Nat → Nat) : ennRun τ (.cons (.i .i64 (Int.negSucc m)) (.cons (.w (atomsV 1 255 28 8 .nil)) .nil)) 36 = true := by kernel_rfl
theorem enn_w31 (m : Nat) (τ : Nat → Nat) : ennRun τ (.cons (.i .i64 (Int.negSucc m)) (.cons (.w (atomsV 1 255 31 8 .nil)) .nil)) 39 = true := by kernel_rfl
theorem enn_w34 (m : Nat) (τ : Nat → Nat) : ennRun τ (.cons (.i .i64 (Int.negSucc m)) (.cons (.w (atomsV 1 255 34 8 .nil)) .nil)) 42 = true := by kernel_rfl
theorem enn_w37 (m : Nat) (τ : Nat → Nat) : ennRun τ (.cons (.i .i64 (Int.negSucc m)) (.cons (.w (atomsV 1 255 37 8 .nil)) .nil)) 45 = true := by kernel_rfl
theorem enn_w40 (m : Nat) (τ : Nat → Nat) : ennRun τ (.cons (.i .i64 (Int.negSucc m)) (.cons (.w (atomsV 1 255 40 8 .nil)) .nil)) 48 = true := by kernel_rfl
theorem enn_w43 (m : Nat) (τ : Nat → Nat) : ennRun τ (.cons (.i .i64 (Int.negSucc m)) (.cons (.w (atomsV 1 255 43 8 .nil)) .nil)) 51 = true := by kernel_rfl
theorem enn_w46 (m : Nat) (τ : Nat → Nat) : ennRun τ (.cons (.i .i64 (Int.negSucc m)) (.cons (.w (atomsV 1 255 46 8 .nil)) .nil)) 54 = true := by kernel_rfl
theorem enn_w49 (m : Nat) (τ : Nat → Nat) : ennRun τ (.cons (.i .i64 (Int.negSucc m)) (.cons (.w (atomsV 1 255 49 8 .nil)) .nil)) 57 = true := by kernel_rfl
theorem enn_w52 (m : Nat) (τ : Nat → Nat) : ennRun τ (.cons (.i .i64 (Int.negSucc m)) (.cons (.w (atomsV 1 255 52 8 .nil)) .nil)) 60 = true := by kernel_rfl
theorem enn_w55 (m : Nat) (τ : Nat → Nat) : ennRun τ (.cons (.i .i64 (Int.negSucc m)) (.cons (.w (atomsV 1 255 55 8 .nil)) .nil)) 63 = true := by kernel_rfl
theorem enn_w58 (m : Nat) (τ : Nat → Nat) : ennRun τ (.cons (.i .i64 (Int.negSucc m)) (.cons (.w (atomsV 1 255 58 8 .nil)) .nil)) 66 = true := by kernel_rfl
theorem enz_w1 (τ : Nat → Nat) : enzRun τ (.cons (.i .i64 (Int.ofNat 0)) (.cons (.w (atomsV 1 255 1 8 .nil)) .nil)) 9 = true := by kernel_rfl
theorem enz_w4 (τ : Nat → Nat) : enzRun τ (.cons (.i .i64 (Int.ofNat 0)) (.cons (.w (atomsV 1 255 4 8 .nil)) .nil)) 12 = true := by kernel_rfl
theorem enz_w7 (τ : Nat → Nat) : enzRun τ (.cons (.i .i64 (Int.ofNat 0)) (.cons (.w (atomsV 1 255 7 8 .nil)) .nil)) 15 = true := by kernel_rfl
theorem enz_w10 (τ : Nat → Nat) : enzRun τ (.cons (.i .i64 (Int.ofNat 0)) (.cons (.w (atomsV 1 255 10 8 .nil)) .nil)) 18 = true := by kernel_rfl
theorem enz_w13 (τ : Nat → Nat) : enzRun τ (.cons (.i .i64 (Int.ofNat 0)) (.cons (.w (atomsV 1 255 13 8 .nil)) .nil)) 21 = true := by kernel_rfl
theorem enz_w16 (τ : Nat → Nat) : enzRun τ (.cons (.i .i64 (Int.ofNat 0)) (.cons (.w (atomsV 1 255 16 8 .nil)) .nil)) 24 = true := by kernel_rfl
theorem enz_w19 (τ : Nat → Nat) : enzRun τ (.cons (.i .i64 (Int.ofNat 0)) (.cons (.w (atomsV 1 255 19 8 .nil)) .nil)) 27 = true := by kernel_rfl
theorem enz_w22 (τ : Nat → Nat) : enzRun τ (.cons (.i .i64 (Int.ofNat 0)) (.cons (.w (atomsV 1 255 22 8 .nil)) .nil)) 30 = true := by kernel_rfl
theorem enz_w25 (τ : Nat → Nat) : enzRun τ (.cons (.i .i64 (Int.ofNat 0)) (.cons (.w (atomsV 1 255 25 8 .nil)) .nil)) 33 = true := by kernel_rfl
theorem enz_w28 (τ : Nat → Nat) : enzRun τ (.cons (.i .i64 (Int.ofNat 0)) (.cons (.w (atomsV 1 255 28 8 .nil)) .nil)) 36 = true := by kernel_rfl
theorem enz_w31 (τ : Nat → Nat) : enzRun τ (.cons (.i .i64 (Int.ofNat 0)) (.cons (.w (atomsV 1 255 31 8 .nil)) .nil)) 39 = true := by kernel_rfl
theorem enz_w34 (τ : Nat → Nat) : enzRun τ (.cons (.i .i64 (Int.ofNat 0)) (.cons (.w (atomsV 1 255 34 8 .nil)) .nil)) 42 = true := by kernel_rfl
theorem enz_w37 (τ : Nat → Nat) : enzRun τ (.cons (.i .i64 (Int.ofNat 0)) (.cons (.w (atomsV 1 255 37 8 .nil)) .nil)) 45 = true := by kernel_rfl
theorem enz_w40 (τ : Nat → Nat) : enzRun τ (.cons (.i .i64 (Int.ofNat 0)) (.cons (.w (atomsV 1 255 40 8 .nil)) .nil)) 48 = true := by kernel_rfl
theorem enz_w43 (τ : Nat → Nat) : enzRun τ (.cons (.i .i64 (Int.ofNat 0)) (.cons (.w (atomsV 1 255 43 8 .nil)) .nil)) 51 = true := by kernel_rfl
theorem enz_w46 (τ : Nat → Nat) : enzRun τ (.cons (.i .i64 (Int.ofNat 0)) (.cons (.w (atomsV 1 255 46 8 .nil)) .nil)) 54 = true := by kernel_rfl
theorem enz_w49 (τ : Nat → Nat) : enzRun τ (.cons (.i .i64 (Int.ofNat 0)) (.cons (.w (atomsV 1 255 49 8 .nil)) .nil)) 57 = true := by kernel_rfl
theorem enz_w52 (τ : Nat → Nat) : enzRun τ (.cons (.i .i64 (Int.ofNat 0)) (.cons (.w (atomsV 1 255 52 8 .nil)) .nil)) 60 = true := by kernel_rfl
theorem enz_w55 (τ : Nat → Nat) : enzRun τ (.cons (.i .i64 (Int.ofNat 0)) (.cons (.w (atomsV 1 255 55 8 .nil)) .nil)) 63 = true := by kernel_rfl
theorem enz_w58 (τ : Nat → Nat) : enzRun τ (.cons (.i .i64 (Int.ofNat 0)) (.cons (.w (atomsV 1 255 58 8 .nil)) .nil)) 66 = true := by kernel_rfl
theorem enp_w1 (m : Nat) (τ : Nat → Nat) : enpRun τ (.cons (.i .i64 (Int.ofNat (m + 5))) (.cons (.w (atomsV 1 255 1 8 .nil)) .nil)) 9 = true := by kernel_rfl
theorem enp_w4 (m : Nat) (τ : Nat → Nat) : enpRun τ (.cons (.i .i64 (Int.ofNat (m + 5))) (.cons (.w (atomsV 1 255 4 8 .nil)) .nil)) 12 = true := by kernel_rfl
theorem enp_w7 (m : Nat) (τ : Nat → Nat) : enpRun τ (.cons (.i .i64 (Int.ofNat (m + 5))) (.cons (.w (atomsV 1 255 7 8 .nil)) .nil)) 15 = true := by kernel_rfl
theorem enp_w10 (m : Nat) (τ : Nat → Nat) : enpRun τ (.cons (.i .i64 (Int.ofNat (m + 5))) (.cons (.w (atomsV 1 255 10 8 .nil)) .nil)) 18 = true := by kernel_rfl
theorem enp_w13 (m : Nat) (τ : Nat → Nat) : enpRun τ (.cons (.i .i64 (Int.ofNat (m + 5))) (.cons (.w (atomsV 1 255 13 8 .nil)) .nil)) 21 = true := by kernel_rfl
theorem enp_w16 (m : Nat) (τ : Nat → Nat) : enpRun τ (.cons (.i .i64 (Int.ofNat (m + 5))) (.cons (.w (atomsV 1 255 16 8 .nil)) .nil)) 24 = true := by kernel_rfl
theorem enp_w19 (m : Nat) (τ : Nat → Nat) : enpRun τ (.cons (.i .i64 (Int.ofNat (m + 5))) (.cons (.w (atomsV 1 255 19 8 .nil)) .nil)) 27 = true := by kernel_rfl
theorem enp_w22 (m : Nat) (τ : Nat → Nat) : enpRun τ (.cons (.i .i64 (Int.ofNat (m + 5))) (.cons (.w (atomsV 1 255 22 8 .nil)) .nil)) 30 = true := by kernel_rfl
theorem enp_w25 (m : Nat) (τ : Nat → Nat) : enpRun τ (.cons (.i .i64 (Int.ofNat (m + 5))) (.cons (.w (atomsV 1 255 25 8 .nil)) .nil)) 33 = true := by kernel_rfl
theorem enp_w28 (m : Nat) (τ : Nat → Nat) : enpRun τ (.cons (.i .i64 (Int.ofNat (m + 5))) (.cons (.w (atomsV 1 255 28 8 .nil)) .nil)) 36 = true := by kernel_rfl
theorem enp_w31 (m : Nat) (τ : Nat → Nat) : enpRun τ (.cons (.i .i64 (Int.ofNat (m + 5))) (.cons (.w (atomsV 1 255 31 8 .nil)) .nil)) 39 = true := by kernel_rfl
theorem enp_w34 (m : Nat) (τ : Nat → Nat) : enpRun τ (.cons (.i .i64 (Int.ofNat (m + 5))) (.cons (.w (atomsV 1 255 34 8 .nil)) .nil)) 42 = true := by kernel_rfl
theorem enp_w37 (m : Nat) (τ : Nat → Nat) : enpRun τ (.cons (.i .i64 (Int.ofNat (m + 5))) (.cons (.w (atomsV 1 255 37 8 .nil)) .nil)) 45 = true := by kernel_rfl
theorem enp_w40 (m : Nat) (τ : Nat → Nat) : enpRun τ (.cons (.i .i64 (Int.ofNat (m + 5))) (.cons (.w (atomsV 1 255 40 8 .nil)) .nil)) 48 = true := by kernel_rfl
theorem enp_w43 (m : Nat) (τ : Nat → Nat) : enpRun τ (.cons (.i .i64 (Int.ofNat (m + 5))) (.cons (.w (atomsV 1 255 43 8 .nil)) .nil)) 51 = true := by kernel_rfl
theorem enp_w46 (m : Nat) (τ : Nat → Nat) : enpRun τ (.cons (.i .i64 (Int.ofNat (m + 5))) (.cons (.w (atomsV 1 255 46 8 .nil)) .nil)) 54 = true := by kernel_rfl
theorem enp_w49 (m : Nat) (τ : Nat → Nat) : enpRun τ (.cons (.i .i64 (Int.ofNat (m + 5))) (.cons (.w (atomsV 1 255 49 8 .nil)) .nil)) 57 = true := by kernel_rfl
theorem enp_w52 (m : Nat) (τ : Nat → Nat) : enpRun τ (.cons (.i .i64 (Int.ofNat (m + 5))) (.cons (.w (atomsV 1 255 52 8 .nil)) .nil)) 60 = true := by kernel_rfl
theorem enp_w55 (m : Nat) (τ : Nat → Nat) : enpRun τ (.cons (.i .i64 (Int.ofNat (m + 5))) (.cons (.w (atomsV 1 255 55 8 .nil)) .nil)) 63 = true := by kernel_rfl
theorem enp_w58 (m : Nat) (τ : Nat → Nat) : enpRun τ (.cons (.i .i64 (Int.ofNat (m + 5))) (.cons (.w (atomsV 1 255 58 8 .nil)) .nil)) 66 = true := by kernel_rfl
end
end Go.Proofs.YtdgcioinbegmgaaGreatDoor
