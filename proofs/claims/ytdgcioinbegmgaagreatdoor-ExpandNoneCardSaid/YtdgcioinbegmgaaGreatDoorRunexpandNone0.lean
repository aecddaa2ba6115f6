/-
  Runs of expandNone, by the kernel (1 of 3). No condition.
-/
import Derived.Test.YtdgcioinbegmgaaGreatDoorHk
open Go Go.Mx
namespace Go.Proofs.YtdgcioinbegmgaaGreatDoor
set_option maxRecDepth 1000000
noncomputable section
def ennRun (τ : Nat → Nat) (args : V) (nx : Nat) : Bool := mkTK τ tbl .leaf (fun h0 => run Tryz.prog 8 (hkL hkB) 100000 4 args h0 nx (fun v _ _ => isB true v) (fun _ _ _ => false))
theorem enn_flo (m : Nat) (τ : Nat → Nat) : allN 60 (fun k => ennRun τ (.cons (.i .i64 (Int.negSucc m)) (.cons (.y (atomsV 1 255 k 8 (.cons (.x (8 + k) .u8 0 0) .nil)) (8 + k + 1) (k + 1) 60) .nil)) (8 + k + 2)) = true := by kernel_rfl
theorem enn_l (m : Nat) (τ : Nat → Nat) : ennRun τ (.cons (.i .i64 (Int.negSucc m)) (.cons (.y .nil 8 61 9223372036854775807) .nil)) 9 = true := by kernel_rfl
theorem enn_w0 (m : Nat) (τ : Nat → Nat) : ennRun τ (.cons (.i .i64 (Int.negSucc m)) (.cons (.w (atomsV 1 255 0 8 .nil)) .nil)) 8 = true := by kernel_rfl
theorem enn_w3 (m : Nat) (τ : Nat → Nat) : ennRun τ (.cons (.i .i64 (Int.negSucc m)) (.cons (.w (atomsV 1 255 3 8 .nil)) .nil)) 11 = true := by kernel_rfl
theorem enn_w6 (m : Nat) (τ : Nat → Nat) : ennRun τ (.cons (.i .i64 (Int.negSucc m)) (.cons (.w (atomsV 1 255 6 8 .nil)) .nil)) 14 = true := by kernel_rfl
theorem enn_w9 (m : Nat) (τ : Nat → Nat) : ennRun τ (.cons (.i .i64 (Int.negSucc m)) (.cons (.w (atomsV 1 255 9 8 .nil)) .nil)) 17 = true := by kernel_rfl
theorem enn_w12 (m : Nat) (τ : Nat → Nat) : ennRun τ (.cons (.i .i64 (Int.negSucc m)) (.cons (.w (atomsV 1 255 12 8 .nil)) .nil)) 20 = true := by kernel_rfl
theorem enn_w15 (m : Nat) (τ : Nat → Nat) : ennRun τ (.cons (.i .i64 (Int.negSucc m)) (.cons (.w (atomsV 1 255 15 8 .nil)) .nil)) 23 = true := by kernel_rfl
theorem enn_w18 (m : Nat) (τ : Nat → Nat) : ennRun τ (.cons (.i .i64 (Int.negSucc m)) (.cons (.w (atomsV 1 255 18 8 .nil)) .nil)) 26 = true := by kernel_rfl
theorem enn_w21 (m : Nat) (τ : Nat → Nat) : ennRun τ (.cons (.i .i64 (Int.negSucc m)) (.cons (.w (atomsV 1 255 21 8 .nil)) .nil)) 29 = true := by kernel_rfl
theorem enn_w24 (m : Nat) (τ : Nat → Nat) : ennRun τ (.cons (.i .i64 (Int.negSucc m)) (.cons (.w (atomsV 1 255 24 8 .nil)) .nil)) 32 = true := by kernel_rfl
theorem enn_w27 (m : Nat) (τ : Nat → Nat) : ennRun τ (.cons (.i .i64 (Int.negSucc m)) (.cons (.w (atomsV 1 255 27 8 .nil)) .nil)) 35 = true := by kernel_rfl
theorem enn_w30 (m : Nat) (τ : Nat → Nat) : ennRun τ (.cons (.i .i64 (Int.negSucc m)) (.cons (.w (atomsV 1 255 30 8 .nil)) .nil)) 38 = true := by kernel_rfl
theorem enn_w33 (m : Nat) (τ : Nat → Nat) : ennRun τ (.cons (.i .i64 (Int.negSucc m)) (.cons (.w (atomsV 1 255 33 8 .nil)) .nil)) 41 = true := by kernel_rfl
theorem enn_w36 (m : Nat) (τ : Nat → Nat) : ennRun τ (.cons (.i .i64 (Int.negSucc m)) (.cons (.w (atomsV 1 255 36 8 .nil)) .nil)) 44 = true := by kernel_rfl
theorem enn_w39 (m : Nat) (τ : Nat → Nat) : ennRun τ (.cons (.i .i64 (Int.negSucc m)) (.cons (.w (atomsV 1 255 39 8 .nil)) .nil)) 47 = true := by kernel_rfl
theorem enn_w42 (m : Nat) (τ : Nat → Nat) : ennRun τ (.cons (.i .i64 (Int.negSucc m)) (.cons (.w (atomsV 1 255 42 8 .nil)) .nil)) 50 = true := by kernel_rfl
theorem enn_w45 (m : Nat) (τ : Nat → Nat) : ennRun τ (.cons (.i .i64 (Int.negSucc m)) (.cons (.w (atomsV 1 255 45 8 .nil)) .nil)) 53 = true := by kernel_rfl
theorem enn_w48 (m : Nat) (τ : Nat → Nat) : ennRun τ (.cons (.i .i64 (Int.negSucc m)) (.cons (.w (atomsV 1 255 48 8 .nil)) .nil)) 56 = true := by kernel_rfl
theorem enn_w51 (m : Nat) (τ : Nat → Nat) : ennRun τ (.cons (.i .i64 (Int.negSucc m)) (.cons (.w (atomsV 1 255 51 8 .nil)) .nil)) 59 = true := by kernel_rfl
theorem enn_w54 (m : Nat) (τ : Nat → Nat) : ennRun τ (.cons (.i .i64 (Int.negSucc m)) (.cons (.w (atomsV 1 255 54 8 .nil)) .nil)) 62 = true := by kernel_rfl
theorem enn_w57 (m : Nat) (τ : Nat → Nat) : ennRun τ (.cons (.i .i64 (Int.negSucc m)) (.cons (.w (atomsV 1 255 57 8 .nil)) .nil)) 65 = true := by kernel_rfl
theorem enn_w60 (m : Nat) (τ : Nat → Nat) : ennRun τ (.cons (.i .i64 (Int.negSucc m)) (.cons (.w (atomsV 1 255 60 8 .nil)) .nil)) 68 = true := by kernel_rfl
def enzRun (τ : Nat → Nat) (args : V) (nx : Nat) : Bool := mkTK τ tbl .leaf (fun h0 => run Tryz.prog 8 (hkL hkB) 100000 4 args h0 nx (fun v _ _ => isB true v) (fun _ _ _ => false))
theorem enz_flo (τ : Nat → Nat) : allN 60 (fun k => enzRun τ (.cons (.i .i64 (Int.ofNat 0)) (.cons (.y (atomsV 1 255 k 8 (.cons (.x (8 + k) .u8 0 0) .nil)) (8 + k + 1) (k + 1) 60) .nil)) (8 + k + 2)) = true := by kernel_rfl
theorem enz_l (τ : Nat → Nat) : enzRun τ (.cons (.i .i64 (Int.ofNat 0)) (.cons (.y .nil 8 61 9223372036854775807) .nil)) 9 = true := by kernel_rfl
theorem enz_w0 (τ : Nat → Nat) : enzRun τ (.cons (.i .i64 (Int.ofNat 0)) (.cons (.w (atomsV 1 255 0 8 .nil)) .nil)) 8 = true := by kernel_rfl
theorem enz_w3 (τ : Nat → Nat) : enzRun τ (.cons (.i .i64 (Int.ofNat 0)) (.cons (.w (atomsV 1 255 3 8 .nil)) .nil)) 11 = true := by kernel_rfl
theorem enz_w6 (τ : Nat → Nat) : enzRun τ (.cons (.i .i64 (Int.ofNat 0)) (.cons (.w (atomsV 1 255 6 8 .nil)) .nil)) 14 = true := by kernel_rfl
theorem enz_w9 (τ : Nat → Nat) : enzRun τ (.cons (.i .i64 (Int.ofNat 0)) (.cons (.w (atomsV 1 255 9 8 .nil)) .nil)) 17 = true := by kernel_rfl
theorem enz_w12 (τ : Nat → Nat) : enzRun τ (.cons (.i .i64 (Int.ofNat 0)) (.cons (.w (atomsV 1 255 12 8 .nil)) .nil)) 20 = true := by kernel_rfl
theorem enz_w15 (τ : Nat → Nat) : enzRun τ (.cons (.i .i64 (Int.ofNat 0)) (.cons (.w (atomsV 1 255 15 8 .nil)) .nil)) 23 = true := by kernel_rfl
theorem enz_w18 (τ : Nat → Nat) : enzRun τ (.cons (.i .i64 (Int.ofNat 0)) (.cons (.w (atomsV 1 255 18 8 .nil)) .nil)) 26 = true := by kernel_rfl
theorem enz_w21 (τ : Nat → Nat) : enzRun τ (.cons (.i .i64 (Int.ofNat 0)) (.cons (.w (atomsV 1 255 21 8 .nil)) .nil)) 29 = true := by kernel_rfl
theorem enz_w24 (τ : Nat → Nat) : enzRun τ (.cons (.i .i64 (Int.ofNat 0)) (.cons (.w (atomsV 1 255 24 8 .nil)) .nil)) 32 = true := by kernel_rfl
theorem enz_w27 (τ : Nat → Nat) : enzRun τ (.cons (.i .i64 (Int.ofNat 0)) (.cons (.w (atomsV 1 255 27 8 .nil)) .nil)) 35 = true := by kernel_rfl
theorem enz_w30 (τ : Nat → Nat) : enzRun τ (.cons (.i .i64 (Int.ofNat 0)) (.cons (.w (atomsV 1 255 30 8 .nil)) .nil)) 38 = true := by kernel_rfl
theorem enz_w33 (τ : Nat → Nat) : enzRun τ (.cons (.i .i64 (Int.ofNat 0)) (.cons (.w (atomsV 1 255 33 8 .nil)) .nil)) 41 = true := by kernel_rfl
theorem enz_w36 (τ : Nat → Nat) : enzRun τ (.cons (.i .i64 (Int.ofNat 0)) (.cons (.w (atomsV 1 255 36 8 .nil)) .nil)) 44 = true := by kernel_rfl
theorem enz_w39 (τ : Nat → Nat) : enzRun τ (.cons (.i .i64 (Int.ofNat 0)) (.cons (.w (atomsV 1 255 39 8 .nil)) .nil)) 47 = true := by kernel_rfl
theorem enz_w42 (τ : Nat → Nat) : enzRun τ (.cons (.i .i64 (Int.ofNat 0)) (.cons (.w (atomsV 1 255 42 8 .nil)) .nil)) 50 = true := by kernel_rfl
theorem enz_w45 (τ : Nat → Nat) : enzRun τ (.cons (.i .i64 (Int.ofNat 0)) (.cons (.w (atomsV 1 255 45 8 .nil)) .nil)) 53 = true := by kernel_rfl
theorem enz_w48 (τ : Nat → Nat) : enzRun τ (.cons (.i .i64 (Int.ofNat 0)) (.cons (.w (atomsV 1 255 48 8 .nil)) .nil)) 56 = true := by kernel_rfl
theorem enz_w51 (τ : Nat → Nat) : enzRun τ (.cons (.i .i64 (Int.ofNat 0)) (.cons (.w (atomsV 1 255 51 8 .nil)) .nil)) 59 = true := by kernel_rfl
theorem enz_w54 (τ : Nat → Nat) : enzRun τ (.cons (.i .i64 (Int.ofNat 0)) (.cons (.w (atomsV 1 255 54 8 .nil)) .nil)) 62 = true := by kernel_rfl
theorem enz_w57 (τ : Nat → Nat) : enzRun τ (.cons (.i .i64 (Int.ofNat 0)) (.cons (.w (atomsV 1 255 57 8 .nil)) .nil)) 65 = true := by kernel_rfl
theorem enz_w60 (τ : Nat → Nat) : enzRun τ (.cons (.i .i64 (Int.ofNat 0)) (.cons (.w (atomsV 1 255 60 8 .nil)) .nil)) 68 = true := by kernel_rfl
def enpRun (τ : Nat → Nat) (args : V) (nx : Nat) : Bool := mkTK τ tbl .leaf (fun h0 => run Tryz.prog 8 (hkL hkB) 100000 4 args h0 nx (fun v _ _ => isB true v) (fun _ _ _ => false))
theorem enp_flo (m : Nat) (τ : Nat → Nat) : allN 60 (fun k => enpRun τ (.cons (.i .i64 (Int.ofNat (m + 5))) (.cons (.y (atomsV 1 255 k 8 (.cons (.x (8 + k) .u8 0 0) .nil)) (8 + k + 1) (k + 1) 60) .nil)) (8 + k + 2)) = true := by kernel_rfl
theorem enp_l (m : Nat) (τ : Nat → Nat) : enpRun τ (.cons (.i .i64 (Int.ofNat (m + 5))) (.cons (.y .nil 8 61 9223372036854775807) .nil)) 9 = true := by kernel_rfl
theorem enp_w0 (m : Nat) (τ : Nat → Nat) : enpRun τ (.cons (.i .i64 (Int.ofNat (m + 5))) (.cons (.w (atomsV 1 255 0 8 .nil)) .nil)) 8 = true := by kernel_rfl
theorem enp_w3 (m : Nat) (τ : Nat → Nat) : enpRun τ (.cons (.i .i64 (Int.ofNat (m + 5))) (.cons (.w (atomsV 1 255 3 8 .nil)) .nil)) 11 = true := by kernel_rfl
theorem enp_w6 (m : Nat) (τ : Nat → Nat) : enpRun τ (.cons (.i .i64 (Int.ofNat (m + 5))) (.cons (.w (atomsV 1 255 6 8 .nil)) .nil)) 14 = true := by kernel_rfl
theorem enp_w9 (m : Nat) (τ : Nat → Nat) : enpRun τ (.cons (.i .i64 (Int.ofNat (m + 5))) (.cons (.w (atomsV 1 255 9 8 .nil)) .nil)) 17 = true := by kernel_rfl
theorem enp_w12 (m : Nat) (τ : Nat → Nat) : enpRun τ (.cons (.i .i64 (Int.ofNat (m + 5))) (.cons (.w (atomsV 1 255 12 8 .nil)) .nil)) 20 = true := by kernel_rfl
theorem enp_w15 (m : Nat) (τ : Nat → Nat) : enpRun τ (.cons (.i .i64 (Int.ofNat (m + 5))) (.cons (.w (atomsV 1 255 15 8 .nil)) .nil)) 23 = true := by kernel_rfl
theorem enp_w18 (m : Nat) (τ : Nat → Nat) : enpRun τ (.cons (.i .i64 (Int.ofNat (m + 5))) (.cons (.w (atomsV 1 255 18 8 .nil)) .nil)) 26 = true := by kernel_rfl
theorem enp_w21 (m : Nat) (τ : Nat → Nat) : enpRun τ (.cons (.i .i64 (Int.ofNat (m + 5))) (.cons (.w (atomsV 1 255 21 8 .nil)) .nil)) 29 = true := by kernel_rfl
theorem enp_w24 (m : Nat) (τ : Nat → Nat) : enpRun τ (.cons (.i .i64 (Int.ofNat (m + 5))) (.cons (.w (atomsV 1 255 24 8 .nil)) .nil)) 32 = true := by kernel_rfl
theorem enp_w27 (m : Nat) (τ : Nat → Nat) : enpRun τ (.cons (.i .i64 (Int.ofNat (m + 5))) (.cons (.w (atomsV 1 255 27 8 .nil)) .nil)) 35 = true := by kernel_rfl
theorem enp_w30 (m : Nat) (τ : Nat → Nat) : enpRun τ (.cons (.i .i64 (Int.ofNat (m + 5))) (.cons (.w (atomsV 1 255 30 8 .nil)) .nil)) 38 = true := by kernel_rfl
theorem enp_w33 (m : Nat) (τ : Nat → Nat) : enpRun τ (.cons (.i .i64 (Int.ofNat (m + 5))) (.cons (.w (atomsV 1 255 33 8 .nil)) .nil)) 41 = true := by kernel_rfl
theorem enp_w36 (m : Nat) (τ : Nat → Nat) : enpRun τ (.cons (.i .i64 (Int.ofNat (m + 5))) (.cons (.w (atomsV 1 255 36 8 .nil)) .nil)) 44 = true := by kernel_rfl
theorem enp_w39 (m : Nat) (τ : Nat → Nat) : enpRun τ (.cons (.i .i64 (Int.ofNat (m + 5))) (.cons (.w (atomsV 1 255 39 8 .nil)) .nil)) 47 = true := by kernel_rfl
theorem enp_w42 (m : Nat) (τ : Nat → Nat) : enpRun τ (.cons (.i .i64 (Int.ofNat (m + 5))) (.cons (.w (atomsV 1 255 42 8 .nil)) .nil)) 50 = true := by kernel_rfl
theorem enp_w45 (m : Nat) (τ : Nat → Nat) : enpRun τ (.cons (.i .i64 (Int.ofNat (m + 5))) (.cons (.w (atomsV 1 255 45 8 .nil)) .nil)) 53 = true := by kernel_rfl
theorem enp_w48 (m : Nat) (τ : Nat → Nat) : enpRun τ (.cons (.i .i64 (Int.ofNat (m + 5))) (.cons (.w (atomsV 1 255 48 8 .nil)) .nil)) 56 = true := by kernel_rfl
theorem enp_w51 (m : Nat) (τ : Nat → Nat) : enpRun τ (.cons (.i .i64 (Int.ofNat (m + 5))) (.cons (.w (atomsV 1 255 51 8 .nil)) .nil)) 59 = true := by kernel_rfl
theorem enp_w54 (m : Nat) (τ : Nat → Nat) : enpRun τ (.cons (.i .i64 (Int.ofNat (m + 5))) (.cons (.w (atomsV 1 255 54 8 .nil)) .nil)) 62 = true := by kernel_rfl
theorem enp_w57 (m : Nat) (τ : Nat → Nat) : enpRun τ (.cons (.i .i64 (Int.ofNat (m + 5))) (.cons (.w (atomsV 1 255 57 8 .nil)) .nil)) 65 = true := by kernel_rfl
theorem enp_w60 (m : Nat) (τ : Nat → Nat) : enpRun τ (.cons (.i .i64 (Int.ofNat (m + 5))) (.cons (.w (atomsV 1 255 60 8 .nil)) .nil)) 68 = true := by kernel_rfl
theorem en_k1 (τ : Nat → Nat) : ennRun τ (.cons (.i .i64 (Int.ofNat 1)) (.cons .nil .nil)) 8 = true := by kernel_rfl
theorem en_k2 (τ : Nat → Nat) : ennRun τ (.cons (.i .i64 (Int.ofNat 2)) (.cons .nil .nil)) 8 = true := by kernel_rfl
theorem en_k3 (τ : Nat → Nat) : ennRun τ (.cons (.i .i64 (Int.ofNat 3)) (.cons .nil .nil)) 8 = true := by kernel_rfl
theorem en_k4 (τ : Nat → Nat) : ennRun τ (.cons (.i .i64 (Int.ofNat 4)) (.cons .nil .nil)) 8 = true := by kernel_rfl
end
end Go.Proofs.YtdgcioinbegmgaaGreatDoor
