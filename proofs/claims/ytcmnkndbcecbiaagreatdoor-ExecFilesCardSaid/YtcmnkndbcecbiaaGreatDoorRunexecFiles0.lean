/-
  Runs of execFiles, by the kernel (1 of 5). No condition.
-/
import Derived.Test.YtcmnkndbcecbiaaGreatDoorHkF
import Derived.Test.YtcmnkndbcecbiaaGreatDoorXMxAN
open Go Go.Mx
namespace Go.Proofs.YtcmnkndbcecbiaaGreatDoor
set_option maxRecDepth 1000000
noncomputable section
def lk : LH := [(123, 6, 8, 0, 9, [37, 38, 39, 40, 41, 42, 43, 44, 45, 46, 47, 48, 49, 50, 51, 52, 53], 97, 122)]
def xfRun (τ : Nat → Nat) (args : V) (nx : Nat) : Bool := mkTK τ tbl .leaf (fun h0 => runL Tryz.prog 12 (hkL hkF) lk 100000 3 args h0 nx (fun v _ _ => isB true v) (fun _ _ _ => false))
theorem xf_l02 (τ : Nat → Nat) : xfRun τ (.cons (formV M 97 122 60 12 0) (.cons (formV M 97 122 60 (12 + 3) 2) (.cons (.nil) .nil))) (12 + 6) = true := by kernel_rfl
theorem xf_l03 (τ : Nat → Nat) : xfRun τ (.cons (formV M 97 122 60 12 0) (.cons (formV M 97 122 60 (12 + 3) 3) (.cons (.nil) .nil))) (12 + 6) = true := by kernel_rfl
theorem xf_l04 (τ : Nat → Nat) : xfRun τ (.cons (formV M 97 122 60 12 0) (.cons (formV M 97 122 60 (12 + 3) 4) (.cons (.nil) .nil))) (12 + 6) = true := by kernel_rfl
theorem xf_l12 (τ : Nat → Nat) : xfRun τ (.cons (formV M 97 122 60 12 1) (.cons (formV M 97 122 60 (12 + 3) 2) (.cons (.nil) .nil))) (12 + 6) = true := by kernel_rfl
theorem xf_l13 (τ : Nat → Nat) : xfRun τ (.cons (formV M 97 122 60 12 1) (.cons (formV M 97 122 60 (12 + 3) 3) (.cons (.nil) .nil))) (12 + 6) = true := by kernel_rfl
theorem xf_l14 (τ : Nat → Nat) : xfRun τ (.cons (formV M 97 122 60 12 1) (.cons (formV M 97 122 60 (12 + 3) 4) (.cons (.nil) .nil))) (12 + 6) = true := by kernel_rfl
theorem xf_long (τ : Nat → Nat) : xfRun τ (.cons (formV M 97 122 60 12 4) (.cons (.nil) (.cons (.nil) .nil))) (12 + 6) = true := by kernel_rfl
theorem xf_st (τ : Nat → Nat) : allN 60 (fun k => xfRun τ (.cons (formS M 97 122 60 12 k true) (.cons (anyS (12 + 3) 0 60) (.cons (.nil) .nil))) (12 + 6)) = true := by kernel_rfl
theorem xf_yt (τ : Nat → Nat) : allN 60 (fun k => xfRun τ (.cons (formS M 97 122 60 12 k true) (.cons (.y .nil (12 + 3) 61 9223372036854775807) (.cons (.nil) .nil))) (12 + 6)) = true := by kernel_rfl
theorem xf_sf (τ : Nat → Nat) : allN 60 (fun k => xfRun τ (.cons (formS M 97 122 60 12 k false) (.cons (anyS (12 + 3) 0 60) (.cons (.nil) .nil))) (12 + 6)) = true := by kernel_rfl
theorem xf_yf (τ : Nat → Nat) : allN 60 (fun k => xfRun τ (.cons (formS M 97 122 60 12 k false) (.cons (.y .nil (12 + 3) 61 9223372036854775807) (.cons (.nil) .nil))) (12 + 6)) = true := by kernel_rfl
end
end Go.Proofs.YtcmnkndbcecbiaaGreatDoor
