/-
  Runs of execTemps, by the kernel (1 of 3). No condition.
-/
import Derived.Test.YtcmnkndbcecbiaaGreatDoorHkU
import Derived.Test.YtcmnkndbcecbiaaGreatDoorXMxAN
open Go Go.Mx
namespace Go.Proofs.YtcmnkndbcecbiaaGreatDoor
set_option maxRecDepth 1000000
noncomputable section
def lk : LH := [(97, 6, 8, 0, 9, [40, 41, 42, 43, 44, 45, 46, 47, 48, 49, 50, 51, 52, 53, 54, 55, 56], 97, 122)]
def xtRun (τ : Nat → Nat) (args : V) (nx : Nat) : Bool := mkTK τ tbl .leaf (fun h0 => runL Tryz.prog 12 (hkL hkU) lk 100000 6 args h0 nx (fun v _ _ => isB true v) (fun _ _ _ => false))
theorem xt_l10 (τ : Nat → Nat) : xtRun τ (.cons (formV M 97 122 40 12 1) (.cons (formV M 97 122 40 (12 + 3) 0) (.cons (.nil) .nil))) (12 + 6) = true := by kernel_rfl
theorem xt_l12 (τ : Nat → Nat) : xtRun τ (.cons (formV M 97 122 40 12 1) (.cons (formV M 97 122 40 (12 + 3) 2) (.cons (.nil) .nil))) (12 + 6) = true := by kernel_rfl
theorem xt_l13 (τ : Nat → Nat) : xtRun τ (.cons (formV M 97 122 40 12 1) (.cons (formV M 97 122 40 (12 + 3) 3) (.cons (.nil) .nil))) (12 + 6) = true := by kernel_rfl
theorem xt_l14 (τ : Nat → Nat) : xtRun τ (.cons (formV M 97 122 40 12 1) (.cons (formV M 97 122 40 (12 + 3) 4) (.cons (.nil) .nil))) (12 + 6) = true := by kernel_rfl
theorem xt_l40 (τ : Nat → Nat) : xtRun τ (.cons (formV M 97 122 40 12 4) (.cons (formV M 97 122 40 (12 + 3) 0) (.cons (.nil) .nil))) (12 + 6) = true := by kernel_rfl
theorem xt_l41 (τ : Nat → Nat) : xtRun τ (.cons (formV M 97 122 40 12 4) (.cons (formV M 97 122 40 (12 + 3) 1) (.cons (.nil) .nil))) (12 + 6) = true := by kernel_rfl
theorem xt_l42 (τ : Nat → Nat) : xtRun τ (.cons (formV M 97 122 40 12 4) (.cons (formV M 97 122 40 (12 + 3) 2) (.cons (.nil) .nil))) (12 + 6) = true := by kernel_rfl
theorem xt_l43 (τ : Nat → Nat) : xtRun τ (.cons (formV M 97 122 40 12 4) (.cons (formV M 97 122 40 (12 + 3) 3) (.cons (.nil) .nil))) (12 + 6) = true := by kernel_rfl
theorem xt_l44 (τ : Nat → Nat) : xtRun τ (.cons (formV M 97 122 40 12 4) (.cons (formV M 97 122 40 (12 + 3) 4) (.cons (.nil) .nil))) (12 + 6) = true := by kernel_rfl
theorem xt_none (τ : Nat → Nat) : xtRun τ (.cons (formV M 97 122 40 12 0) (.cons (.nil) (.cons (.nil) .nil))) (12 + 6) = true := by kernel_rfl
theorem xt_et (τ : Nat → Nat) : allN 40 (fun k => xtRun τ (.cons (formS M 97 122 40 12 k true) (.cons (formV M 97 122 40 (12 + 3) 0) (.cons (.nil) .nil))) (12 + 6)) = true := by kernel_rfl
theorem xt_st (τ : Nat → Nat) : allN 40 (fun k => xtRun τ (.cons (formS M 97 122 40 12 k true) (.cons (anyS (12 + 3) 1 40) (.cons (.nil) .nil))) (12 + 6)) = true := by kernel_rfl
theorem xt_yt (τ : Nat → Nat) : allN 40 (fun k => xtRun τ (.cons (formS M 97 122 40 12 k true) (.cons (.y .nil (12 + 3) 41 9223372036854775807) (.cons (.nil) .nil))) (12 + 6)) = true := by kernel_rfl
theorem xt_ef (τ : Nat → Nat) : allN 40 (fun k => xtRun τ (.cons (formS M 97 122 40 12 k false) (.cons (formV M 97 122 40 (12 + 3) 0) (.cons (.nil) .nil))) (12 + 6)) = true := by kernel_rfl
theorem xt_sf (τ : Nat → Nat) : allN 40 (fun k => xtRun τ (.cons (formS M 97 122 40 12 k false) (.cons (anyS (12 + 3) 1 40) (.cons (.nil) .nil))) (12 + 6)) = true := by kernel_rfl
theorem xt_yf (τ : Nat → Nat) : allN 40 (fun k => xtRun τ (.cons (formS M 97 122 40 12 k false) (.cons (.y .nil (12 + 3) 41 9223372036854775807) (.cons (.nil) .nil))) (12 + 6)) = true := by kernel_rfl
end
end Go.Proofs.YtcmnkndbcecbiaaGreatDoor
