/-
  Runs of toolsCopy, by the kernel (7 of 7). No condition.
-/
import Derived.Test.YtkppbibiaiecnaaGreatDoorRuntoolsCopy0
open Go Go.Mx
namespace Go.Proofs.YtkppbibiaiecnaaGreatDoor
set_option maxRecDepth 1000000
noncomputable section
theorem tc_spf (ty1 ty2 : Nat) (τ : Nat → Nat) : tcRun τ .sn (bytesA 11 1 500) (.b false) 1 500 ty1 1 500 ty2 = true := by kernel_rfl
theorem tc_epf (ty1 ty2 : Nat) (τ : Nat → Nat) : tcRun τ .se (bytesA 11 1 500) (.b false) 1 500 ty1 1 500 ty2 = true := by kernel_rfl
theorem tc_ppf (ty1 ty2 : Nat) (τ : Nat → Nat) : tcRun τ (bytesA 9 1 500) (bytesA 11 1 500) (.b false) 1 500 ty1 1 500 ty2 = true := by kernel_rfl
end
end Go.Proofs.YtkppbibiaiecnaaGreatDoor
