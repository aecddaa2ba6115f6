/-
  Runs of toolsCopy, by the kernel (1 of 7). No condition.
-/
import Derived.Test.YtkppbibiaiecnaaGreatDoorHk
open Go Go.Mx
namespace Go.Proofs.YtkppbibiaiecnaaGreatDoor
set_option maxRecDepth 1000000
noncomputable section
def tcRun (τ : Nat → Nat) (b c g : V) (lo1 hi1 ty1 lo2 hi2 ty2 : Nat) : Bool := mkTK τ tbl (putO [(9, bytesO 9 lo1 hi1 ty1), (11, bytesO 11 lo2 hi2 ty2)] .leaf) (fun h0 => run Tryz.prog 9 (hkL hkB) 100000 4 (.cons b (.cons c (.cons g .nil))) h0 13 (fun v _ _ => isB true v) (fun _ _ _ => false))
theorem tc_lb (ty1 lo2 hi2 ty2 : Nat) (g : Bool) (τ : Nat → Nat) : tcRun τ (bytesA 9 501 9223372036854775807) .nil (.b g) 501 9223372036854775807 ty1 lo2 hi2 ty2 = true := by kernel_rfl
theorem tc_lcs (ty1 ty2 : Nat) (g : Bool) (τ : Nat → Nat) : tcRun τ .sn (bytesA 11 501 9223372036854775807) (.b g) 1 500 ty1 501 9223372036854775807 ty2 = true := by kernel_rfl
theorem tc_lce (ty1 ty2 : Nat) (g : Bool) (τ : Nat → Nat) : tcRun τ .se (bytesA 11 501 9223372036854775807) (.b g) 1 500 ty1 501 9223372036854775807 ty2 = true := by kernel_rfl
theorem tc_lcp (ty1 ty2 : Nat) (g : Bool) (τ : Nat → Nat) : tcRun τ (bytesA 9 1 500) (bytesA 11 501 9223372036854775807) (.b g) 1 500 ty1 501 9223372036854775807 ty2 = true := by kernel_rfl
end
end Go.Proofs.YtkppbibiaiecnaaGreatDoor
