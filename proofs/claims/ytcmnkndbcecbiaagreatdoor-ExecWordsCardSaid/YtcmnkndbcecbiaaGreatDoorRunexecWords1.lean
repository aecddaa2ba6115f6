/-
  Runs of execWords, by the kernel (2 of 5). No condition.
-/
import Derived.Test.YtcmnkndbcecbiaaGreatDoorRunexecWords0
open Go Go.Mx
namespace Go.Proofs.YtcmnkndbcecbiaaGreatDoor
set_option maxRecDepth 1000000
noncomputable section
theorem xw_h10_t (ty : Nat) (τ : Nat → Nat) : xwRun τ (.sl 12 0 10 1) (lstV M 97 122 40 1 10 13 10) (.b true) ty = true := by kernel_rfl
theorem xw_h8_t (ty : Nat) (τ : Nat → Nat) : xwRun τ (.sl 12 0 8 1) (lstV M 97 122 40 1 8 13 8) (.b true) ty = true := by kernel_rfl
theorem xw_h6_t (ty : Nat) (τ : Nat → Nat) : xwRun τ (.sl 12 0 6 1) (lstV M 97 122 40 1 6 13 6) (.b true) ty = true := by kernel_rfl
theorem xw_h4_t (ty : Nat) (τ : Nat → Nat) : xwRun τ (.sl 12 0 4 1) (lstV M 97 122 40 1 4 13 4) (.b true) ty = true := by kernel_rfl
theorem xw_h2_t (ty : Nat) (τ : Nat → Nat) : xwRun τ (.sl 12 0 2 1) (lstV M 97 122 40 1 2 13 2) (.b true) ty = true := by kernel_rfl
end
end Go.Proofs.YtcmnkndbcecbiaaGreatDoor
