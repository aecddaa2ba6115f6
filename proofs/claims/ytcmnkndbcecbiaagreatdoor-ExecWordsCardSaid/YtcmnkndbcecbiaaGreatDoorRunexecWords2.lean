/-
  Runs of execWords, by the kernel (3 of 5). No condition.
-/
import Derived.Test.YtcmnkndbcecbiaaGreatDoorRunexecWords0
open Go Go.Mx
namespace Go.Proofs.YtcmnkndbcecbiaaGreatDoor
set_option maxRecDepth 1000000
noncomputable section
theorem xw_h10_f (ty : Nat) (τ : Nat → Nat) : xwRun τ (.sl 12 0 10 1) (lstV M 97 122 40 1 10 13 10) (.b false) ty = true := by kernel_rfl
theorem xw_h8_f (ty : Nat) (τ : Nat → Nat) : xwRun τ (.sl 12 0 8 1) (lstV M 97 122 40 1 8 13 8) (.b false) ty = true := by kernel_rfl
theorem xw_h6_f (ty : Nat) (τ : Nat → Nat) : xwRun τ (.sl 12 0 6 1) (lstV M 97 122 40 1 6 13 6) (.b false) ty = true := by kernel_rfl
theorem xw_h4_f (ty : Nat) (τ : Nat → Nat) : xwRun τ (.sl 12 0 4 1) (lstV M 97 122 40 1 4 13 4) (.b false) ty = true := by kernel_rfl
theorem xw_h2_f (ty : Nat) (τ : Nat → Nat) : xwRun τ (.sl 12 0 2 1) (lstV M 97 122 40 1 2 13 2) (.b false) ty = true := by kernel_rfl
end
end Go.Proofs.YtcmnkndbcecbiaaGreatDoor
