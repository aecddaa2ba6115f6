/-
  Runs of execWords, by the kernel (4 of 5). No condition.
-/
import Derived.Test.YtcmnkndbcecbiaaGreatDoorRunexecWords0
open Go Go.Mx
namespace Go.Proofs.YtcmnkndbcecbiaaGreatDoor
set_option maxRecDepth 1000000
noncomputable section
theorem xw_h9_t (ty : Nat) (τ : Nat → Nat) : xwRun τ (.sl 12 0 9 1) (lstV M 97 122 40 1 9 13 9) (.b true) ty = true := by kernel_rfl
theorem xw_h7_t (ty : Nat) (τ : Nat → Nat) : xwRun τ (.sl 12 0 7 1) (lstV M 97 122 40 1 7 13 7) (.b true) ty = true := by kernel_rfl
theorem xw_h5_t (ty : Nat) (τ : Nat → Nat) : xwRun τ (.sl 12 0 5 1) (lstV M 97 122 40 1 5 13 5) (.b true) ty = true := by kernel_rfl
theorem xw_h3_t (ty : Nat) (τ : Nat → Nat) : xwRun τ (.sl 12 0 3 1) (lstV M 97 122 40 1 3 13 3) (.b true) ty = true := by kernel_rfl
theorem xw_h1_t (ty : Nat) (τ : Nat → Nat) : xwRun τ (.sl 12 0 1 1) (lstV M 97 122 40 1 1 13 1) (.b true) ty = true := by kernel_rfl
end
end Go.Proofs.YtcmnkndbcecbiaaGreatDoor
