/-
  Runs of execWords, by the kernel (5 of 5). No condition.
-/
import Derived.Test.YtcmnkndbcecbiaaGreatDoorRunexecWords0
open Go Go.Mx
namespace Go.Proofs.YtcmnkndbcecbiaaGreatDoor
set_option maxRecDepth 1000000
noncomputable section
theorem xw_h9_f (ty : Nat) (τ : Nat → Nat) : xwRun τ (.sl 12 0 9 1) (lstV M 97 122 40 1 9 13 9) (.b false) ty = true := by kernel_rfl
theorem xw_h7_f (ty : Nat) (τ : Nat → Nat) : xwRun τ (.sl 12 0 7 1) (lstV M 97 122 40 1 7 13 7) (.b false) ty = true := by kernel_rfl
theorem xw_h5_f (ty : Nat) (τ : Nat → Nat) : xwRun τ (.sl 12 0 5 1) (lstV M 97 122 40 1 5 13 5) (.b false) ty = true := by kernel_rfl
theorem xw_h3_f (ty : Nat) (τ : Nat → Nat) : xwRun τ (.sl 12 0 3 1) (lstV M 97 122 40 1 3 13 3) (.b false) ty = true := by kernel_rfl
theorem xw_h1_f (ty : Nat) (τ : Nat → Nat) : xwRun τ (.sl 12 0 1 1) (lstV M 97 122 40 1 1 13 1) (.b false) ty = true := by kernel_rfl
end
end Go.Proofs.YtcmnkndbcecbiaaGreatDoor
