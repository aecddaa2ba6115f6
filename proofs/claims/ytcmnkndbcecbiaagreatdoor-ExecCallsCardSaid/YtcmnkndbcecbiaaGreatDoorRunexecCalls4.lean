/-
  Runs of execCalls, by the kernel (5 of 9). No condition.
-/
import Derived.Test.YtcmnkndbcecbiaaGreatDoorRunexecCalls0
open Go Go.Mx
namespace Go.Proofs.YtcmnkndbcecbiaaGreatDoor
set_option maxRecDepth 1000000
noncomputable section
theorem xl_h8_3 (ty : Nat) (τ : Nat → Nat) : xlRun hkS3 τ (.sl 12 0 8 1) (lstV M 97 122 40 1 8 13 8) (.o 2 (t2V 37 48 57 38 48 57 0 428) 3 0 0) ty = true := by kernel_rfl
theorem xl_h6_1 (ty : Nat) (τ : Nat → Nat) : xlRun hkS1 τ (.sl 12 0 6 1) (lstV M 97 122 40 1 6 13 6) (.o 2 (t1V 37 49 57 0 48) 3 0 0) ty = true := by kernel_rfl
theorem xl_h6_5 (ty : Nat) (τ : Nat → Nat) : xlRun hkS5 τ (.sl 12 0 6 1) (lstV M 97 122 40 1 6 13 6) (.o 2 (t1V 37 48 53 202 0) 3 0 0) ty = true := by kernel_rfl
theorem xl_h3_1 (ty : Nat) (τ : Nat → Nat) : xlRun hkS1 τ (.sl 12 0 3 1) (lstV M 97 122 40 1 3 13 3) (.o 2 (t1V 37 49 57 0 48) 3 0 0) ty = true := by kernel_rfl
theorem xl_h3_3 (ty : Nat) (τ : Nat → Nat) : xlRun hkS3 τ (.sl 12 0 3 1) (lstV M 97 122 40 1 3 13 3) (.o 2 (t2V 37 48 57 38 48 57 0 428) 3 0 0) ty = true := by kernel_rfl
theorem xl_h1_3 (ty : Nat) (τ : Nat → Nat) : xlRun hkS3 τ (.sl 12 0 1 1) (lstV M 97 122 40 1 1 13 1) (.o 2 (t2V 37 48 57 38 48 57 0 428) 3 0 0) ty = true := by kernel_rfl
theorem xl_hs_3 (ty : Nat) (τ : Nat → Nat) : xlRun hkS3 τ .sn .nil (.o 2 (t2V 37 48 57 38 48 57 0 428) 3 0 0) ty = true := by kernel_rfl
theorem xl_he_5 (ty : Nat) (τ : Nat → Nat) : xlRun hkS5 τ .se .nil (.o 2 (t1V 37 48 53 202 0) 3 0 0) ty = true := by kernel_rfl
end
end Go.Proofs.YtcmnkndbcecbiaaGreatDoor
