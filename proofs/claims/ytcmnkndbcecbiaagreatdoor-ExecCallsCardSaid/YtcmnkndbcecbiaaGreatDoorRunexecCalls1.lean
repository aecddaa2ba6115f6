/-
  Runs of execCalls, by the kernel (2 of 9). No condition.
-/
import Derived.Test.YtcmnkndbcecbiaaGreatDoorRunexecCalls0
open Go Go.Mx
namespace Go.Proofs.YtcmnkndbcecbiaaGreatDoor
set_option maxRecDepth 1000000
noncomputable section
theorem xl_h8_0 (ty : Nat) (τ : Nat → Nat) : xlRun hkS0 τ (.sl 12 0 8 1) (lstV M 97 122 40 1 8 13 8) (.i .i64 (Int.ofNat 0)) ty = true := by kernel_rfl
theorem xl_h7_4 (ty : Nat) (τ : Nat → Nat) : xlRun hkS4 τ (.sl 12 0 7 1) (lstV M 97 122 40 1 7 13 7) (.o 2 (t2V 37 48 52 38 48 57 0 328) 3 0 0) ty = true := by kernel_rfl
theorem xl_h5_4 (ty : Nat) (τ : Nat → Nat) : xlRun hkS4 τ (.sl 12 0 5 1) (lstV M 97 122 40 1 5 13 5) (.o 2 (t2V 37 48 52 38 48 57 0 328) 3 0 0) ty = true := by kernel_rfl
theorem xl_h4_4 (ty : Nat) (τ : Nat → Nat) : xlRun hkS4 τ (.sl 12 0 4 1) (lstV M 97 122 40 1 4 13 4) (.o 2 (t2V 37 48 52 38 48 57 0 328) 3 0 0) ty = true := by kernel_rfl
theorem xl_h2_2 (ty : Nat) (τ : Nat → Nat) : xlRun hkS2 τ (.sl 12 0 2 1) (lstV M 97 122 40 1 2 13 2) (.o 2 (t2V 37 49 57 38 48 57 0 528) 3 0 0) ty = true := by kernel_rfl
theorem xl_h1_0 (ty : Nat) (τ : Nat → Nat) : xlRun hkS0 τ (.sl 12 0 1 1) (lstV M 97 122 40 1 1 13 1) (.i .i64 (Int.ofNat 0)) ty = true := by kernel_rfl
theorem xl_hs_0 (ty : Nat) (τ : Nat → Nat) : xlRun hkS0 τ .sn .nil (.i .i64 (Int.ofNat 0)) ty = true := by kernel_rfl
theorem xl_he_2 (ty : Nat) (τ : Nat → Nat) : xlRun hkS2 τ .se .nil (.o 2 (t2V 37 49 57 38 48 57 0 528) 3 0 0) ty = true := by kernel_rfl
end
end Go.Proofs.YtcmnkndbcecbiaaGreatDoor
