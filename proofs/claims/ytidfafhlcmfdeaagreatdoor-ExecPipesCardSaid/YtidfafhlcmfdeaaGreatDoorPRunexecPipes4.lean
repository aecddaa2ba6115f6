/-
  Runs of execPipes, by the kernel (5 of 8). No condition.
-/
import Derived.Test.YtidfafhlcmfdeaaGreatDoorPRunexecPipes0
open Go Go.Mx
namespace Go.Proofs.YtidfafhlcmfdeaaGreatDoor
set_option maxRecDepth 1000000
noncomputable section
theorem xp_s10ft (τ : Nat → Nat) : xpRun τ .sn (Int.ofNat 10) false true [] 12 = true := by kernel_rfl
theorem xp_e10tt (τ : Nat → Nat) : xpRun τ .se (Int.ofNat 10) true true [] 12 = true := by kernel_rfl
theorem xp_p9ft (ty : Nat) (τ : Nat → Nat) : xpRun τ (bytesA 12 1 500) (Int.ofNat 9) false true [(12, bytesO 12 1 500 ty)] 14 = true := by kernel_rfl
theorem xp_s8ff (τ : Nat → Nat) : xpRun τ .sn (Int.ofNat 8) false false [] 12 = true := by kernel_rfl
theorem xp_e8tf (τ : Nat → Nat) : xpRun τ .se (Int.ofNat 8) true false [] 12 = true := by kernel_rfl
theorem xp_p7ff (ty : Nat) (τ : Nat → Nat) : xpRun τ (bytesA 12 1 500) (Int.ofNat 7) false false [(12, bytesO 12 1 500 ty)] 14 = true := by kernel_rfl
theorem xp_s7tt (τ : Nat → Nat) : xpRun τ .sn (Int.ofNat 7) true true [] 12 = true := by kernel_rfl
theorem xp_e6ft (τ : Nat → Nat) : xpRun τ .se (Int.ofNat 6) false true [] 12 = true := by kernel_rfl
theorem xp_p6tt (ty : Nat) (τ : Nat → Nat) : xpRun τ (bytesA 12 1 500) (Int.ofNat 6) true true [(12, bytesO 12 1 500 ty)] 14 = true := by kernel_rfl
theorem xp_s5tf (τ : Nat → Nat) : xpRun τ .sn (Int.ofNat 5) true false [] 12 = true := by kernel_rfl
theorem xp_e4ff (τ : Nat → Nat) : xpRun τ .se (Int.ofNat 4) false false [] 12 = true := by kernel_rfl
theorem xp_p4tf (ty : Nat) (τ : Nat → Nat) : xpRun τ (bytesA 12 1 500) (Int.ofNat 4) true false [(12, bytesO 12 1 500 ty)] 14 = true := by kernel_rfl
theorem xp_s3ft (τ : Nat → Nat) : xpRun τ .sn (Int.ofNat 3) false true [] 12 = true := by kernel_rfl
theorem xp_e3tt (τ : Nat → Nat) : xpRun τ .se (Int.ofNat 3) true true [] 12 = true := by kernel_rfl
theorem xp_p2ft (ty : Nat) (τ : Nat → Nat) : xpRun τ (bytesA 12 1 500) (Int.ofNat 2) false true [(12, bytesO 12 1 500 ty)] 14 = true := by kernel_rfl
theorem xp_s1ff (τ : Nat → Nat) : xpRun τ .sn (Int.ofNat 1) false false [] 12 = true := by kernel_rfl
theorem xp_e1tf (τ : Nat → Nat) : xpRun τ .se (Int.ofNat 1) true false [] 12 = true := by kernel_rfl
end
end Go.Proofs.YtidfafhlcmfdeaaGreatDoor
