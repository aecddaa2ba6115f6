/-
  Runs of execPipes, by the kernel (6 of 8). No condition.
-/
import Derived.Test.YtidfafhlcmfdeaaGreatDoorPRunexecPipes0
open Go Go.Mx
namespace Go.Proofs.YtidfafhlcmfdeaaGreatDoor
set_option maxRecDepth 1000000
noncomputable section
theorem xp_e10ft (τ : Nat → Nat) : xpRun τ .se (Int.ofNat 10) false true [] 12 = true := by kernel_rfl
theorem xp_p10tt (ty : Nat) (τ : Nat → Nat) : xpRun τ (bytesA 12 1 500) (Int.ofNat 10) true true [(12, bytesO 12 1 500 ty)] 14 = true := by kernel_rfl
theorem xp_s9tf (τ : Nat → Nat) : xpRun τ .sn (Int.ofNat 9) true false [] 12 = true := by kernel_rfl
theorem xp_e8ff (τ : Nat → Nat) : xpRun τ .se (Int.ofNat 8) false false [] 12 = true := by kernel_rfl
theorem xp_p8tf (ty : Nat) (τ : Nat → Nat) : xpRun τ (bytesA 12 1 500) (Int.ofNat 8) true false [(12, bytesO 12 1 500 ty)] 14 = true := by kernel_rfl
theorem xp_s7ft (τ : Nat → Nat) : xpRun τ .sn (Int.ofNat 7) false true [] 12 = true := by kernel_rfl
theorem xp_e7tt (τ : Nat → Nat) : xpRun τ .se (Int.ofNat 7) true true [] 12 = true := by kernel_rfl
theorem xp_p6ft (ty : Nat) (τ : Nat → Nat) : xpRun τ (bytesA 12 1 500) (Int.ofNat 6) false true [(12, bytesO 12 1 500 ty)] 14 = true := by kernel_rfl
theorem xp_s5ff (τ : Nat → Nat) : xpRun τ .sn (Int.ofNat 5) false false [] 12 = true := by kernel_rfl
theorem xp_e5tf (τ : Nat → Nat) : xpRun τ .se (Int.ofNat 5) true false [] 12 = true := by kernel_rfl
theorem xp_p4ff (ty : Nat) (τ : Nat → Nat) : xpRun τ (bytesA 12 1 500) (Int.ofNat 4) false false [(12, bytesO 12 1 500 ty)] 14 = true := by kernel_rfl
theorem xp_s4tt (τ : Nat → Nat) : xpRun τ .sn (Int.ofNat 4) true true [] 12 = true := by kernel_rfl
theorem xp_e3ft (τ : Nat → Nat) : xpRun τ .se (Int.ofNat 3) false true [] 12 = true := by kernel_rfl
theorem xp_p3tt (ty : Nat) (τ : Nat → Nat) : xpRun τ (bytesA 12 1 500) (Int.ofNat 3) true true [(12, bytesO 12 1 500 ty)] 14 = true := by kernel_rfl
theorem xp_s2tf (τ : Nat → Nat) : xpRun τ .sn (Int.ofNat 2) true false [] 12 = true := by kernel_rfl
theorem xp_e1ff (τ : Nat → Nat) : xpRun τ .se (Int.ofNat 1) false false [] 12 = true := by kernel_rfl
theorem xp_p1tf (ty : Nat) (τ : Nat → Nat) : xpRun τ (bytesA 12 1 500) (Int.ofNat 1) true false [(12, bytesO 12 1 500 ty)] 14 = true := by kernel_rfl
end
end Go.Proofs.YtidfafhlcmfdeaaGreatDoor
