/-
  Runs of execPipes, by the kernel (7 of 8). No condition.
-/
import Derived.Test.YtidfafhlcmfdeaaGreatDoorPRunexecPipes0
open Go Go.Mx
namespace Go.Proofs.YtidfafhlcmfdeaaGreatDoor
set_option maxRecDepth 1000000
noncomputable section
theorem xp_p10ft (ty : Nat) (τ : Nat → Nat) : xpRun τ (bytesA 12 1 500) (Int.ofNat 10) false true [(12, bytesO 12 1 500 ty)] 14 = true := by kernel_rfl
theorem xp_s9ff (τ : Nat → Nat) : xpRun τ .sn (Int.ofNat 9) false false [] 12 = true := by kernel_rfl
theorem xp_e9tf (τ : Nat → Nat) : xpRun τ .se (Int.ofNat 9) true false [] 12 = true := by kernel_rfl
theorem xp_p8ff (ty : Nat) (τ : Nat → Nat) : xpRun τ (bytesA 12 1 500) (Int.ofNat 8) false false [(12, bytesO 12 1 500 ty)] 14 = true := by kernel_rfl
theorem xp_s8tt (τ : Nat → Nat) : xpRun τ .sn (Int.ofNat 8) true true [] 12 = true := by kernel_rfl
theorem xp_e7ft (τ : Nat → Nat) : xpRun τ .se (Int.ofNat 7) false true [] 12 = true := by kernel_rfl
theorem xp_p7tt (ty : Nat) (τ : Nat → Nat) : xpRun τ (bytesA 12 1 500) (Int.ofNat 7) true true [(12, bytesO 12 1 500 ty)] 14 = true := by kernel_rfl
theorem xp_s6tf (τ : Nat → Nat) : xpRun τ .sn (Int.ofNat 6) true false [] 12 = true := by kernel_rfl
theorem xp_e5ff (τ : Nat → Nat) : xpRun τ .se (Int.ofNat 5) false false [] 12 = true := by kernel_rfl
theorem xp_p5tf (ty : Nat) (τ : Nat → Nat) : xpRun τ (bytesA 12 1 500) (Int.ofNat 5) true false [(12, bytesO 12 1 500 ty)] 14 = true := by kernel_rfl
theorem xp_s4ft (τ : Nat → Nat) : xpRun τ .sn (Int.ofNat 4) false true [] 12 = true := by kernel_rfl
theorem xp_e4tt (τ : Nat → Nat) : xpRun τ .se (Int.ofNat 4) true true [] 12 = true := by kernel_rfl
theorem xp_p3ft (ty : Nat) (τ : Nat → Nat) : xpRun τ (bytesA 12 1 500) (Int.ofNat 3) false true [(12, bytesO 12 1 500 ty)] 14 = true := by kernel_rfl
theorem xp_s2ff (τ : Nat → Nat) : xpRun τ .sn (Int.ofNat 2) false false [] 12 = true := by kernel_rfl
theorem xp_e2tf (τ : Nat → Nat) : xpRun τ .se (Int.ofNat 2) true false [] 12 = true := by kernel_rfl
theorem xp_p1ff (ty : Nat) (τ : Nat → Nat) : xpRun τ (bytesA 12 1 500) (Int.ofNat 1) false false [(12, bytesO 12 1 500 ty)] 14 = true := by kernel_rfl
theorem xp_s1tt (τ : Nat → Nat) : xpRun τ .sn (Int.ofNat 1) true true [] 12 = true := by kernel_rfl
end
end Go.Proofs.YtidfafhlcmfdeaaGreatDoor
