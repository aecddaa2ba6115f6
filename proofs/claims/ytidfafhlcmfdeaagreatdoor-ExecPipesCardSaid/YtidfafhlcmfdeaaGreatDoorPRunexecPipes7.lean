/-
  Runs of execPipes, by the kernel (8 of 8). No condition.
-/
import Derived.Test.YtidfafhlcmfdeaaGreatDoorPRunexecPipes0
open Go Go.Mx
namespace Go.Proofs.YtidfafhlcmfdeaaGreatDoor
set_option maxRecDepth 1000000
noncomputable section
theorem xp_s10tf (τ : Nat → Nat) : xpRun τ .sn (Int.ofNat 10) true false [] 12 = true := by kernel_rfl
theorem xp_e9ff (τ : Nat → Nat) : xpRun τ .se (Int.ofNat 9) false false [] 12 = true := by kernel_rfl
theorem xp_p9tf (ty : Nat) (τ : Nat → Nat) : xpRun τ (bytesA 12 1 500) (Int.ofNat 9) true false [(12, bytesO 12 1 500 ty)] 14 = true := by kernel_rfl
theorem xp_s8ft (τ : Nat → Nat) : xpRun τ .sn (Int.ofNat 8) false true [] 12 = true := by kernel_rfl
theorem xp_e8tt (τ : Nat → Nat) : xpRun τ .se (Int.ofNat 8) true true [] 12 = true := by kernel_rfl
theorem xp_p7ft (ty : Nat) (τ : Nat → Nat) : xpRun τ (bytesA 12 1 500) (Int.ofNat 7) false true [(12, bytesO 12 1 500 ty)] 14 = true := by kernel_rfl
theorem xp_s6ff (τ : Nat → Nat) : xpRun τ .sn (Int.ofNat 6) false false [] 12 = true := by kernel_rfl
theorem xp_e6tf (τ : Nat → Nat) : xpRun τ .se (Int.ofNat 6) true false [] 12 = true := by kernel_rfl
theorem xp_p5ff (ty : Nat) (τ : Nat → Nat) : xpRun τ (bytesA 12 1 500) (Int.ofNat 5) false false [(12, bytesO 12 1 500 ty)] 14 = true := by kernel_rfl
theorem xp_s5tt (τ : Nat → Nat) : xpRun τ .sn (Int.ofNat 5) true true [] 12 = true := by kernel_rfl
theorem xp_e4ft (τ : Nat → Nat) : xpRun τ .se (Int.ofNat 4) false true [] 12 = true := by kernel_rfl
theorem xp_p4tt (ty : Nat) (τ : Nat → Nat) : xpRun τ (bytesA 12 1 500) (Int.ofNat 4) true true [(12, bytesO 12 1 500 ty)] 14 = true := by kernel_rfl
theorem xp_s3tf (τ : Nat → Nat) : xpRun τ .sn (Int.ofNat 3) true false [] 12 = true := by kernel_rfl
theorem xp_e2ff (τ : Nat → Nat) : xpRun τ .se (Int.ofNat 2) false false [] 12 = true := by kernel_rfl
theorem xp_p2tf (ty : Nat) (τ : Nat → Nat) : xpRun τ (bytesA 12 1 500) (Int.ofNat 2) true false [(12, bytesO 12 1 500 ty)] 14 = true := by kernel_rfl
theorem xp_s1ft (τ : Nat → Nat) : xpRun τ .sn (Int.ofNat 1) false true [] 12 = true := by kernel_rfl
theorem xp_e1tt (τ : Nat → Nat) : xpRun τ .se (Int.ofNat 1) true true [] 12 = true := by kernel_rfl
end
end Go.Proofs.YtidfafhlcmfdeaaGreatDoor
