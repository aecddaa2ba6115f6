/-
  Runs of execPipes, by the kernel (2 of 8). No condition.
-/
import Derived.Test.YtidfafhlcmfdeaaGreatDoorPRunexecPipes0
open Go Go.Mx
namespace Go.Proofs.YtidfafhlcmfdeaaGreatDoor
set_option maxRecDepth 1000000
noncomputable section
theorem xp_s10ff (τ : Nat → Nat) : xpRun τ .sn (Int.ofNat 10) false false [] 12 = true := by kernel_rfl
theorem xp_e10tf (τ : Nat → Nat) : xpRun τ .se (Int.ofNat 10) true false [] 12 = true := by kernel_rfl
theorem xp_p9ff (ty : Nat) (τ : Nat → Nat) : xpRun τ (bytesA 12 1 500) (Int.ofNat 9) false false [(12, bytesO 12 1 500 ty)] 14 = true := by kernel_rfl
theorem xp_s9tt (τ : Nat → Nat) : xpRun τ .sn (Int.ofNat 9) true true [] 12 = true := by kernel_rfl
theorem xp_e8ft (τ : Nat → Nat) : xpRun τ .se (Int.ofNat 8) false true [] 12 = true := by kernel_rfl
theorem xp_p8tt (ty : Nat) (τ : Nat → Nat) : xpRun τ (bytesA 12 1 500) (Int.ofNat 8) true true [(12, bytesO 12 1 500 ty)] 14 = true := by kernel_rfl
theorem xp_s7tf (τ : Nat → Nat) : xpRun τ .sn (Int.ofNat 7) true false [] 12 = true := by kernel_rfl
theorem xp_e6ff (τ : Nat → Nat) : xpRun τ .se (Int.ofNat 6) false false [] 12 = true := by kernel_rfl
theorem xp_p6tf (ty : Nat) (τ : Nat → Nat) : xpRun τ (bytesA 12 1 500) (Int.ofNat 6) true false [(12, bytesO 12 1 500 ty)] 14 = true := by kernel_rfl
theorem xp_s5ft (τ : Nat → Nat) : xpRun τ .sn (Int.ofNat 5) false true [] 12 = true := by kernel_rfl
theorem xp_e5tt (τ : Nat → Nat) : xpRun τ .se (Int.ofNat 5) true true [] 12 = true := by kernel_rfl
theorem xp_p4ft (ty : Nat) (τ : Nat → Nat) : xpRun τ (bytesA 12 1 500) (Int.ofNat 4) false true [(12, bytesO 12 1 500 ty)] 14 = true := by kernel_rfl
theorem xp_s3ff (τ : Nat → Nat) : xpRun τ .sn (Int.ofNat 3) false false [] 12 = true := by kernel_rfl
theorem xp_e3tf (τ : Nat → Nat) : xpRun τ .se (Int.ofNat 3) true false [] 12 = true := by kernel_rfl
theorem xp_p2ff (ty : Nat) (τ : Nat → Nat) : xpRun τ (bytesA 12 1 500) (Int.ofNat 2) false false [(12, bytesO 12 1 500 ty)] 14 = true := by kernel_rfl
theorem xp_s2tt (τ : Nat → Nat) : xpRun τ .sn (Int.ofNat 2) true true [] 12 = true := by kernel_rfl
theorem xp_e1ft (τ : Nat → Nat) : xpRun τ .se (Int.ofNat 1) false true [] 12 = true := by kernel_rfl
theorem xp_p1tt (ty : Nat) (τ : Nat → Nat) : xpRun τ (bytesA 12 1 500) (Int.ofNat 1) true true [(12, bytesO 12 1 500 ty)] 14 = true := by kernel_rfl
end
end Go.Proofs.YtidfafhlcmfdeaaGreatDoor
