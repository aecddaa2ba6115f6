/-
  Runs of execPipes, by the kernel (4 of 8). No condition.
-/
import Derived.Test.YtidfafhlcmfdeaaGreatDoorPRunexecPipes0
open Go Go.Mx
namespace Go.Proofs.YtidfafhlcmfdeaaGreatDoor
set_option maxRecDepth 1000000
noncomputable section
theorem xp_p10ff (ty : Nat) (τ : Nat → Nat) : xpRun τ (bytesA 12 1 500) (Int.ofNat 10) false false [(12, bytesO 12 1 500 ty)] 14 = true := by kernel_rfl
theorem xp_s10tt (τ : Nat → Nat) : xpRun τ .sn (Int.ofNat 10) true true [] 12 = true := by kernel_rfl
theorem xp_e9ft (τ : Nat → Nat) : xpRun τ .se (Int.ofNat 9) false true [] 12 = true := by kernel_rfl
theorem xp_p9tt (ty : Nat) (τ : Nat → Nat) : xpRun τ (bytesA 12 1 500) (Int.ofNat 9) true true [(12, bytesO 12 1 500 ty)] 14 = true := by kernel_rfl
theorem xp_s8tf (τ : Nat → Nat) : xpRun τ .sn (Int.ofNat 8) true false [] 12 = true := by kernel_rfl
theorem xp_e7ff (τ : Nat → Nat) : xpRun τ .se (Int.ofNat 7) false false [] 12 = true := by kernel_rfl
theorem xp_p7tf (ty : Nat) (τ : Nat → Nat) : xpRun τ (bytesA 12 1 500) (Int.ofNat 7) true false [(12, bytesO 12 1 500 ty)] 14 = true := by kernel_rfl
theorem xp_s6ft (τ : Nat → Nat) : xpRun τ .sn (Int.ofNat 6) false true [] 12 = true := by kernel_rfl
theorem xp_e6tt (τ : Nat → Nat) : xpRun τ .se (Int.ofNat 6) true true [] 12 = true := by kernel_rfl
theorem xp_p5ft (ty : Nat) (τ : Nat → Nat) : xpRun τ (bytesA 12 1 500) (Int.ofNat 5) false true [(12, bytesO 12 1 500 ty)] 14 = true := by kernel_rfl
theorem xp_s4ff (τ : Nat → Nat) : xpRun τ .sn (Int.ofNat 4) false false [] 12 = true := by kernel_rfl
theorem xp_e4tf (τ : Nat → Nat) : xpRun τ .se (Int.ofNat 4) true false [] 12 = true := by kernel_rfl
theorem xp_p3ff (ty : Nat) (τ : Nat → Nat) : xpRun τ (bytesA 12 1 500) (Int.ofNat 3) false false [(12, bytesO 12 1 500 ty)] 14 = true := by kernel_rfl
theorem xp_s3tt (τ : Nat → Nat) : xpRun τ .sn (Int.ofNat 3) true true [] 12 = true := by kernel_rfl
theorem xp_e2ft (τ : Nat → Nat) : xpRun τ .se (Int.ofNat 2) false true [] 12 = true := by kernel_rfl
theorem xp_p2tt (ty : Nat) (τ : Nat → Nat) : xpRun τ (bytesA 12 1 500) (Int.ofNat 2) true true [(12, bytesO 12 1 500 ty)] 14 = true := by kernel_rfl
theorem xp_s1tf (τ : Nat → Nat) : xpRun τ .sn (Int.ofNat 1) true false [] 12 = true := by kernel_rfl
end
end Go.Proofs.YtidfafhlcmfdeaaGreatDoor
