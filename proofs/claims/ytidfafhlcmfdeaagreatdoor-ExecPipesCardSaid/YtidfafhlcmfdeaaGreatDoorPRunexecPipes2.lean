/-
  Runs of execPipes, by the kernel (3 of 8). No condition.
-/
import Derived.Test.YtidfafhlcmfdeaaGreatDoorPRunexecPipes0
open Go Go.Mx
namespace Go.Proofs.YtidfafhlcmfdeaaGreatDoor
set_option maxRecDepth 1000000
noncomputable section
theorem xp_e10ff (τ : Nat → Nat) : xpRun τ .se (Int.ofNat 10) false false [] 12 = true := by kernel_rfl
theorem xp_p10tf (ty : Nat) (τ : Nat → Nat) : xpRun τ (bytesA 12 1 500) (Int.ofNat 10) true false [(12, bytesO 12 1 500 ty)] 14 = true := by kernel_rfl
theorem xp_s9ft (τ : Nat → Nat) : xpRun τ .sn (Int.ofNat 9) false true [] 12 = true := by kernel_rfl
theorem xp_e9tt (τ : Nat → Nat) : xpRun τ .se (Int.ofNat 9) true true [] 12 = true := by kernel_rfl
theorem xp_p8ft (ty : Nat) (τ : Nat → Nat) : xpRun τ (bytesA 12 1 500) (Int.ofNat 8) false true [(12, bytesO 12 1 500 ty)] 14 = true := by kernel_rfl
theorem xp_s7ff (τ : Nat → Nat) : xpRun τ .sn (Int.ofNat 7) false false [] 12 = true := by kernel_rfl
theorem xp_e7tf (τ : Nat → Nat) : xpRun τ .se (Int.ofNat 7) true false [] 12 = true := by kernel_rfl
theorem xp_p6ff (ty : Nat) (τ : Nat → Nat) : xpRun τ (bytesA 12 1 500) (Int.ofNat 6) false false [(12, bytesO 12 1 500 ty)] 14 = true := by kernel_rfl
theorem xp_s6tt (τ : Nat → Nat) : xpRun τ .sn (Int.ofNat 6) true true [] 12 = true := by kernel_rfl
theorem xp_e5ft (τ : Nat → Nat) : xpRun τ .se (Int.ofNat 5) false true [] 12 = true := by kernel_rfl
theorem xp_p5tt (ty : Nat) (τ : Nat → Nat) : xpRun τ (bytesA 12 1 500) (Int.ofNat 5) true true [(12, bytesO 12 1 500 ty)] 14 = true := by kernel_rfl
theorem xp_s4tf (τ : Nat → Nat) : xpRun τ .sn (Int.ofNat 4) true false [] 12 = true := by kernel_rfl
theorem xp_e3ff (τ : Nat → Nat) : xpRun τ .se (Int.ofNat 3) false false [] 12 = true := by kernel_rfl
theorem xp_p3tf (ty : Nat) (τ : Nat → Nat) : xpRun τ (bytesA 12 1 500) (Int.ofNat 3) true false [(12, bytesO 12 1 500 ty)] 14 = true := by kernel_rfl
theorem xp_s2ft (τ : Nat → Nat) : xpRun τ .sn (Int.ofNat 2) false true [] 12 = true := by kernel_rfl
theorem xp_e2tt (τ : Nat → Nat) : xpRun τ .se (Int.ofNat 2) true true [] 12 = true := by kernel_rfl
theorem xp_p1ft (ty : Nat) (τ : Nat → Nat) : xpRun τ (bytesA 12 1 500) (Int.ofNat 1) false true [(12, bytesO 12 1 500 ty)] 14 = true := by kernel_rfl
end
end Go.Proofs.YtidfafhlcmfdeaaGreatDoor
