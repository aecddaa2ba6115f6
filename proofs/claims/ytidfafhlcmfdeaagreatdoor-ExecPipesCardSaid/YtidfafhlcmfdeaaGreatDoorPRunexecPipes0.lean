/-
  Runs of execPipes, by the kernel (1 of 8). No condition.
-/
import Derived.Test.YtidfafhlcmfdeaaGreatDoorPHk
open Go Go.Mx
namespace Go.Proofs.YtidfafhlcmfdeaaGreatDoor
set_option maxRecDepth 1000000
noncomputable section
def xpRun (τ : Nat → Nat) (b : V) (n : Int) (p q : Bool) (ob : List (Nat × O)) (nx : Nat) : Bool := mkTK τ tbl (putO ob .leaf) (fun h0 => run Tryz.prog 12 (hkL hkB) 100000 5 (.cons b (.cons (.i .i64 n) (.cons (.b p) (.cons (.b q) .nil)))) h0 nx (fun v _ _ => isB true v) (fun _ _ _ => false))
theorem xp_sneg (m : Nat) (p q : Bool) (τ : Nat → Nat) : xpRun τ .sn (Int.negSucc m) p q [] 12 = true := by kernel_rfl
theorem xp_szero (p q : Bool) (τ : Nat → Nat) : xpRun τ .sn (Int.ofNat 0) p q [] 12 = true := by kernel_rfl
theorem xp_sbig (m : Nat) (p q : Bool) (τ : Nat → Nat) : xpRun τ .sn (Int.ofNat (m + 11)) p q [] 12 = true := by kernel_rfl
theorem xp_eneg (m : Nat) (p q : Bool) (τ : Nat → Nat) : xpRun τ .se (Int.negSucc m) p q [] 12 = true := by kernel_rfl
theorem xp_ezero (p q : Bool) (τ : Nat → Nat) : xpRun τ .se (Int.ofNat 0) p q [] 12 = true := by kernel_rfl
theorem xp_ebig (m : Nat) (p q : Bool) (τ : Nat → Nat) : xpRun τ .se (Int.ofNat (m + 11)) p q [] 12 = true := by kernel_rfl
theorem xp_pneg (ty : Nat) (m : Nat) (p q : Bool) (τ : Nat → Nat) : xpRun τ (bytesA 12 1 500) (Int.negSucc m) p q [(12, bytesO 12 1 500 ty)] 14 = true := by kernel_rfl
theorem xp_pzero (ty : Nat) (p q : Bool) (τ : Nat → Nat) : xpRun τ (bytesA 12 1 500) (Int.ofNat 0) p q [(12, bytesO 12 1 500 ty)] 14 = true := by kernel_rfl
theorem xp_pbig (ty : Nat) (m : Nat) (p q : Bool) (τ : Nat → Nat) : xpRun τ (bytesA 12 1 500) (Int.ofNat (m + 11)) p q [(12, bytesO 12 1 500 ty)] 14 = true := by kernel_rfl
theorem xp_long (ty : Nat) (n : Int) (p q : Bool) (τ : Nat → Nat) : xpRun τ (bytesA 12 501 9223372036854775807) n p q [(12, bytesO 12 501 9223372036854775807 ty)] 14 = true := by kernel_rfl
end
end Go.Proofs.YtidfafhlcmfdeaaGreatDoor
