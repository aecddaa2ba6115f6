/-
  Runs of quartermasterFiles, by the kernel (1 of 8). No condition.
-/
import Derived.Test.YtdkpggfooahnnaaGreatDoorHkY
import Derived.Test.YtdkpggfooahnnaaGreatDoorXMxAQ
import Derived.Test.YtdkpggfooahnnaaGreatDoorXRowK6
open Go Go.Mx
namespace Go.Proofs.YtdkpggfooahnnaaGreatDoor
set_option maxRecDepth 1000000
noncomputable section
def xyRun (τ : Nat → Nat) (x l : V) (ty : Nat) : Bool := mkTK τ tbl (putO [(12, .c l ty false)] .leaf) (fun h0 => run Tryz.prog 12 (hkL hkY) 100000 4 (.cons x .nil) h0 73 (fun v _ _ => isB true v) (fun _ _ _ => false))
def xyB (n j c ty : Nat) (τ : Nat → Nat) : Bool := xyRun τ (.sl 12 0 n 1) (lsG gdL (bdL c) n 13 j) ty
def Ls (n j : Nat) : Prop := ∀ (ty : Nat) (τ : Nat → Nat), xyB n j 100 ty τ = true
def Qs (n j q : Nat) : Prop := ∀ (ty : Nat) (τ : Nat → Nat), allN 25 (fun k => xyB n j (k + 25 * q) ty τ) = true
theorem xy_many (m : Nat) (ty : Nat) (τ : Nat → Nat) : xyRun τ (.sl 12 0 (m + 21) 1) .nil ty = true := by kernel_rfl
theorem xy_s (ty : Nat) (τ : Nat → Nat) : xyRun τ .sn .nil ty = true := by kernel_rfl
theorem xy_e (ty : Nat) (τ : Nat → Nat) : xyRun τ .se .nil ty = true := by kernel_rfl
end
end Go.Proofs.YtdkpggfooahnnaaGreatDoor
