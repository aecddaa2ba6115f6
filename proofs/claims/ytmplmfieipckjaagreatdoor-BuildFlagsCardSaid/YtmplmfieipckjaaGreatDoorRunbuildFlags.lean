/-
  The runs of buildFlags, by the kernel: at every input. No condition.
-/
import Derived.Test.YtmplmfieipckjaaGreatDoorHk
open Go Go.Mx
namespace Go.Proofs.YtmplmfieipckjaaGreatDoor
set_option maxRecDepth 1000000
noncomputable section
abbrev bfRun (old : Bool) (n : Int) : Prop := ∀ τ, mkTK τ tbl .leaf (fun h0 => run Tryz.prog 12 (hkL hkB) 100000 3 (.cons (.b old) (.cons (.i .i64 n) .nil)) h0 12 (fun v _ _ => isB true v) (fun _ _ _ => false)) = true
theorem bfNeg (old : Bool) (m : Nat) : bfRun old (.negSucc m) := fun _ => by kernel_rfl
theorem bfBig (old : Bool) (m : Nat) : bfRun old (.ofNat (m + 3)) := fun _ => by kernel_rfl
theorem bf0f : bfRun false (.ofNat 0) := fun _ => by kernel_rfl
theorem bf0t : bfRun true (.ofNat 0) := fun _ => by kernel_rfl
theorem bf1f : bfRun false (.ofNat 1) := fun _ => by kernel_rfl
theorem bf1t : bfRun true (.ofNat 1) := fun _ => by kernel_rfl
theorem bf2f : bfRun false (.ofNat 2) := fun _ => by kernel_rfl
theorem bf2t : bfRun true (.ofNat 2) := fun _ => by kernel_rfl
theorem bfAll (old : Bool) (n : Int) : bfRun old n := by
  cases n with
  | negSucc m => exact bfNeg old m
  | ofNat k =>
    match k with
    | 0 => cases old with
      | false => exact bf0f
      | true => exact bf0t
    | 1 => cases old with
      | false => exact bf1f
      | true => exact bf1t
    | 2 => cases old with
      | false => exact bf2f
      | true => exact bf2t
    | m + 3 => exact bfBig old m
end
end Go.Proofs.YtmplmfieipckjaaGreatDoor
