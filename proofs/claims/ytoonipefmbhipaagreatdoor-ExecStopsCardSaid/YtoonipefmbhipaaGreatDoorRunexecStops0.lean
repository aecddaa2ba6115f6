/-
  Runs of execStops, by the kernel (1 of 13). No condition.
-/
import Derived.Test.YtoonipefmbhipaaGreatDoorHkC
open Go Go.Mx
namespace Go.Proofs.YtoonipefmbhipaaGreatDoor
set_option maxRecDepth 1000000
noncomputable section
def xsRun (hk : List (Nat × HookF)) (τ : Nat → Nat) (a b : V) (nx : Nat) : Bool := mkTK τ tbl .leaf (fun h0 => run Tryz.prog 12 (hkL hk) 100000 3 (.cons a (.cons b .nil)) h0 nx (fun v _ _ => isB true v) (fun _ _ _ => false))
theorem xs_lo (τ : Nat → Nat) : xsRun hkC0 τ .nil (rngV 12 18446744073709551615 0) 13 = true := by kernel_rfl
theorem xs_hi (τ : Nat → Nat) : xsRun hkC0 τ .nil (rngV 12 512 18446744073709551614) 13 = true := by kernel_rfl
theorem xs_wn (m : Nat) (τ : Nat → Nat) : xsRun hkC0 τ (.i .i64 (Int.negSucc m)) (rngV 12 2 510) 13 = true := by kernel_rfl
theorem xs_wb (m : Nat) (τ : Nat → Nat) : xsRun hkC0 τ (.i .i64 (Int.ofNat (m + 12))) (rngV 12 2 510) 13 = true := by kernel_rfl
end
end Go.Proofs.YtoonipefmbhipaaGreatDoor
