/-
  Runs of shellEndless, by the kernel (1 of 4). No condition.
-/
import Derived.Test.YtbkilngeedbkpaaGreatDoorHkG
import Derived.Test.YtbkilngeedbkpaaGreatDoorXMxAT
open Go Go.Mx
namespace Go.Proofs.YtbkilngeedbkpaaGreatDoor
set_option maxRecDepth 1000000
noncomputable section
def xeHint (r : Nat) : IHint := [(71, 4, 11, 7, r, [5, 6, 7, 8, 9, 10, 19, 20, 21, 22, 23, 24, 25, 26, 27, 28, 29, 30, 31, 32, 33, 34, 35, 36, 37, 38, 39, 40, 41, 42, 43, 44, 45, 46, 47, 48, 49, 50, 51, 52, 53, 54, 55, 56, 57, 58, 59, 60, 61, 62, 63, 64, 65, 66])]
def xeRun (r : Nat) (f w : V) (τ : Nat → Nat) : Bool := mkTK τ tbl .leaf (fun h0 => runI Tryz.prog 12 (hkL hkG) (xeHint r) 100000 3 (.cons f (.cons w .nil)) h0 13 (fun v _ _ => isB true v) (fun _ _ _ => false))
theorem xe_neg (m : Nat) (w : V) (τ : Nat → Nat) : xeRun 3 (.i .i64 (Int.negSucc m)) w τ = true := by kernel_rfl
theorem xe_big (m : Nat) (w : V) (τ : Nat → Nat) : xeRun 3 (.i .i64 (Int.ofNat (m + 2001))) w τ = true := by kernel_rfl
theorem xe_wneg (m : Nat) (τ : Nat → Nat) : xeRun 3 (.o 2 (.cons (.x 12 .i64 0 2000) .nil) 3 0 0) (.i .i64 (Int.negSucc m)) τ = true := by kernel_rfl
theorem xe_wbig (m : Nat) (τ : Nat → Nat) : xeRun 3 (.o 2 (.cons (.x 12 .i64 0 2000) .nil) 3 0 0) (.i .i64 (Int.ofNat (m + 8))) τ = true := by kernel_rfl
end
end Go.Proofs.YtbkilngeedbkpaaGreatDoor
