/-
  Runs of buildFails, by the kernel (1 of 17). No condition.
-/
import Derived.Test.YtbkilngeedbkpaaGreatDoorHkG
open Go Go.Mx
namespace Go.Proofs.YtbkilngeedbkpaaGreatDoor
set_option maxRecDepth 1000000
noncomputable section
def xbRun (τ : Nat → Nat) (n b k i : V) : Bool := mkTK τ tbl .leaf (fun h0 => run Tryz.prog 12 (hkL hkG) 100000 5 (.cons n (.cons b (.cons k (.cons i .nil)))) h0 12 (fun v _ _ => isB true v) (fun _ _ _ => false))
theorem xb_neg (m : Nat) (b : V) (τ : Nat → Nat) : xbRun τ (.i .i64 (Int.negSucc m)) b .nil .nil = true := by kernel_rfl
theorem xb_zero (b : V) (τ : Nat → Nat) : xbRun τ (.i .i64 (Int.ofNat 0)) b .nil .nil = true := by kernel_rfl
theorem xb_big (m : Nat) (b : V) (τ : Nat → Nat) : xbRun τ (.i .i64 (Int.ofNat (m + 13))) b .nil .nil = true := by kernel_rfl
theorem xb_n1 (m : Nat) (τ : Nat → Nat) : xbRun τ (.i .i64 (Int.ofNat 1)) (.i .i64 (Int.negSucc m)) .nil .nil = true := by kernel_rfl
theorem xb_m1 (m : Nat) (τ : Nat → Nat) : xbRun τ (.i .i64 (Int.ofNat 1)) (.i .i64 (Int.ofNat (m + 1))) .nil .nil = true := by kernel_rfl
theorem xb_n2 (m : Nat) (τ : Nat → Nat) : xbRun τ (.i .i64 (Int.ofNat 2)) (.i .i64 (Int.negSucc m)) .nil .nil = true := by kernel_rfl
theorem xb_m2 (m : Nat) (τ : Nat → Nat) : xbRun τ (.i .i64 (Int.ofNat 2)) (.i .i64 (Int.ofNat (m + 2))) .nil .nil = true := by kernel_rfl
theorem xb_n3 (m : Nat) (τ : Nat → Nat) : xbRun τ (.i .i64 (Int.ofNat 3)) (.i .i64 (Int.negSucc m)) .nil .nil = true := by kernel_rfl
theorem xb_m3 (m : Nat) (τ : Nat → Nat) : xbRun τ (.i .i64 (Int.ofNat 3)) (.i .i64 (Int.ofNat (m + 3))) .nil .nil = true := by kernel_rfl
theorem xb_n4 (m : Nat) (τ : Nat → Nat) : xbRun τ (.i .i64 (Int.ofNat 4)) (.i .i64 (Int.negSucc m)) .nil .nil = true := by kernel_rfl
theorem xb_m4 (m : Nat) (τ : Nat → Nat) : xbRun τ (.i .i64 (Int.ofNat 4)) (.i .i64 (Int.ofNat (m + 4))) .nil .nil = true := by kernel_rfl
theorem xb_n5 (m : Nat) (τ : Nat → Nat) : xbRun τ (.i .i64 (Int.ofNat 5)) (.i .i64 (Int.negSucc m)) .nil .nil = true := by kernel_rfl
theorem xb_m5 (m : Nat) (τ : Nat → Nat) : xbRun τ (.i .i64 (Int.ofNat 5)) (.i .i64 (Int.ofNat (m + 5))) .nil .nil = true := by kernel_rfl
theorem xb_n6 (m : Nat) (τ : Nat → Nat) : xbRun τ (.i .i64 (Int.ofNat 6)) (.i .i64 (Int.negSucc m)) .nil .nil = true := by kernel_rfl
theorem xb_m6 (m : Nat) (τ : Nat → Nat) : xbRun τ (.i .i64 (Int.ofNat 6)) (.i .i64 (Int.ofNat (m + 6))) .nil .nil = true := by kernel_rfl
theorem xb_n7 (m : Nat) (τ : Nat → Nat) : xbRun τ (.i .i64 (Int.ofNat 7)) (.i .i64 (Int.negSucc m)) .nil .nil = true := by kernel_rfl
theorem xb_m7 (m : Nat) (τ : Nat → Nat) : xbRun τ (.i .i64 (Int.ofNat 7)) (.i .i64 (Int.ofNat (m + 7))) .nil .nil = true := by kernel_rfl
theorem xb_n8 (m : Nat) (τ : Nat → Nat) : xbRun τ (.i .i64 (Int.ofNat 8)) (.i .i64 (Int.negSucc m)) .nil .nil = true := by kernel_rfl
theorem xb_m8 (m : Nat) (τ : Nat → Nat) : xbRun τ (.i .i64 (Int.ofNat 8)) (.i .i64 (Int.ofNat (m + 8))) .nil .nil = true := by kernel_rfl
theorem xb_n9 (m : Nat) (τ : Nat → Nat) : xbRun τ (.i .i64 (Int.ofNat 9)) (.i .i64 (Int.negSucc m)) .nil .nil = true := by kernel_rfl
theorem xb_m9 (m : Nat) (τ : Nat → Nat) : xbRun τ (.i .i64 (Int.ofNat 9)) (.i .i64 (Int.ofNat (m + 9))) .nil .nil = true := by kernel_rfl
theorem xb_n10 (m : Nat) (τ : Nat → Nat) : xbRun τ (.i .i64 (Int.ofNat 10)) (.i .i64 (Int.negSucc m)) .nil .nil = true := by kernel_rfl
theorem xb_m10 (m : Nat) (τ : Nat → Nat) : xbRun τ (.i .i64 (Int.ofNat 10)) (.i .i64 (Int.ofNat (m + 10))) .nil .nil = true := by kernel_rfl
theorem xb_n11 (m : Nat) (τ : Nat → Nat) : xbRun τ (.i .i64 (Int.ofNat 11)) (.i .i64 (Int.negSucc m)) .nil .nil = true := by kernel_rfl
theorem xb_m11 (m : Nat) (τ : Nat → Nat) : xbRun τ (.i .i64 (Int.ofNat 11)) (.i .i64 (Int.ofNat (m + 11))) .nil .nil = true := by kernel_rfl
theorem xb_n12 (m : Nat) (τ : Nat → Nat) : xbRun τ (.i .i64 (Int.ofNat 12)) (.i .i64 (Int.negSucc m)) .nil .nil = true := by kernel_rfl
theorem xb_m12 (m : Nat) (τ : Nat → Nat) : xbRun τ (.i .i64 (Int.ofNat 12)) (.i .i64 (Int.ofNat (m + 12))) .nil .nil = true := by kernel_rfl
end
end Go.Proofs.YtbkilngeedbkpaaGreatDoor
