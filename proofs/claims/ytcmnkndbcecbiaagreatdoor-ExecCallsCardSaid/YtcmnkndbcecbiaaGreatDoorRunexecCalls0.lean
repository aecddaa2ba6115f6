/-
  Runs of execCalls, by the kernel (1 of 9). No condition.
-/
import Derived.Test.YtcmnkndbcecbiaaGreatDoorHkS
import Derived.Test.YtcmnkndbcecbiaaGreatDoorXRowK6
open Go Go.Mx
namespace Go.Proofs.YtcmnkndbcecbiaaGreatDoor
set_option maxRecDepth 1000000
noncomputable section
def lk : LH := [(134, 13, 0, 10, 10, [57, 58, 59, 60, 61, 62, 63, 64, 65, 66, 67, 68, 69, 70, 71, 72, 73, 74, 75, 76, 77, 78, 79, 80, 81, 82], 97, 122)]
def xlRun (hk : List (Nat × HookF)) (τ : Nat → Nat) (x l s : V) (ty : Nat) : Bool := mkTK τ tbl (putO [(12, .c l ty false)] .leaf) (fun h0 => runL Tryz.prog 12 (hkL hk) lk 100000 5 (.cons x (.cons s .nil)) h0 39 (fun v _ _ => isB true v) (fun _ _ _ => false))
theorem xl_many (m : Nat) (ty : Nat) (τ : Nat → Nat) : xlRun hkS6 τ (.sl 12 0 (m + 9) 1) .nil (.x 37 .i64 0 255) ty = true := by kernel_rfl
theorem xl_manyN (m q : Nat) (ty : Nat) (τ : Nat → Nat) : xlRun hkS6 τ (.sl 12 0 (m + 9) 1) .nil (.i .i64 (Int.negSucc q)) ty = true := by kernel_rfl
theorem xl_manyB (m q : Nat) (ty : Nat) (τ : Nat → Nat) : xlRun hkS6 τ (.sl 12 0 (m + 9) 1) .nil (.i .i64 (Int.ofNat (q + 256))) ty = true := by kernel_rfl
theorem xl_ngs (m : Nat) (ty : Nat) (τ : Nat → Nat) : xlRun hkS6 τ .sn .nil (.i .i64 (Int.negSucc m)) ty = true := by kernel_rfl
theorem xl_bgs (m : Nat) (ty : Nat) (τ : Nat → Nat) : xlRun hkS6 τ .sn .nil (.i .i64 (Int.ofNat (m + 256))) ty = true := by kernel_rfl
theorem xl_nge (m : Nat) (ty : Nat) (τ : Nat → Nat) : xlRun hkS6 τ .se .nil (.i .i64 (Int.negSucc m)) ty = true := by kernel_rfl
theorem xl_bge (m : Nat) (ty : Nat) (τ : Nat → Nat) : xlRun hkS6 τ .se .nil (.i .i64 (Int.ofNat (m + 256))) ty = true := by kernel_rfl
theorem xl_ng1 (m : Nat) (ty : Nat) (τ : Nat → Nat) : xlRun hkS6 τ (.sl 12 0 1 1) .nil (.i .i64 (Int.negSucc m)) ty = true := by kernel_rfl
theorem xl_bg1 (m : Nat) (ty : Nat) (τ : Nat → Nat) : xlRun hkS6 τ (.sl 12 0 1 1) .nil (.i .i64 (Int.ofNat (m + 256))) ty = true := by kernel_rfl
theorem xl_ng2 (m : Nat) (ty : Nat) (τ : Nat → Nat) : xlRun hkS6 τ (.sl 12 0 2 1) .nil (.i .i64 (Int.negSucc m)) ty = true := by kernel_rfl
theorem xl_bg2 (m : Nat) (ty : Nat) (τ : Nat → Nat) : xlRun hkS6 τ (.sl 12 0 2 1) .nil (.i .i64 (Int.ofNat (m + 256))) ty = true := by kernel_rfl
theorem xl_ng3 (m : Nat) (ty : Nat) (τ : Nat → Nat) : xlRun hkS6 τ (.sl 12 0 3 1) .nil (.i .i64 (Int.negSucc m)) ty = true := by kernel_rfl
theorem xl_bg3 (m : Nat) (ty : Nat) (τ : Nat → Nat) : xlRun hkS6 τ (.sl 12 0 3 1) .nil (.i .i64 (Int.ofNat (m + 256))) ty = true := by kernel_rfl
theorem xl_ng4 (m : Nat) (ty : Nat) (τ : Nat → Nat) : xlRun hkS6 τ (.sl 12 0 4 1) .nil (.i .i64 (Int.negSucc m)) ty = true := by kernel_rfl
theorem xl_bg4 (m : Nat) (ty : Nat) (τ : Nat → Nat) : xlRun hkS6 τ (.sl 12 0 4 1) .nil (.i .i64 (Int.ofNat (m + 256))) ty = true := by kernel_rfl
theorem xl_ng5 (m : Nat) (ty : Nat) (τ : Nat → Nat) : xlRun hkS6 τ (.sl 12 0 5 1) .nil (.i .i64 (Int.negSucc m)) ty = true := by kernel_rfl
theorem xl_bg5 (m : Nat) (ty : Nat) (τ : Nat → Nat) : xlRun hkS6 τ (.sl 12 0 5 1) .nil (.i .i64 (Int.ofNat (m + 256))) ty = true := by kernel_rfl
theorem xl_ng6 (m : Nat) (ty : Nat) (τ : Nat → Nat) : xlRun hkS6 τ (.sl 12 0 6 1) .nil (.i .i64 (Int.negSucc m)) ty = true := by kernel_rfl
theorem xl_bg6 (m : Nat) (ty : Nat) (τ : Nat → Nat) : xlRun hkS6 τ (.sl 12 0 6 1) .nil (.i .i64 (Int.ofNat (m + 256))) ty = true := by kernel_rfl
theorem xl_ng7 (m : Nat) (ty : Nat) (τ : Nat → Nat) : xlRun hkS6 τ (.sl 12 0 7 1) .nil (.i .i64 (Int.negSucc m)) ty = true := by kernel_rfl
theorem xl_bg7 (m : Nat) (ty : Nat) (τ : Nat → Nat) : xlRun hkS6 τ (.sl 12 0 7 1) .nil (.i .i64 (Int.ofNat (m + 256))) ty = true := by kernel_rfl
theorem xl_ng8 (m : Nat) (ty : Nat) (τ : Nat → Nat) : xlRun hkS6 τ (.sl 12 0 8 1) .nil (.i .i64 (Int.negSucc m)) ty = true := by kernel_rfl
theorem xl_bg8 (m : Nat) (ty : Nat) (τ : Nat → Nat) : xlRun hkS6 τ (.sl 12 0 8 1) .nil (.i .i64 (Int.ofNat (m + 256))) ty = true := by kernel_rfl
theorem xl_l1_0_0 (ty : Nat) (τ : Nat → Nat) : xlRun hkS6 τ (.sl 12 0 1 1) (lstV M 97 122 40 0 1 13 0) (.x 37 .i64 0 255) ty = true := by kernel_rfl
theorem xl_l1_0_2 (ty : Nat) (τ : Nat → Nat) : xlRun hkS6 τ (.sl 12 0 1 1) (lstV M 97 122 40 2 1 13 0) (.x 37 .i64 0 255) ty = true := by kernel_rfl
theorem xl_l1_0_3 (ty : Nat) (τ : Nat → Nat) : xlRun hkS6 τ (.sl 12 0 1 1) (lstV M 97 122 40 3 1 13 0) (.x 37 .i64 0 255) ty = true := by kernel_rfl
theorem xl_l1_0_4 (ty : Nat) (τ : Nat → Nat) : xlRun hkS6 τ (.sl 12 0 1 1) (lstV M 97 122 40 4 1 13 0) (.x 37 .i64 0 255) ty = true := by kernel_rfl
theorem xl_l2_0_0 (ty : Nat) (τ : Nat → Nat) : xlRun hkS6 τ (.sl 12 0 2 1) (lstV M 97 122 40 0 2 13 0) (.x 37 .i64 0 255) ty = true := by kernel_rfl
theorem xl_l2_0_2 (ty : Nat) (τ : Nat → Nat) : xlRun hkS6 τ (.sl 12 0 2 1) (lstV M 97 122 40 2 2 13 0) (.x 37 .i64 0 255) ty = true := by kernel_rfl
theorem xl_l2_0_3 (ty : Nat) (τ : Nat → Nat) : xlRun hkS6 τ (.sl 12 0 2 1) (lstV M 97 122 40 3 2 13 0) (.x 37 .i64 0 255) ty = true := by kernel_rfl
theorem xl_l2_0_4 (ty : Nat) (τ : Nat → Nat) : xlRun hkS6 τ (.sl 12 0 2 1) (lstV M 97 122 40 4 2 13 0) (.x 37 .i64 0 255) ty = true := by kernel_rfl
theorem xl_l2_1_0 (ty : Nat) (τ : Nat → Nat) : xlRun hkS6 τ (.sl 12 0 2 1) (lstV M 97 122 40 0 2 13 1) (.x 37 .i64 0 255) ty = true := by kernel_rfl
theorem xl_l2_1_2 (ty : Nat) (τ : Nat → Nat) : xlRun hkS6 τ (.sl 12 0 2 1) (lstV M 97 122 40 2 2 13 1) (.x 37 .i64 0 255) ty = true := by kernel_rfl
theorem xl_l2_1_3 (ty : Nat) (τ : Nat → Nat) : xlRun hkS6 τ (.sl 12 0 2 1) (lstV M 97 122 40 3 2 13 1) (.x 37 .i64 0 255) ty = true := by kernel_rfl
theorem xl_l2_1_4 (ty : Nat) (τ : Nat → Nat) : xlRun hkS6 τ (.sl 12 0 2 1) (lstV M 97 122 40 4 2 13 1) (.x 37 .i64 0 255) ty = true := by kernel_rfl
theorem xl_l3_0_0 (ty : Nat) (τ : Nat → Nat) : xlRun hkS6 τ (.sl 12 0 3 1) (lstV M 97 122 40 0 3 13 0) (.x 37 .i64 0 255) ty = true := by kernel_rfl
theorem xl_l3_0_2 (ty : Nat) (τ : Nat → Nat) : xlRun hkS6 τ (.sl 12 0 3 1) (lstV M 97 122 40 2 3 13 0) (.x 37 .i64 0 255) ty = true := by kernel_rfl
theorem xl_l3_0_3 (ty : Nat) (τ : Nat → Nat) : xlRun hkS6 τ (.sl 12 0 3 1) (lstV M 97 122 40 3 3 13 0) (.x 37 .i64 0 255) ty = true := by kernel_rfl
theorem xl_l3_0_4 (ty : Nat) (τ : Nat → Nat) : xlRun hkS6 τ (.sl 12 0 3 1) (lstV M 97 122 40 4 3 13 0) (.x 37 .i64 0 255) ty = true := by kernel_rfl
theorem xl_l3_1_0 (ty : Nat) (τ : Nat → Nat) : xlRun hkS6 τ (.sl 12 0 3 1) (lstV M 97 122 40 0 3 13 1) (.x 37 .i64 0 255) ty = true := by kernel_rfl
theorem xl_l3_1_2 (ty : Nat) (τ : Nat → Nat) : xlRun hkS6 τ (.sl 12 0 3 1) (lstV M 97 122 40 2 3 13 1) (.x 37 .i64 0 255) ty = true := by kernel_rfl
theorem xl_l3_1_3 (ty : Nat) (τ : Nat → Nat) : xlRun hkS6 τ (.sl 12 0 3 1) (lstV M 97 122 40 3 3 13 1) (.x 37 .i64 0 255) ty = true := by kernel_rfl
theorem xl_l3_1_4 (ty : Nat) (τ : Nat → Nat) : xlRun hkS6 τ (.sl 12 0 3 1) (lstV M 97 122 40 4 3 13 1) (.x 37 .i64 0 255) ty = true := by kernel_rfl
theorem xl_l3_2_0 (ty : Nat) (τ : Nat → Nat) : xlRun hkS6 τ (.sl 12 0 3 1) (lstV M 97 122 40 0 3 13 2) (.x 37 .i64 0 255) ty = true := by kernel_rfl
theorem xl_l3_2_2 (ty : Nat) (τ : Nat → Nat) : xlRun hkS6 τ (.sl 12 0 3 1) (lstV M 97 122 40 2 3 13 2) (.x 37 .i64 0 255) ty = true := by kernel_rfl
theorem xl_l3_2_3 (ty : Nat) (τ : Nat → Nat) : xlRun hkS6 τ (.sl 12 0 3 1) (lstV M 97 122 40 3 3 13 2) (.x 37 .i64 0 255) ty = true := by kernel_rfl
theorem xl_l3_2_4 (ty : Nat) (τ : Nat → Nat) : xlRun hkS6 τ (.sl 12 0 3 1) (lstV M 97 122 40 4 3 13 2) (.x 37 .i64 0 255) ty = true := by kernel_rfl
theorem xl_l4_0_0 (ty : Nat) (τ : Nat → Nat) : xlRun hkS6 τ (.sl 12 0 4 1) (lstV M 97 122 40 0 4 13 0) (.x 37 .i64 0 255) ty = true := by kernel_rfl
theorem xl_l4_0_2 (ty : Nat) (τ : Nat → Nat) : xlRun hkS6 τ (.sl 12 0 4 1) (lstV M 97 122 40 2 4 13 0) (.x 37 .i64 0 255) ty = true := by kernel_rfl
theorem xl_l4_0_3 (ty : Nat) (τ : Nat → Nat) : xlRun hkS6 τ (.sl 12 0 4 1) (lstV M 97 122 40 3 4 13 0) (.x 37 .i64 0 255) ty = true := by kernel_rfl
theorem xl_l4_0_4 (ty : Nat) (τ : Nat → Nat) : xlRun hkS6 τ (.sl 12 0 4 1) (lstV M 97 122 40 4 4 13 0) (.x 37 .i64 0 255) ty = true := by kernel_rfl
theorem xl_l4_1_0 (ty : Nat) (τ : Nat → Nat) : xlRun hkS6 τ (.sl 12 0 4 1) (lstV M 97 122 40 0 4 13 1) (.x 37 .i64 0 255) ty = true := by kernel_rfl
theorem xl_l4_1_2 (ty : Nat) (τ : Nat → Nat) : xlRun hkS6 τ (.sl 12 0 4 1) (lstV M 97 122 40 2 4 13 1) (.x 37 .i64 0 255) ty = true := by kernel_rfl
theorem xl_l4_1_3 (ty : Nat) (τ : Nat → Nat) : xlRun hkS6 τ (.sl 12 0 4 1) (lstV M 97 122 40 3 4 13 1) (.x 37 .i64 0 255) ty = true := by kernel_rfl
theorem xl_l4_1_4 (ty : Nat) (τ : Nat → Nat) : xlRun hkS6 τ (.sl 12 0 4 1) (lstV M 97 122 40 4 4 13 1) (.x 37 .i64 0 255) ty = true := by kernel_rfl
theorem xl_l4_2_0 (ty : Nat) (τ : Nat → Nat) : xlRun hkS6 τ (.sl 12 0 4 1) (lstV M 97 122 40 0 4 13 2) (.x 37 .i64 0 255) ty = true := by kernel_rfl
theorem xl_l4_2_2 (ty : Nat) (τ : Nat → Nat) : xlRun hkS6 τ (.sl 12 0 4 1) (lstV M 97 122 40 2 4 13 2) (.x 37 .i64 0 255) ty = true := by kernel_rfl
theorem xl_l4_2_3 (ty : Nat) (τ : Nat → Nat) : xlRun hkS6 τ (.sl 12 0 4 1) (lstV M 97 122 40 3 4 13 2) (.x 37 .i64 0 255) ty = true := by kernel_rfl
theorem xl_l4_2_4 (ty : Nat) (τ : Nat → Nat) : xlRun hkS6 τ (.sl 12 0 4 1) (lstV M 97 122 40 4 4 13 2) (.x 37 .i64 0 255) ty = true := by kernel_rfl
theorem xl_l4_3_0 (ty : Nat) (τ : Nat → Nat) : xlRun hkS6 τ (.sl 12 0 4 1) (lstV M 97 122 40 0 4 13 3) (.x 37 .i64 0 255) ty = true := by kernel_rfl
theorem xl_l4_3_2 (ty : Nat) (τ : Nat → Nat) : xlRun hkS6 τ (.sl 12 0 4 1) (lstV M 97 122 40 2 4 13 3) (.x 37 .i64 0 255) ty = true := by kernel_rfl
theorem xl_l4_3_3 (ty : Nat) (τ : Nat → Nat) : xlRun hkS6 τ (.sl 12 0 4 1) (lstV M 97 122 40 3 4 13 3) (.x 37 .i64 0 255) ty = true := by kernel_rfl
theorem xl_l4_3_4 (ty : Nat) (τ : Nat → Nat) : xlRun hkS6 τ (.sl 12 0 4 1) (lstV M 97 122 40 4 4 13 3) (.x 37 .i64 0 255) ty = true := by kernel_rfl
theorem xl_l5_0_0 (ty : Nat) (τ : Nat → Nat) : xlRun hkS6 τ (.sl 12 0 5 1) (lstV M 97 122 40 0 5 13 0) (.x 37 .i64 0 255) ty = true := by kernel_rfl
theorem xl_l5_0_2 (ty : Nat) (τ : Nat → Nat) : xlRun hkS6 τ (.sl 12 0 5 1) (lstV M 97 122 40 2 5 13 0) (.x 37 .i64 0 255) ty = true := by kernel_rfl
theorem xl_l5_0_3 (ty : Nat) (τ : Nat → Nat) : xlRun hkS6 τ (.sl 12 0 5 1) (lstV M 97 122 40 3 5 13 0) (.x 37 .i64 0 255) ty = true := by kernel_rfl
theorem xl_l5_0_4 (ty : Nat) (τ : Nat → Nat) : xlRun hkS6 τ (.sl 12 0 5 1) (lstV M 97 122 40 4 5 13 0) (.x 37 .i64 0 255) ty = true := by kernel_rfl
theorem xl_l5_1_0 (ty : Nat) (τ : Nat → Nat) : xlRun hkS6 τ (.sl 12 0 5 1) (lstV M 97 122 40 0 5 13 1) (.x 37 .i64 0 255) ty = true := by kernel_rfl
theorem xl_l5_1_2 (ty : Nat) (τ : Nat → Nat) : xlRun hkS6 τ (.sl 12 0 5 1) (lstV M 97 122 40 2 5 13 1) (.x 37 .i64 0 255) ty = true := by kernel_rfl
theorem xl_l5_1_3 (ty : Nat) (τ : Nat → Nat) : xlRun hkS6 τ (.sl 12 0 5 1) (lstV M 97 122 40 3 5 13 1) (.x 37 .i64 0 255) ty = true := by kernel_rfl
theorem xl_l5_1_4 (ty : Nat) (τ : Nat → Nat) : xlRun hkS6 τ (.sl 12 0 5 1) (lstV M 97 122 40 4 5 13 1) (.x 37 .i64 0 255) ty = true := by kernel_rfl
theorem xl_l5_2_0 (ty : Nat) (τ : Nat → Nat) : xlRun hkS6 τ (.sl 12 0 5 1) (lstV M 97 122 40 0 5 13 2) (.x 37 .i64 0 255) ty = true := by kernel_rfl
theorem xl_l5_2_2 (ty : Nat) (τ : Nat → Nat) : xlRun hkS6 τ (.sl 12 0 5 1) (lstV M 97 122 40 2 5 13 2) (.x 37 .i64 0 255) ty = true := by kernel_rfl
theorem xl_l5_2_3 (ty : Nat) (τ : Nat → Nat) : xlRun hkS6 τ (.sl 12 0 5 1) (lstV M 97 122 40 3 5 13 2) (.x 37 .i64 0 255) ty = true := by kernel_rfl
theorem xl_l5_2_4 (ty : Nat) (τ : Nat → Nat) : xlRun hkS6 τ (.sl 12 0 5 1) (lstV M 97 122 40 4 5 13 2) (.x 37 .i64 0 255) ty = true := by kernel_rfl
theorem xl_l5_3_0 (ty : Nat) (τ : Nat → Nat) : xlRun hkS6 τ (.sl 12 0 5 1) (lstV M 97 122 40 0 5 13 3) (.x 37 .i64 0 255) ty = true := by kernel_rfl
theorem xl_l5_3_2 (ty : Nat) (τ : Nat → Nat) : xlRun hkS6 τ (.sl 12 0 5 1) (lstV M 97 122 40 2 5 13 3) (.x 37 .i64 0 255) ty = true := by kernel_rfl
theorem xl_l5_3_3 (ty : Nat) (τ : Nat → Nat) : xlRun hkS6 τ (.sl 12 0 5 1) (lstV M 97 122 40 3 5 13 3) (.x 37 .i64 0 255) ty = true := by kernel_rfl
theorem xl_l5_3_4 (ty : Nat) (τ : Nat → Nat) : xlRun hkS6 τ (.sl 12 0 5 1) (lstV M 97 122 40 4 5 13 3) (.x 37 .i64 0 255) ty = true := by kernel_rfl
theorem xl_l5_4_0 (ty : Nat) (τ : Nat → Nat) : xlRun hkS6 τ (.sl 12 0 5 1) (lstV M 97 122 40 0 5 13 4) (.x 37 .i64 0 255) ty = true := by kernel_rfl
theorem xl_l5_4_2 (ty : Nat) (τ : Nat → Nat) : xlRun hkS6 τ (.sl 12 0 5 1) (lstV M 97 122 40 2 5 13 4) (.x 37 .i64 0 255) ty = true := by kernel_rfl
theorem xl_l5_4_3 (ty : Nat) (τ : Nat → Nat) : xlRun hkS6 τ (.sl 12 0 5 1) (lstV M 97 122 40 3 5 13 4) (.x 37 .i64 0 255) ty = true := by kernel_rfl
theorem xl_l5_4_4 (ty : Nat) (τ : Nat → Nat) : xlRun hkS6 τ (.sl 12 0 5 1) (lstV M 97 122 40 4 5 13 4) (.x 37 .i64 0 255) ty = true := by kernel_rfl
theorem xl_l6_0_0 (ty : Nat) (τ : Nat → Nat) : xlRun hkS6 τ (.sl 12 0 6 1) (lstV M 97 122 40 0 6 13 0) (.x 37 .i64 0 255) ty = true := by kernel_rfl
theorem xl_l6_0_2 (ty : Nat) (τ : Nat → Nat) : xlRun hkS6 τ (.sl 12 0 6 1) (lstV M 97 122 40 2 6 13 0) (.x 37 .i64 0 255) ty = true := by kernel_rfl
theorem xl_l6_0_3 (ty : Nat) (τ : Nat → Nat) : xlRun hkS6 τ (.sl 12 0 6 1) (lstV M 97 122 40 3 6 13 0) (.x 37 .i64 0 255) ty = true := by kernel_rfl
theorem xl_l6_0_4 (ty : Nat) (τ : Nat → Nat) : xlRun hkS6 τ (.sl 12 0 6 1) (lstV M 97 122 40 4 6 13 0) (.x 37 .i64 0 255) ty = true := by kernel_rfl
theorem xl_l6_1_0 (ty : Nat) (τ : Nat → Nat) : xlRun hkS6 τ (.sl 12 0 6 1) (lstV M 97 122 40 0 6 13 1) (.x 37 .i64 0 255) ty = true := by kernel_rfl
theorem xl_l6_1_2 (ty : Nat) (τ : Nat → Nat) : xlRun hkS6 τ (.sl 12 0 6 1) (lstV M 97 122 40 2 6 13 1) (.x 37 .i64 0 255) ty = true := by kernel_rfl
theorem xl_l6_1_3 (ty : Nat) (τ : Nat → Nat) : xlRun hkS6 τ (.sl 12 0 6 1) (lstV M 97 122 40 3 6 13 1) (.x 37 .i64 0 255) ty = true := by kernel_rfl
theorem xl_l6_1_4 (ty : Nat) (τ : Nat → Nat) : xlRun hkS6 τ (.sl 12 0 6 1) (lstV M 97 122 40 4 6 13 1) (.x 37 .i64 0 255) ty = true := by kernel_rfl
theorem xl_l6_2_0 (ty : Nat) (τ : Nat → Nat) : xlRun hkS6 τ (.sl 12 0 6 1) (lstV M 97 122 40 0 6 13 2) (.x 37 .i64 0 255) ty = true := by kernel_rfl
theorem xl_l6_2_2 (ty : Nat) (τ : Nat → Nat) : xlRun hkS6 τ (.sl 12 0 6 1) (lstV M 97 122 40 2 6 13 2) (.x 37 .i64 0 255) ty = true := by kernel_rfl
theorem xl_l6_2_3 (ty : Nat) (τ : Nat → Nat) : xlRun hkS6 τ (.sl 12 0 6 1) (lstV M 97 122 40 3 6 13 2) (.x 37 .i64 0 255) ty = true := by kernel_rfl
theorem xl_l6_2_4 (ty : Nat) (τ : Nat → Nat) : xlRun hkS6 τ (.sl 12 0 6 1) (lstV M 97 122 40 4 6 13 2) (.x 37 .i64 0 255) ty = true := by kernel_rfl
theorem xl_l6_3_0 (ty : Nat) (τ : Nat → Nat) : xlRun hkS6 τ (.sl 12 0 6 1) (lstV M 97 122 40 0 6 13 3) (.x 37 .i64 0 255) ty = true := by kernel_rfl
theorem xl_l6_3_2 (ty : Nat) (τ : Nat → Nat) : xlRun hkS6 τ (.sl 12 0 6 1) (lstV M 97 122 40 2 6 13 3) (.x 37 .i64 0 255) ty = true := by kernel_rfl
theorem xl_l6_3_3 (ty : Nat) (τ : Nat → Nat) : xlRun hkS6 τ (.sl 12 0 6 1) (lstV M 97 122 40 3 6 13 3) (.x 37 .i64 0 255) ty = true := by kernel_rfl
theorem xl_l6_3_4 (ty : Nat) (τ : Nat → Nat) : xlRun hkS6 τ (.sl 12 0 6 1) (lstV M 97 122 40 4 6 13 3) (.x 37 .i64 0 255) ty = true := by kernel_rfl
theorem xl_l6_4_0 (ty : Nat) (τ : Nat → Nat) : xlRun hkS6 τ (.sl 12 0 6 1) (lstV M 97 122 40 0 6 13 4) (.x 37 .i64 0 255) ty = true := by kernel_rfl
theorem xl_l6_4_2 (ty : Nat) (τ : Nat → Nat) : xlRun hkS6 τ (.sl 12 0 6 1) (lstV M 97 122 40 2 6 13 4) (.x 37 .i64 0 255) ty = true := by kernel_rfl
theorem xl_l6_4_3 (ty : Nat) (τ : Nat → Nat) : xlRun hkS6 τ (.sl 12 0 6 1) (lstV M 97 122 40 3 6 13 4) (.x 37 .i64 0 255) ty = true := by kernel_rfl
theorem xl_l6_4_4 (ty : Nat) (τ : Nat → Nat) : xlRun hkS6 τ (.sl 12 0 6 1) (lstV M 97 122 40 4 6 13 4) (.x 37 .i64 0 255) ty = true := by kernel_rfl
theorem xl_l6_5_0 (ty : Nat) (τ : Nat → Nat) : xlRun hkS6 τ (.sl 12 0 6 1) (lstV M 97 122 40 0 6 13 5) (.x 37 .i64 0 255) ty = true := by kernel_rfl
theorem xl_l6_5_2 (ty : Nat) (τ : Nat → Nat) : xlRun hkS6 τ (.sl 12 0 6 1) (lstV M 97 122 40 2 6 13 5) (.x 37 .i64 0 255) ty = true := by kernel_rfl
theorem xl_l6_5_3 (ty : Nat) (τ : Nat → Nat) : xlRun hkS6 τ (.sl 12 0 6 1) (lstV M 97 122 40 3 6 13 5) (.x 37 .i64 0 255) ty = true := by kernel_rfl
theorem xl_l6_5_4 (ty : Nat) (τ : Nat → Nat) : xlRun hkS6 τ (.sl 12 0 6 1) (lstV M 97 122 40 4 6 13 5) (.x 37 .i64 0 255) ty = true := by kernel_rfl
theorem xl_l7_0_0 (ty : Nat) (τ : Nat → Nat) : xlRun hkS6 τ (.sl 12 0 7 1) (lstV M 97 122 40 0 7 13 0) (.x 37 .i64 0 255) ty = true := by kernel_rfl
theorem xl_l7_0_2 (ty : Nat) (τ : Nat → Nat) : xlRun hkS6 τ (.sl 12 0 7 1) (lstV M 97 122 40 2 7 13 0) (.x 37 .i64 0 255) ty = true := by kernel_rfl
theorem xl_l7_0_3 (ty : Nat) (τ : Nat → Nat) : xlRun hkS6 τ (.sl 12 0 7 1) (lstV M 97 122 40 3 7 13 0) (.x 37 .i64 0 255) ty = true := by kernel_rfl
theorem xl_l7_0_4 (ty : Nat) (τ : Nat → Nat) : xlRun hkS6 τ (.sl 12 0 7 1) (lstV M 97 122 40 4 7 13 0) (.x 37 .i64 0 255) ty = true := by kernel_rfl
theorem xl_l7_1_0 (ty : Nat) (τ : Nat → Nat) : xlRun hkS6 τ (.sl 12 0 7 1) (lstV M 97 122 40 0 7 13 1) (.x 37 .i64 0 255) ty = true := by kernel_rfl
theorem xl_l7_1_2 (ty : Nat) (τ : Nat → Nat) : xlRun hkS6 τ (.sl 12 0 7 1) (lstV M 97 122 40 2 7 13 1) (.x 37 .i64 0 255) ty = true := by kernel_rfl
theorem xl_l7_1_3 (ty : Nat) (τ : Nat → Nat) : xlRun hkS6 τ (.sl 12 0 7 1) (lstV M 97 122 40 3 7 13 1) (.x 37 .i64 0 255) ty = true := by kernel_rfl
theorem xl_l7_1_4 (ty : Nat) (τ : Nat → Nat) : xlRun hkS6 τ (.sl 12 0 7 1) (lstV M 97 122 40 4 7 13 1) (.x 37 .i64 0 255) ty = true := by kernel_rfl
theorem xl_l7_2_0 (ty : Nat) (τ : Nat → Nat) : xlRun hkS6 τ (.sl 12 0 7 1) (lstV M 97 122 40 0 7 13 2) (.x 37 .i64 0 255) ty = true := by kernel_rfl
theorem xl_l7_2_2 (ty : Nat) (τ : Nat → Nat) : xlRun hkS6 τ (.sl 12 0 7 1) (lstV M 97 122 40 2 7 13 2) (.x 37 .i64 0 255) ty = true := by kernel_rfl
theorem xl_l7_2_3 (ty : Nat) (τ : Nat → Nat) : xlRun hkS6 τ (.sl 12 0 7 1) (lstV M 97 122 40 3 7 13 2) (.x 37 .i64 0 255) ty = true := by kernel_rfl
theorem xl_l7_2_4 (ty : Nat) (τ : Nat → Nat) : xlRun hkS6 τ (.sl 12 0 7 1) (lstV M 97 122 40 4 7 13 2) (.x 37 .i64 0 255) ty = true := by kernel_rfl
theorem xl_l7_3_0 (ty : Nat) (τ : Nat → Nat) : xlRun hkS6 τ (.sl 12 0 7 1) (lstV M 97 122 40 0 7 13 3) (.x 37 .i64 0 255) ty = true := by kernel_rfl
theorem xl_l7_3_2 (ty : Nat) (τ : Nat → Nat) : xlRun hkS6 τ (.sl 12 0 7 1) (lstV M 97 122 40 2 7 13 3) (.x 37 .i64 0 255) ty = true := by kernel_rfl
theorem xl_l7_3_3 (ty : Nat) (τ : Nat → Nat) : xlRun hkS6 τ (.sl 12 0 7 1) (lstV M 97 122 40 3 7 13 3) (.x 37 .i64 0 255) ty = true := by kernel_rfl
theorem xl_l7_3_4 (ty : Nat) (τ : Nat → Nat) : xlRun hkS6 τ (.sl 12 0 7 1) (lstV M 97 122 40 4 7 13 3) (.x 37 .i64 0 255) ty = true := by kernel_rfl
theorem xl_l7_4_0 (ty : Nat) (τ : Nat → Nat) : xlRun hkS6 τ (.sl 12 0 7 1) (lstV M 97 122 40 0 7 13 4) (.x 37 .i64 0 255) ty = true := by kernel_rfl
theorem xl_l7_4_2 (ty : Nat) (τ : Nat → Nat) : xlRun hkS6 τ (.sl 12 0 7 1) (lstV M 97 122 40 2 7 13 4) (.x 37 .i64 0 255) ty = true := by kernel_rfl
theorem xl_l7_4_3 (ty : Nat) (τ : Nat → Nat) : xlRun hkS6 τ (.sl 12 0 7 1) (lstV M 97 122 40 3 7 13 4) (.x 37 .i64 0 255) ty = true := by kernel_rfl
theorem xl_l7_4_4 (ty : Nat) (τ : Nat → Nat) : xlRun hkS6 τ (.sl 12 0 7 1) (lstV M 97 122 40 4 7 13 4) (.x 37 .i64 0 255) ty = true := by kernel_rfl
theorem xl_l7_5_0 (ty : Nat) (τ : Nat → Nat) : xlRun hkS6 τ (.sl 12 0 7 1) (lstV M 97 122 40 0 7 13 5) (.x 37 .i64 0 255) ty = true := by kernel_rfl
theorem xl_l7_5_2 (ty : Nat) (τ : Nat → Nat) : xlRun hkS6 τ (.sl 12 0 7 1) (lstV M 97 122 40 2 7 13 5) (.x 37 .i64 0 255) ty = true := by kernel_rfl
theorem xl_l7_5_3 (ty : Nat) (τ : Nat → Nat) : xlRun hkS6 τ (.sl 12 0 7 1) (lstV M 97 122 40 3 7 13 5) (.x 37 .i64 0 255) ty = true := by kernel_rfl
theorem xl_l7_5_4 (ty : Nat) (τ : Nat → Nat) : xlRun hkS6 τ (.sl 12 0 7 1) (lstV M 97 122 40 4 7 13 5) (.x 37 .i64 0 255) ty = true := by kernel_rfl
theorem xl_l7_6_0 (ty : Nat) (τ : Nat → Nat) : xlRun hkS6 τ (.sl 12 0 7 1) (lstV M 97 122 40 0 7 13 6) (.x 37 .i64 0 255) ty = true := by kernel_rfl
theorem xl_l7_6_2 (ty : Nat) (τ : Nat → Nat) : xlRun hkS6 τ (.sl 12 0 7 1) (lstV M 97 122 40 2 7 13 6) (.x 37 .i64 0 255) ty = true := by kernel_rfl
theorem xl_l7_6_3 (ty : Nat) (τ : Nat → Nat) : xlRun hkS6 τ (.sl 12 0 7 1) (lstV M 97 122 40 3 7 13 6) (.x 37 .i64 0 255) ty = true := by kernel_rfl
theorem xl_l7_6_4 (ty : Nat) (τ : Nat → Nat) : xlRun hkS6 τ (.sl 12 0 7 1) (lstV M 97 122 40 4 7 13 6) (.x 37 .i64 0 255) ty = true := by kernel_rfl
theorem xl_l8_0_0 (ty : Nat) (τ : Nat → Nat) : xlRun hkS6 τ (.sl 12 0 8 1) (lstV M 97 122 40 0 8 13 0) (.x 37 .i64 0 255) ty = true := by kernel_rfl
theorem xl_l8_0_2 (ty : Nat) (τ : Nat → Nat) : xlRun hkS6 τ (.sl 12 0 8 1) (lstV M 97 122 40 2 8 13 0) (.x 37 .i64 0 255) ty = true := by kernel_rfl
theorem xl_l8_0_3 (ty : Nat) (τ : Nat → Nat) : xlRun hkS6 τ (.sl 12 0 8 1) (lstV M 97 122 40 3 8 13 0) (.x 37 .i64 0 255) ty = true := by kernel_rfl
theorem xl_l8_0_4 (ty : Nat) (τ : Nat → Nat) : xlRun hkS6 τ (.sl 12 0 8 1) (lstV M 97 122 40 4 8 13 0) (.x 37 .i64 0 255) ty = true := by kernel_rfl
theorem xl_l8_1_0 (ty : Nat) (τ : Nat → Nat) : xlRun hkS6 τ (.sl 12 0 8 1) (lstV M 97 122 40 0 8 13 1) (.x 37 .i64 0 255) ty = true := by kernel_rfl
theorem xl_l8_1_2 (ty : Nat) (τ : Nat → Nat) : xlRun hkS6 τ (.sl 12 0 8 1) (lstV M 97 122 40 2 8 13 1) (.x 37 .i64 0 255) ty = true := by kernel_rfl
theorem xl_l8_1_3 (ty : Nat) (τ : Nat → Nat) : xlRun hkS6 τ (.sl 12 0 8 1) (lstV M 97 122 40 3 8 13 1) (.x 37 .i64 0 255) ty = true := by kernel_rfl
theorem xl_l8_1_4 (ty : Nat) (τ : Nat → Nat) : xlRun hkS6 τ (.sl 12 0 8 1) (lstV M 97 122 40 4 8 13 1) (.x 37 .i64 0 255) ty = true := by kernel_rfl
theorem xl_l8_2_0 (ty : Nat) (τ : Nat → Nat) : xlRun hkS6 τ (.sl 12 0 8 1) (lstV M 97 122 40 0 8 13 2) (.x 37 .i64 0 255) ty = true := by kernel_rfl
theorem xl_l8_2_2 (ty : Nat) (τ : Nat → Nat) : xlRun hkS6 τ (.sl 12 0 8 1) (lstV M 97 122 40 2 8 13 2) (.x 37 .i64 0 255) ty = true := by kernel_rfl
theorem xl_l8_2_3 (ty : Nat) (τ : Nat → Nat) : xlRun hkS6 τ (.sl 12 0 8 1) (lstV M 97 122 40 3 8 13 2) (.x 37 .i64 0 255) ty = true := by kernel_rfl
theorem xl_l8_2_4 (ty : Nat) (τ : Nat → Nat) : xlRun hkS6 τ (.sl 12 0 8 1) (lstV M 97 122 40 4 8 13 2) (.x 37 .i64 0 255) ty = true := by kernel_rfl
theorem xl_l8_3_0 (ty : Nat) (τ : Nat → Nat) : xlRun hkS6 τ (.sl 12 0 8 1) (lstV M 97 122 40 0 8 13 3) (.x 37 .i64 0 255) ty = true := by kernel_rfl
theorem xl_l8_3_2 (ty : Nat) (τ : Nat → Nat) : xlRun hkS6 τ (.sl 12 0 8 1) (lstV M 97 122 40 2 8 13 3) (.x 37 .i64 0 255) ty = true := by kernel_rfl
theorem xl_l8_3_3 (ty : Nat) (τ : Nat → Nat) : xlRun hkS6 τ (.sl 12 0 8 1) (lstV M 97 122 40 3 8 13 3) (.x 37 .i64 0 255) ty = true := by kernel_rfl
theorem xl_l8_3_4 (ty : Nat) (τ : Nat → Nat) : xlRun hkS6 τ (.sl 12 0 8 1) (lstV M 97 122 40 4 8 13 3) (.x 37 .i64 0 255) ty = true := by kernel_rfl
theorem xl_l8_4_0 (ty : Nat) (τ : Nat → Nat) : xlRun hkS6 τ (.sl 12 0 8 1) (lstV M 97 122 40 0 8 13 4) (.x 37 .i64 0 255) ty = true := by kernel_rfl
theorem xl_l8_4_2 (ty : Nat) (τ : Nat → Nat) : xlRun hkS6 τ (.sl 12 0 8 1) (lstV M 97 122 40 2 8 13 4) (.x 37 .i64 0 255) ty = true := by kernel_rfl
theorem xl_l8_4_3 (ty : Nat) (τ : Nat → Nat) : xlRun hkS6 τ (.sl 12 0 8 1) (lstV M 97 122 40 3 8 13 4) (.x 37 .i64 0 255) ty = true := by kernel_rfl
theorem xl_l8_4_4 (ty : Nat) (τ : Nat → Nat) : xlRun hkS6 τ (.sl 12 0 8 1) (lstV M 97 122 40 4 8 13 4) (.x 37 .i64 0 255) ty = true := by kernel_rfl
theorem xl_l8_5_0 (ty : Nat) (τ : Nat → Nat) : xlRun hkS6 τ (.sl 12 0 8 1) (lstV M 97 122 40 0 8 13 5) (.x 37 .i64 0 255) ty = true := by kernel_rfl
theorem xl_l8_5_2 (ty : Nat) (τ : Nat → Nat) : xlRun hkS6 τ (.sl 12 0 8 1) (lstV M 97 122 40 2 8 13 5) (.x 37 .i64 0 255) ty = true := by kernel_rfl
theorem xl_l8_5_3 (ty : Nat) (τ : Nat → Nat) : xlRun hkS6 τ (.sl 12 0 8 1) (lstV M 97 122 40 3 8 13 5) (.x 37 .i64 0 255) ty = true := by kernel_rfl
theorem xl_l8_5_4 (ty : Nat) (τ : Nat → Nat) : xlRun hkS6 τ (.sl 12 0 8 1) (lstV M 97 122 40 4 8 13 5) (.x 37 .i64 0 255) ty = true := by kernel_rfl
theorem xl_l8_6_0 (ty : Nat) (τ : Nat → Nat) : xlRun hkS6 τ (.sl 12 0 8 1) (lstV M 97 122 40 0 8 13 6) (.x 37 .i64 0 255) ty = true := by kernel_rfl
theorem xl_l8_6_2 (ty : Nat) (τ : Nat → Nat) : xlRun hkS6 τ (.sl 12 0 8 1) (lstV M 97 122 40 2 8 13 6) (.x 37 .i64 0 255) ty = true := by kernel_rfl
theorem xl_l8_6_3 (ty : Nat) (τ : Nat → Nat) : xlRun hkS6 τ (.sl 12 0 8 1) (lstV M 97 122 40 3 8 13 6) (.x 37 .i64 0 255) ty = true := by kernel_rfl
theorem xl_l8_6_4 (ty : Nat) (τ : Nat → Nat) : xlRun hkS6 τ (.sl 12 0 8 1) (lstV M 97 122 40 4 8 13 6) (.x 37 .i64 0 255) ty = true := by kernel_rfl
theorem xl_l8_7_0 (ty : Nat) (τ : Nat → Nat) : xlRun hkS6 τ (.sl 12 0 8 1) (lstV M 97 122 40 0 8 13 7) (.x 37 .i64 0 255) ty = true := by kernel_rfl
theorem xl_l8_7_2 (ty : Nat) (τ : Nat → Nat) : xlRun hkS6 τ (.sl 12 0 8 1) (lstV M 97 122 40 2 8 13 7) (.x 37 .i64 0 255) ty = true := by kernel_rfl
theorem xl_l8_7_3 (ty : Nat) (τ : Nat → Nat) : xlRun hkS6 τ (.sl 12 0 8 1) (lstV M 97 122 40 3 8 13 7) (.x 37 .i64 0 255) ty = true := by kernel_rfl
theorem xl_l8_7_4 (ty : Nat) (τ : Nat → Nat) : xlRun hkS6 τ (.sl 12 0 8 1) (lstV M 97 122 40 4 8 13 7) (.x 37 .i64 0 255) ty = true := by kernel_rfl
end
end Go.Proofs.YtcmnkndbcecbiaaGreatDoor
