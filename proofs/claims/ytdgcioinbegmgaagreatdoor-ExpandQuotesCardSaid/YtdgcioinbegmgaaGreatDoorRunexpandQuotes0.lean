/-
  Runs of expandQuotes, by the kernel (1 of 3). No condition.
-/
import Derived.Test.YtdgcioinbegmgaaGreatDoorHk
open Go Go.Mx
namespace Go.Proofs.YtdgcioinbegmgaaGreatDoor
set_option maxRecDepth 1000000
noncomputable section
def eqRun (τ : Nat → Nat) (args : V) (nx : Nat) : Bool := mkTK τ tbl .leaf (fun h0 => run Tryz.prog 8 (hkL hkB) 100000 3 args h0 nx (fun v _ _ => isB true v) (fun _ _ _ => false))
theorem eq_flo (g : Bool) (τ : Nat → Nat) : allN 100 (fun k => eqRun τ (.cons (.y (atomsV 1 255 k 8 (.cons (.x (8 + k) .u8 0 0) .nil)) (8 + k + 1) (k + 1) 100) (.cons (.b g) .nil)) (8 + k + 2)) = true := by kernel_rfl
theorem eq_l (g : Bool) (τ : Nat → Nat) : eqRun τ (.cons (.y .nil 8 101 9223372036854775807) (.cons (.b g) .nil)) 9 = true := by kernel_rfl
theorem eq_w0t (τ : Nat → Nat) : eqRun τ (.cons (.w (atomsV 1 255 0 8 .nil)) (.cons (.b true) .nil)) 8 = true := by kernel_rfl
theorem eq_w1f (τ : Nat → Nat) : eqRun τ (.cons (.w (atomsV 1 255 1 8 .nil)) (.cons (.b false) .nil)) 9 = true := by kernel_rfl
theorem eq_w3t (τ : Nat → Nat) : eqRun τ (.cons (.w (atomsV 1 255 3 8 .nil)) (.cons (.b true) .nil)) 11 = true := by kernel_rfl
theorem eq_w4f (τ : Nat → Nat) : eqRun τ (.cons (.w (atomsV 1 255 4 8 .nil)) (.cons (.b false) .nil)) 12 = true := by kernel_rfl
theorem eq_w6t (τ : Nat → Nat) : eqRun τ (.cons (.w (atomsV 1 255 6 8 .nil)) (.cons (.b true) .nil)) 14 = true := by kernel_rfl
theorem eq_w7f (τ : Nat → Nat) : eqRun τ (.cons (.w (atomsV 1 255 7 8 .nil)) (.cons (.b false) .nil)) 15 = true := by kernel_rfl
theorem eq_w9t (τ : Nat → Nat) : eqRun τ (.cons (.w (atomsV 1 255 9 8 .nil)) (.cons (.b true) .nil)) 17 = true := by kernel_rfl
theorem eq_w10f (τ : Nat → Nat) : eqRun τ (.cons (.w (atomsV 1 255 10 8 .nil)) (.cons (.b false) .nil)) 18 = true := by kernel_rfl
theorem eq_w12t (τ : Nat → Nat) : eqRun τ (.cons (.w (atomsV 1 255 12 8 .nil)) (.cons (.b true) .nil)) 20 = true := by kernel_rfl
theorem eq_w13f (τ : Nat → Nat) : eqRun τ (.cons (.w (atomsV 1 255 13 8 .nil)) (.cons (.b false) .nil)) 21 = true := by kernel_rfl
theorem eq_w15t (τ : Nat → Nat) : eqRun τ (.cons (.w (atomsV 1 255 15 8 .nil)) (.cons (.b true) .nil)) 23 = true := by kernel_rfl
theorem eq_w16f (τ : Nat → Nat) : eqRun τ (.cons (.w (atomsV 1 255 16 8 .nil)) (.cons (.b false) .nil)) 24 = true := by kernel_rfl
theorem eq_w18t (τ : Nat → Nat) : eqRun τ (.cons (.w (atomsV 1 255 18 8 .nil)) (.cons (.b true) .nil)) 26 = true := by kernel_rfl
theorem eq_w19f (τ : Nat → Nat) : eqRun τ (.cons (.w (atomsV 1 255 19 8 .nil)) (.cons (.b false) .nil)) 27 = true := by kernel_rfl
theorem eq_w21t (τ : Nat → Nat) : eqRun τ (.cons (.w (atomsV 1 255 21 8 .nil)) (.cons (.b true) .nil)) 29 = true := by kernel_rfl
theorem eq_w22f (τ : Nat → Nat) : eqRun τ (.cons (.w (atomsV 1 255 22 8 .nil)) (.cons (.b false) .nil)) 30 = true := by kernel_rfl
theorem eq_w24t (τ : Nat → Nat) : eqRun τ (.cons (.w (atomsV 1 255 24 8 .nil)) (.cons (.b true) .nil)) 32 = true := by kernel_rfl
theorem eq_w25f (τ : Nat → Nat) : eqRun τ (.cons (.w (atomsV 1 255 25 8 .nil)) (.cons (.b false) .nil)) 33 = true := by kernel_rfl
theorem eq_w27t (τ : Nat → Nat) : eqRun τ (.cons (.w (atomsV 1 255 27 8 .nil)) (.cons (.b true) .nil)) 35 = true := by kernel_rfl
theorem eq_w28f (τ : Nat → Nat) : eqRun τ (.cons (.w (atomsV 1 255 28 8 .nil)) (.cons (.b false) .nil)) 36 = true := by kernel_rfl
theorem eq_w30t (τ : Nat → Nat) : eqRun τ (.cons (.w (atomsV 1 255 30 8 .nil)) (.cons (.b true) .nil)) 38 = true := by kernel_rfl
theorem eq_w31f (τ : Nat → Nat) : eqRun τ (.cons (.w (atomsV 1 255 31 8 .nil)) (.cons (.b false) .nil)) 39 = true := by kernel_rfl
theorem eq_w33t (τ : Nat → Nat) : eqRun τ (.cons (.w (atomsV 1 255 33 8 .nil)) (.cons (.b true) .nil)) 41 = true := by kernel_rfl
theorem eq_w34f (τ : Nat → Nat) : eqRun τ (.cons (.w (atomsV 1 255 34 8 .nil)) (.cons (.b false) .nil)) 42 = true := by kernel_rfl
theorem eq_w36t (τ : Nat → Nat) : eqRun τ (.cons (.w (atomsV 1 255 36 8 .nil)) (.cons (.b true) .nil)) 44 = true := by kernel_rfl
theorem eq_w37f (τ : Nat → Nat) : eqRun τ (.cons (.w (atomsV 1 255 37 8 .nil)) (.cons (.b false) .nil)) 45 = true := by kernel_rfl
theorem eq_w39t (τ : Nat → Nat) : eqRun τ (.cons (.w (atomsV 1 255 39 8 .nil)) (.cons (.b true) .nil)) 47 = true := by kernel_rfl
theorem eq_w40f (τ : Nat → Nat) : eqRun τ (.cons (.w (atomsV 1 255 40 8 .nil)) (.cons (.b false) .nil)) 48 = true := by kernel_rfl
theorem eq_w42t (τ : Nat → Nat) : eqRun τ (.cons (.w (atomsV 1 255 42 8 .nil)) (.cons (.b true) .nil)) 50 = true := by kernel_rfl
theorem eq_w43f (τ : Nat → Nat) : eqRun τ (.cons (.w (atomsV 1 255 43 8 .nil)) (.cons (.b false) .nil)) 51 = true := by kernel_rfl
theorem eq_w45t (τ : Nat → Nat) : eqRun τ (.cons (.w (atomsV 1 255 45 8 .nil)) (.cons (.b true) .nil)) 53 = true := by kernel_rfl
theorem eq_w46f (τ : Nat → Nat) : eqRun τ (.cons (.w (atomsV 1 255 46 8 .nil)) (.cons (.b false) .nil)) 54 = true := by kernel_rfl
theorem eq_w48t (τ : Nat → Nat) : eqRun τ (.cons (.w (atomsV 1 255 48 8 .nil)) (.cons (.b true) .nil)) 56 = true := by kernel_rfl
theorem eq_w49f (τ : Nat → Nat) : eqRun τ (.cons (.w (atomsV 1 255 49 8 .nil)) (.cons (.b false) .nil)) 57 = true := by kernel_rfl
theorem eq_w51t (τ : Nat → Nat) : eqRun τ (.cons (.w (atomsV 1 255 51 8 .nil)) (.cons (.b true) .nil)) 59 = true := by kernel_rfl
theorem eq_w52f (τ : Nat → Nat) : eqRun τ (.cons (.w (atomsV 1 255 52 8 .nil)) (.cons (.b false) .nil)) 60 = true := by kernel_rfl
theorem eq_w54t (τ : Nat → Nat) : eqRun τ (.cons (.w (atomsV 1 255 54 8 .nil)) (.cons (.b true) .nil)) 62 = true := by kernel_rfl
theorem eq_w55f (τ : Nat → Nat) : eqRun τ (.cons (.w (atomsV 1 255 55 8 .nil)) (.cons (.b false) .nil)) 63 = true := by kernel_rfl
theorem eq_w57t (τ : Nat → Nat) : eqRun τ (.cons (.w (atomsV 1 255 57 8 .nil)) (.cons (.b true) .nil)) 65 = true := by kernel_rfl
theorem eq_w58f (τ : Nat → Nat) : eqRun τ (.cons (.w (atomsV 1 255 58 8 .nil)) (.cons (.b false) .nil)) 66 = true := by kernel_rfl
theorem eq_w60t (τ : Nat → Nat) : eqRun τ (.cons (.w (atomsV 1 255 60 8 .nil)) (.cons (.b true) .nil)) 68 = true := by kernel_rfl
theorem eq_w61f (τ : Nat → Nat) : eqRun τ (.cons (.w (atomsV 1 255 61 8 .nil)) (.cons (.b false) .nil)) 69 = true := by kernel_rfl
theorem eq_w63t (τ : Nat → Nat) : eqRun τ (.cons (.w (atomsV 1 255 63 8 .nil)) (.cons (.b true) .nil)) 71 = true := by kernel_rfl
theorem eq_w64f (τ : Nat → Nat) : eqRun τ (.cons (.w (atomsV 1 255 64 8 .nil)) (.cons (.b false) .nil)) 72 = true := by kernel_rfl
theorem eq_w66t (τ : Nat → Nat) : eqRun τ (.cons (.w (atomsV 1 255 66 8 .nil)) (.cons (.b true) .nil)) 74 = true := by kernel_rfl
theorem eq_w67f (τ : Nat → Nat) : eqRun τ (.cons (.w (atomsV 1 255 67 8 .nil)) (.cons (.b false) .nil)) 75 = true := by kernel_rfl
theorem eq_w69t (τ : Nat → Nat) : eqRun τ (.cons (.w (atomsV 1 255 69 8 .nil)) (.cons (.b true) .nil)) 77 = true := by kernel_rfl
theorem eq_w70f (τ : Nat → Nat) : eqRun τ (.cons (.w (atomsV 1 255 70 8 .nil)) (.cons (.b false) .nil)) 78 = true := by kernel_rfl
theorem eq_w72t (τ : Nat → Nat) : eqRun τ (.cons (.w (atomsV 1 255 72 8 .nil)) (.cons (.b true) .nil)) 80 = true := by kernel_rfl
theorem eq_w73f (τ : Nat → Nat) : eqRun τ (.cons (.w (atomsV 1 255 73 8 .nil)) (.cons (.b false) .nil)) 81 = true := by kernel_rfl
theorem eq_w75t (τ : Nat → Nat) : eqRun τ (.cons (.w (atomsV 1 255 75 8 .nil)) (.cons (.b true) .nil)) 83 = true := by kernel_rfl
theorem eq_w76f (τ : Nat → Nat) : eqRun τ (.cons (.w (atomsV 1 255 76 8 .nil)) (.cons (.b false) .nil)) 84 = true := by kernel_rfl
theorem eq_w78t (τ : Nat → Nat) : eqRun τ (.cons (.w (atomsV 1 255 78 8 .nil)) (.cons (.b true) .nil)) 86 = true := by kernel_rfl
theorem eq_w79f (τ : Nat → Nat) : eqRun τ (.cons (.w (atomsV 1 255 79 8 .nil)) (.cons (.b false) .nil)) 87 = true := by kernel_rfl
theorem eq_w81t (τ : Nat → Nat) : eqRun τ (.cons (.w (atomsV 1 255 81 8 .nil)) (.cons (.b true) .nil)) 89 = true := by kernel_rfl
theorem eq_w82f (τ : Nat → Nat) : eqRun τ (.cons (.w (atomsV 1 255 82 8 .nil)) (.cons (.b false) .nil)) 90 = true := by kernel_rfl
theorem eq_w84t (τ : Nat → Nat) : eqRun τ (.cons (.w (atomsV 1 255 84 8 .nil)) (.cons (.b true) .nil)) 92 = true := by kernel_rfl
theorem eq_w85f (τ : Nat → Nat) : eqRun τ (.cons (.w (atomsV 1 255 85 8 .nil)) (.cons (.b false) .nil)) 93 = true := by kernel_rfl
theorem eq_w87t (τ : Nat → Nat) : eqRun τ (.cons (.w (atomsV 1 255 87 8 .nil)) (.cons (.b true) .nil)) 95 = true := by kernel_rfl
theorem eq_w88f (τ : Nat → Nat) : eqRun τ (.cons (.w (atomsV 1 255 88 8 .nil)) (.cons (.b false) .nil)) 96 = true := by kernel_rfl
theorem eq_w90t (τ : Nat → Nat) : eqRun τ (.cons (.w (atomsV 1 255 90 8 .nil)) (.cons (.b true) .nil)) 98 = true := by kernel_rfl
theorem eq_w91f (τ : Nat → Nat) : eqRun τ (.cons (.w (atomsV 1 255 91 8 .nil)) (.cons (.b false) .nil)) 99 = true := by kernel_rfl
theorem eq_w93t (τ : Nat → Nat) : eqRun τ (.cons (.w (atomsV 1 255 93 8 .nil)) (.cons (.b true) .nil)) 101 = true := by kernel_rfl
theorem eq_w94f (τ : Nat → Nat) : eqRun τ (.cons (.w (atomsV 1 255 94 8 .nil)) (.cons (.b false) .nil)) 102 = true := by kernel_rfl
theorem eq_w96t (τ : Nat → Nat) : eqRun τ (.cons (.w (atomsV 1 255 96 8 .nil)) (.cons (.b true) .nil)) 104 = true := by kernel_rfl
theorem eq_w97f (τ : Nat → Nat) : eqRun τ (.cons (.w (atomsV 1 255 97 8 .nil)) (.cons (.b false) .nil)) 105 = true := by kernel_rfl
theorem eq_w99t (τ : Nat → Nat) : eqRun τ (.cons (.w (atomsV 1 255 99 8 .nil)) (.cons (.b true) .nil)) 107 = true := by kernel_rfl
theorem eq_w100f (τ : Nat → Nat) : eqRun τ (.cons (.w (atomsV 1 255 100 8 .nil)) (.cons (.b false) .nil)) 108 = true := by kernel_rfl
end
end Go.Proofs.YtdgcioinbegmgaaGreatDoor
