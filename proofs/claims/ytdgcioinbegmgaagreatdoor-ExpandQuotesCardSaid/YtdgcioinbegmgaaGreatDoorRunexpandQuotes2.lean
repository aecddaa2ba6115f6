/-
  Runs of expandQuotes, by the kernel (3 of 3). No condition.
-/
import Derived.Test.YtdgcioinbegmgaaGreatDoorRunexpandQuotes0
open Go Go.Mx
namespace Go.Proofs.YtdgcioinbegmgaaGreatDoor
set_option maxRecDepth 1000000
noncomputable section
theorem eq_w1t (τ : Nat → Nat) : eqRun τ (.cons (.w (atomsV 1 255 1 8 .nil)) (.cons (.b true) .nil)) 9 = true := by kernel_rfl
theorem eq_w2f (τ : Nat → Nat) : eqRun τ (.cons (.w (atomsV 1 255 2 8 .nil)) (.cons (.b false) .nil)) 10 = true := by kernel_rfl
theorem eq_w4t (τ : Nat → Nat) : eqRun τ (.cons (.w (atomsV 1 255 4 8 .nil)) (.cons (.b true) .nil)) 12 = true := by kernel_rfl
theorem eq_w5f (τ : Nat → Nat) : eqRun τ (.cons (.w (atomsV 1 255 5 8 .nil)) (.cons (.b false) .nil)) 13 = true := by kernel_rfl
theorem eq_w7t (τ : Nat → Nat) : eqRun τ (.cons (.w (atomsV 1 255 7 8 .nil)) (.cons (.b true) .nil)) 15 = true := by kernel_rfl
theorem eq_w8f (τ : Nat → Nat) : eqRun τ (.cons (.w (atomsV 1 255 8 8 .nil)) (.cons (.b false) .nil)) 16 = true := by kernel_rfl
theorem eq_w10t (τ : Nat → Nat) : eqRun τ (.cons (.w (atomsV 1 255 10 8 .nil)) (.cons (.b true) .nil)) 18 = true := by kernel_rfl
theorem eq_w11f (τ : Nat → Nat) : eqRun τ (.cons (.w (atomsV 1 255 11 8 .nil)) (.cons (.b false) .nil)) 19 = true := by kernel_rfl
theorem eq_w13t (τ : Nat → Nat) : eqRun τ (.cons (.w (atomsV 1 255 13 8 .nil)) (.cons (.b true) .nil)) 21 = true := by kernel_rfl
theorem eq_w14f (τ : Nat → Nat) : eqRun τ (.cons (.w (atomsV 1 255 14 8 .nil)) (.cons (.b false) .nil)) 22 = true := by kernel_rfl
theorem eq_w16t (τ : Nat → Nat) : eqRun τ (.cons (.w (atomsV 1 255 16 8 .nil)) (.cons (.b true) .nil)) 24 = true := by kernel_rfl
theorem eq_w17f (τ : Nat → Nat) : eqRun τ (.cons (.w (atomsV 1 255 17 8 .nil)) (.cons (.b false) .nil)) 25 = true := by kernel_rfl
theorem eq_w19t (τ : Nat → Nat) : eqRun τ (.cons (.w (atomsV 1 255 19 8 .nil)) (.cons (.b true) .nil)) 27 = true := by kernel_rfl
theorem eq_w20f (τ : Nat → Nat) : eqRun τ (.cons (.w (atomsV 1 255 20 8 .nil)) (.cons (.b false) .nil)) 28 = true := by kernel_rfl
theorem eq_w22t (τ : Nat → Nat) : eqRun τ (.cons (.w (atomsV 1 255 22 8 .nil)) (.cons (.b true) .nil)) 30 = true := by kernel_rfl
theorem eq_w23f (τ : Nat → Nat) : eqRun τ (.cons (.w (atomsV 1 255 23 8 .nil)) (.cons (.b false) .nil)) 31 = true := by kernel_rfl
theorem eq_w25t (τ : Nat → Nat) : eqRun τ (.cons (.w (atomsV 1 255 25 8 .nil)) (.cons (.b true) .nil)) 33 = true := by kernel_rfl
theorem eq_w26f (τ : Nat → Nat) : eqRun τ (.cons (.w (atomsV 1 255 26 8 .nil)) (.cons (.b false) .nil)) 34 = true := by kernel_rfl
theorem eq_w28t (τ : Nat → Nat) : eqRun τ (.cons (.w (atomsV 1 255 28 8 .nil)) (.cons (.b true) .nil)) 36 = true := by kernel_rfl
theorem eq_w29f (τ : Nat → Nat) : eqRun τ (.cons (.w (atomsV 1 255 29 8 .nil)) (.cons (.b false) .nil)) 37 = true := by kernel_rfl
theorem eq_w31t (τ : Nat → Nat) : eqRun τ (.cons (.w (atomsV 1 255 31 8 .nil)) (.cons (.b true) .nil)) 39 = true := by kernel_rfl
theorem eq_w32f (τ : Nat → Nat) : eqRun τ (.cons (.w (atomsV 1 255 32 8 .nil)) (.cons (.b false) .nil)) 40 = true := by kernel_rfl
theorem eq_w34t (τ : Nat → Nat) : eqRun τ (.cons (.w (atomsV 1 255 34 8 .nil)) (.cons (.b true) .nil)) 42 = true := by kernel_rfl
theorem eq_w35f (τ : Nat → Nat) : eqRun τ (.cons (.w (atomsV 1 255 35 8 .nil)) (.cons (.b false) .nil)) 43 = true := by kernel_rfl
theorem eq_w37t (τ : Nat → Nat) : eqRun τ (.cons (.w (atomsV 1 255 37 8 .nil)) (.cons (.b true) .nil)) 45 = true := by kernel_rfl
theorem eq_w38f (τ : Nat → Nat) : eqRun τ (.cons (.w (atomsV 1 255 38 8 .nil)) (.cons (.b false) .nil)) 46 = true := by kernel_rfl
theorem eq_w40t (τ : Nat → Nat) : eqRun τ (.cons (.w (atomsV 1 255 40 8 .nil)) (.cons (.b true) .nil)) 48 = true := by kernel_rfl
theorem eq_w41f (τ : Nat → Nat) : eqRun τ (.cons (.w (atomsV 1 255 41 8 .nil)) (.cons (.b false) .nil)) 49 = true := by kernel_rfl
theorem eq_w43t (τ : Nat → Nat) : eqRun τ (.cons (.w (atomsV 1 255 43 8 .nil)) (.cons (.b true) .nil)) 51 = true := by kernel_rfl
theorem eq_w44f (τ : Nat → Nat) : eqRun τ (.cons (.w (atomsV 1 255 44 8 .nil)) (.cons (.b false) .nil)) 52 = true := by kernel_rfl
theorem eq_w46t (τ : Nat → Nat) : eqRun τ (.cons (.w (atomsV 1 255 46 8 .nil)) (.cons (.b true) .nil)) 54 = true := by kernel_rfl
theorem eq_w47f (τ : Nat → Nat) : eqRun τ (.cons (.w (atomsV 1 255 47 8 .nil)) (.cons (.b false) .nil)) 55 = true := by kernel_rfl
theorem eq_w49t (τ : Nat → Nat) : eqRun τ (.cons (.w (atomsV 1 255 49 8 .nil)) (.cons (.b true) .nil)) 57 = true := by kernel_rfl
theorem eq_w50f (τ : Nat → Nat) : eqRun τ (.cons (.w (atomsV 1 255 50 8 .nil)) (.cons (.b false) .nil)) 58 = true := by kernel_rfl
theorem eq_w52t (τ : Nat → Nat) : eqRun τ (.cons (.w (atomsV 1 255 52 8 .nil)) (.cons (.b true) .nil)) 60 = true := by kernel_rfl
theorem eq_w53f (τ : Nat → Nat) : eqRun τ (.cons (.w (atomsV 1 255 53 8 .nil)) (.cons (.b false) .nil)) 61 = true := by kernel_rfl
theorem eq_w55t (τ : Nat → Nat) : eqRun τ (.cons (.w (atomsV 1 255 55 8 .nil)) (.cons (.b true) .nil)) 63 = true := by kernel_rfl
theorem eq_w56f (τ : Nat → Nat) : eqRun τ (.cons (.w (atomsV 1 255 56 8 .nil)) (.cons (.b false) .nil)) 64 = true := by kernel_rfl
theorem eq_w58t (τ : Nat → Nat) : eqRun τ (.cons (.w (atomsV 1 255 58 8 .nil)) (.cons (.b true) .nil)) 66 = true := by kernel_rfl
theorem eq_w59f (τ : Nat → Nat) : eqRun τ (.cons (.w (atomsV 1 255 59 8 .nil)) (.cons (.b false) .nil)) 67 = true := by kernel_rfl
theorem eq_w61t (τ : Nat → Nat) : eqRun τ (.cons (.w (atomsV 1 255 61 8 .nil)) (.cons (.b true) .nil)) 69 = true := by kernel_rfl
theorem eq_w62f (τ : Nat → Nat) : eqRun τ (.cons (.w (atomsV 1 255 62 8 .nil)) (.cons (.b false) .nil)) 70 = true := by kernel_rfl
theorem eq_w64t (τ : Nat → Nat) : eqRun τ (.cons (.w (atomsV 1 255 64 8 .nil)) (.cons (.b true) .nil)) 72 = true := by kernel_rfl
theorem eq_w65f (τ : Nat → Nat) : eqRun τ (.cons (.w (atomsV 1 255 65 8 .nil)) (.cons (.b false) .nil)) 73 = true := by kernel_rfl
theorem eq_w67t (τ : Nat → Nat) : eqRun τ (.cons (.w (atomsV 1 255 67 8 .nil)) (.cons (.b true) .nil)) 75 = true := by kernel_rfl
theorem eq_w68f (τ : Nat → Nat) : eqRun τ (.cons (.w (atomsV 1 255 68 8 .nil)) (.cons (.b false) .nil)) 76 = true := by kernel_rfl
theorem eq_w70t (τ : Nat → Nat) : eqRun τ (.cons (.w (atomsV 1 255 70 8 .nil)) (.cons (.b true) .nil)) 78 = true := by kernel_rfl
theorem eq_w71f (τ : Nat → Nat) : eqRun τ (.cons (.w (atomsV 1 255 71 8 .nil)) (.cons (.b false) .nil)) 79 = true := by kernel_rfl
theorem eq_w73t (τ : Nat → Nat) : eqRun τ (.cons (.w (atomsV 1 255 73 8 .nil)) (.cons (.b true) .nil)) 81 = true := by kernel_rfl
theorem eq_w74f (τ : Nat → Nat) : eqRun τ (.cons (.w (atomsV 1 255 74 8 .nil)) (.cons (.b false) .nil)) 82 = true := by kernel_rfl
theorem eq_w76t (τ : Nat → Nat) : eqRun τ (.cons (.w (atomsV 1 255 76 8 .nil)) (.cons (.b true) .nil)) 84 = true := by kernel_rfl
theorem eq_w77f (τ : Nat → Nat) : eqRun τ (.cons (.w (atomsV 1 255 77 8 .nil)) (.cons (.b false) .nil)) 85 = true := by kernel_rfl
theorem eq_w79t (τ : Nat → Nat) : eqRun τ (.cons (.w (atomsV 1 255 79 8 .nil)) (.cons (.b true) .nil)) 87 = true := by kernel_rfl
theorem eq_w80f (τ : Nat → Nat) : eqRun τ (.cons (.w (atomsV 1 255 80 8 .nil)) (.cons (.b false) .nil)) 88 = true := by kernel_rfl
theorem eq_w82t (τ : Nat → Nat) : eqRun τ (.cons (.w (atomsV 1 255 82 8 .nil)) (.cons (.b true) .nil)) 90 = true := by kernel_rfl
theorem eq_w83f (τ : Nat → Nat) : eqRun τ (.cons (.w (atomsV 1 255 83 8 .nil)) (.cons (.b false) .nil)) 91 = true := by kernel_rfl
theorem eq_w85t (τ : Nat → Nat) : eqRun τ (.cons (.w (atomsV 1 255 85 8 .nil)) (.cons (.b true) .nil)) 93 = true := by kernel_rfl
theorem eq_w86f (τ : Nat → Nat) : eqRun τ (.cons (.w (atomsV 1 255 86 8 .nil)) (.cons (.b false) .nil)) 94 = true := by kernel_rfl
theorem eq_w88t (τ : Nat → Nat) : eqRun τ (.cons (.w (atomsV 1 255 88 8 .nil)) (.cons (.b true) .nil)) 96 = true := by kernel_rfl
theorem eq_w89f (τ : Nat → Nat) : eqRun τ (.cons (.w (atomsV 1 255 89 8 .nil)) (.cons (.b false) .nil)) 97 = true := by kernel_rfl
theorem eq_w91t (τ : Nat → Nat) : eqRun τ (.cons (.w (atomsV 1 255 91 8 .nil)) (.cons (.b true) .nil)) 99 = true := by kernel_rfl
theorem eq_w92f (τ : Nat → Nat) : eqRun τ (.cons (.w (atomsV 1 255 92 8 .nil)) (.cons (.b false) .nil)) 100 = true := by kernel_rfl
theorem eq_w94t (τ : Nat → Nat) : eqRun τ (.cons (.w (atomsV 1 255 94 8 .nil)) (.cons (.b true) .nil)) 102 = true := by kernel_rfl
theorem eq_w95f (τ : Nat → Nat) : eqRun τ (.cons (.w (atomsV 1 255 95 8 .nil)) (.cons (.b false) .nil)) 103 = true := by kernel_rfl
theorem eq_w97t (τ : Nat → Nat) : eqRun τ (.cons (.w (atomsV 1 255 97 8 .nil)) (.cons (.b true) .nil)) 105 = true := by kernel_rfl
theorem eq_w98f (τ : Nat → Nat) : eqRun τ (.cons (.w (atomsV 1 255 98 8 .nil)) (.cons (.b false) .nil)) 106 = true := by kernel_rfl
theorem eq_w100t (τ : Nat → Nat) : eqRun τ (.cons (.w (atomsV 1 255 100 8 .nil)) (.cons (.b true) .nil)) 108 = true := by kernel_rfl
end
end Go.Proofs.YtdgcioinbegmgaaGreatDoor
