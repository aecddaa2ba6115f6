/-
  Runs of expandQuotes, by the kernel (2 of 3). No condition.
-/
import Derived.Test.YtdgcioinbegmgaaGreatDoorRunexpandQuotes0
open Go Go.Mx
namespace Go.Proofs.YtdgcioinbegmgaaGreatDoor
set_option maxRecDepth 1000000
noncomputable section
theorem eq_w0f (τ : Nat → Nat) : eqRun τ (.cons (.w (atomsV 1 255 0 8 .nil)) (.cons (.b false) .nil)) 8 = true := by kernel_rfl
theorem eq_w2t (τ : Nat → Nat) : eqRun τ (.cons (.w (atomsV 1 255 2 8 .nil)) (.cons (.b true) .nil)) 10 = true := by kernel_rfl
theorem eq_w3f (τ : Nat → Nat) : eqRun τ (.cons (.w (atomsV 1 255 3 8 .nil)) (.cons (.b false) .nil)) 11 = true := by kernel_rfl
theorem eq_w5t (τ : Nat → Nat) : eqRun τ (.cons (.w (atomsV 1 255 5 8 .nil)) (.cons (.b true) .nil)) 13 = true := by kernel_rfl
theorem eq_w6f (τ : Nat → Nat) : eqRun τ (.cons (.w (atomsV 1 255 6 8 .nil)) (.cons (.b false) .nil)) 14 = true := by kernel_rfl
theorem eq_w8t (τ : Nat → Nat) : eqRun τ (.cons (.w (atomsV 1 255 8 8 .nil)) (.cons (.b true) .nil)) 16 = true := by kernel_rfl
theorem eq_w9f (τ : Nat → Nat) : eqRun τ (.cons (.w (atomsV 1 255 9 8 .nil)) (.cons (.b false) .nil)) 17 = true := by kernel_rfl
theorem eq_w11t (τ : Nat → Nat) : eqRun τ (.cons (.w (atomsV 1 255 11 8 .nil)) (.cons (.b true) .nil)) 19 = true := by kernel_rfl
theorem eq_w12f (τ : Nat → Nat) : eqRun τ (.cons (.w (atomsV 1 255 12 8 .nil)) (.cons (.b false) .nil)) 20 = true := by kernel_rfl
theorem eq_w14t (τ : Nat → Nat) : eqRun τ (.cons (.w (atomsV 1 255 14 8 .nil)) (.cons (.b true) .nil)) 22 = true := by kernel_rfl
theorem eq_w15f (τ : Nat → Nat) : eqRun τ (.cons (.w (atomsV 1 255 15 8 .nil)) (.cons (.b false) .nil)) 23 = true := by kernel_rfl
theorem eq_w17t (τ : Nat → Nat) : eqRun τ (.cons (.w (atomsV 1 255 17 8 .nil)) (.cons (.b true) .nil)) 25 = true := by kernel_rfl
theorem eq_w18f (τ : Nat → Nat) : eqRun τ (.cons (.w (atomsV 1 255 18 8 .nil)) (.cons (.b false) .nil)) 26 = true := by kernel_rfl
theorem eq_w20t (τ : Nat → Nat) : eqRun τ (.cons (.w (atomsV 1 255 20 8 .nil)) (.cons (.b true) .nil)) 28 = true := by kernel_rfl
theorem eq_w21f (τ : Nat → Nat) : eqRun τ (.cons (.w (atomsV 1 255 21 8 .nil)) (.cons (.b false) .nil)) 29 = true := by kernel_rfl
theorem eq_w23t (τ : Nat → Nat) : eqRun τ (.cons (.w (atomsV 1 255 23 8 .nil)) (.cons (.b true) .nil)) 31 = true := by kernel_rfl
theorem eq_w24f (τ : Nat → Nat) : eqRun τ (.cons (.w (atomsV 1 255 24 8 .nil)) (.cons (.b false) .nil)) 32 = true := by kernel_rfl
theorem eq_w26t (τ : Nat → Nat) : eqRun τ (.cons (.w (atomsV 1 255 26 8 .nil)) (.cons (.b true) .nil)) 34 = true := by kernel_rfl
theorem eq_w27f (τ : Nat → Nat) : eqRun τ (.cons (.w (atomsV 1 255 27 8 .nil)) (.cons (.b false) .nil)) 35 = true := by kernel_rfl
theorem eq_w29t (τ : Nat → Nat) : eqRun τ (.cons (.w (atomsV 1 255 29 8 .nil)) (.cons (.b true) .nil)) 37 = true := by kernel_rfl
theorem eq_w30f (τ : Nat → Nat) : eqRun τ (.cons (.w (atomsV 1 255 30 8 .nil)) (.cons (.b false) .nil)) 38 = true := by kernel_rfl
theorem eq_w32t (τ : Nat → Nat) : eqRun τ (.cons (.w (atomsV 1 255 32 8 .nil)) (.cons (.b true) .nil)) 40 = true := by kernel_rfl
theorem eq_w33f (τ : Nat → Nat) : eqRun τ (.cons (.w (atomsV 1 255 33 8 .nil)) (.cons (.b false) .nil)) 41 = true := by kernel_rfl
theorem eq_w35t (τ : Nat → Nat) : eqRun τ (.cons (.w (atomsV 1 255 35 8 .nil)) (.cons (.b true) .nil)) 43 = true := by kernel_rfl
theorem eq_w36f (τ : Nat → Nat) : eqRun τ (.cons (.w (atomsV 1 255 36 8 .nil)) (.cons (.b false) .nil)) 44 = true := by kernel_rfl
theorem eq_w38t (τ : Nat → Nat) : eqRun τ (.cons (.w (atomsV 1 255 38 8 .nil)) (.cons (.b true) .nil)) 46 = true := by kernel_rfl
theorem eq_w39f (τ : Nat → Nat) : eqRun τ (.cons (.w (atomsV 1 255 39 8 .nil)) (.cons (.b false) .nil)) 47 = true := by kernel_rfl
theorem eq_w41t (τ : Nat → Nat) : eqRun τ (.cons (.w (atomsV 1 255 41 8 .nil)) (.cons (.b true) .nil)) 49 = true := by kernel_rfl
theorem eq_w42f (τ : Nat → Nat) : eqRun τ (.cons (.w (atomsV 1 255 42 8 .nil)) (.cons (.b false) .nil)) 50 = true := by kernel_rfl
theorem eq_w44t (τ : Nat → Nat) : eqRun τ (.cons (.w (atomsV 1 255 44 8 .nil)) (.cons (.b true) .nil)) 52 = true := by kernel_rfl
theorem eq_w45f (τ : Nat → Nat) : eqRun τ (.cons (.w (atomsV 1 255 45 8 .nil)) (.cons (.b false) .nil)) 53 = true := by kernel_rfl
theorem eq_w47t (τ : Nat → Nat) : eqRun τ (.cons (.w (atomsV 1 255 47 8 .nil)) (.cons (.b true) .nil)) 55 = true := by kernel_rfl
theorem eq_w48f (τ : Nat → Nat) : eqRun τ (.cons (.w (atomsV 1 255 48 8 .nil)) (.cons (.b false) .nil)) 56 = true := by kernel_rfl
theorem eq_w50t (τ : Nat → Nat) : eqRun τ (.cons (.w (atomsV 1 255 50 8 .nil)) (.cons (.b true) .nil)) 58 = true := by kernel_rfl
theorem eq_w51f (τ : Nat → Nat) : eqRun τ (.cons (.w (atomsV 1 255 51 8 .nil)) (.cons (.b false) .nil)) 59 = true := by kernel_rfl
theorem eq_w53t (τ : Nat → Nat) : eqRun τ (.cons (.w (atomsV 1 255 53 8 .nil)) (.cons (.b true) .nil)) 61 = true := by kernel_rfl
theorem eq_w54f (τ : Nat → Nat) : eqRun τ (.cons (.w (atomsV 1 255 54 8 .nil)) (.cons (.b false) .nil)) 62 = true := by kernel_rfl
theorem eq_w56t (τ : Nat → Nat) : eqRun τ (.cons (.w (atomsV 1 255 56 8 .nil)) (.cons (.b true) .nil)) 64 = true := by kernel_rfl
theorem eq_w57f (τ : Nat → Nat) : eqRun τ (.cons (.w (atomsV 1 255 57 8 .nil)) (.cons (.b false) .nil)) 65 = true := by kernel_rfl
theorem eq_w59t (τ : Nat → Nat) : eqRun τ (.cons (.w (atomsV 1 255 59 8 .nil)) (.cons (.b true) .nil)) 67 = true := by kernel_rfl
theorem eq_w60f (τ : Nat → Nat) : eqRun τ (.cons (.w (atomsV 1 255 60 8 .nil)) (.cons (.b false) .nil)) 68 = true := by kernel_rfl
theorem eq_w62t (τ : Nat → Nat) : eqRun τ (.cons (.w (atomsV 1 255 62 8 .nil)) (.cons (.b true) .nil)) 70 = true := by kernel_rfl
theorem eq_w63f (τ : Nat → Nat) : eqRun τ (.cons (.w (atomsV 1 255 63 8 .nil)) (.cons (.b false) .nil)) 71 = true := by kernel_rfl
theorem eq_w65t (τ : Nat → Nat) : eqRun τ (.cons (.w (atomsV 1 255 65 8 .nil)) (.cons (.b true) .nil)) 73 = true := by kernel_rfl
theorem eq_w66f (τ : Nat → Nat) : eqRun τ (.cons (.w (atomsV 1 255 66 8 .nil)) (.cons (.b false) .nil)) 74 = true := by kernel_rfl
theorem eq_w68t (τ : Nat → Nat) : eqRun τ (.cons (.w (atomsV 1 255 68 8 .nil)) (.cons (.b true) .nil)) 76 = true := by kernel_rfl
theorem eq_w69f (τ : Nat → Nat) : eqRun τ (.cons (.w (atomsV 1 255 69 8 .nil)) (.cons (.b false) .nil)) 77 = true := by kernel_rfl
theorem eq_w71t (τ : Nat → Nat) : eqRun τ (.cons (.w (atomsV 1 255 71 8 .nil)) (.cons (.b true) .nil)) 79 = true := by kernel_rfl
theorem eq_w72f (τ : Nat → Nat) : eqRun τ (.cons (.w (atomsV 1 255 72 8 .nil)) (.cons (.b false) .nil)) 80 = true := by kernel_rfl
theorem eq_w74t (τ : Nat → Nat) : eqRun τ (.cons (.w (atomsV 1 255 74 8 .nil)) (.cons (.b true) .nil)) 82 = true := by kernel_rfl
theorem eq_w75f (τ : Nat → Nat) : eqRun τ (.cons (.w (atomsV 1 255 75 8 .nil)) (.cons (.b false) .nil)) 83 = true := by kernel_rfl
theorem eq_w77t (τ : Nat → Nat) : eqRun τ (.cons (.w (atomsV 1 255 77 8 .nil)) (.cons (.b true) .nil)) 85 = true := by kernel_rfl
theorem eq_w78f (τ : Nat → Nat) : eqRun τ (.cons (.w (atomsV 1 255 78 8 .nil)) (.cons (.b false) .nil)) 86 = true := by kernel_rfl
theorem eq_w80t (τ : Nat → Nat) : eqRun τ (.cons (.w (atomsV 1 255 80 8 .nil)) (.cons (.b true) .nil)) 88 = true := by kernel_rfl
theorem eq_w81f (τ : Nat → Nat) : eqRun τ (.cons (.w (atomsV 1 255 81 8 .nil)) (.cons (.b false) .nil)) 89 = true := by kernel_rfl
theorem eq_w83t (τ : Nat → Nat) : eqRun τ (.cons (.w (atomsV 1 255 83 8 .nil)) (.cons (.b true) .nil)) 91 = true := by kernel_rfl
theorem eq_w84f (τ : Nat → Nat) : eqRun τ (.cons (.w (atomsV 1 255 84 8 .nil)) (.cons (.b false) .nil)) 92 = true := by kernel_rfl
theorem eq_w86t (τ : Nat → Nat) : eqRun τ (.cons (.w (atomsV 1 255 86 8 .nil)) (.cons (.b true) .nil)) 94 = true := by kernel_rfl
theorem eq_w87f (τ : Nat → Nat) : eqRun τ (.cons (.w (atomsV 1 255 87 8 .nil)) (.cons (.b false) .nil)) 95 = true := by kernel_rfl
theorem eq_w89t (τ : Nat → Nat) : eqRun τ (.cons (.w (atomsV 1 255 89 8 .nil)) (.cons (.b true) .nil)) 97 = true := by kernel_rfl
theorem eq_w90f (τ : Nat → Nat) : eqRun τ (.cons (.w (atomsV 1 255 90 8 .nil)) (.cons (.b false) .nil)) 98 = true := by kernel_rfl
theorem eq_w92t (τ : Nat → Nat) : eqRun τ (.cons (.w (atomsV 1 255 92 8 .nil)) (.cons (.b true) .nil)) 100 = true := by kernel_rfl
theorem eq_w93f (τ : Nat → Nat) : eqRun τ (.cons (.w (atomsV 1 255 93 8 .nil)) (.cons (.b false) .nil)) 101 = true := by kernel_rfl
theorem eq_w95t (τ : Nat → Nat) : eqRun τ (.cons (.w (atomsV 1 255 95 8 .nil)) (.cons (.b true) .nil)) 103 = true := by kernel_rfl
theorem eq_w96f (τ : Nat → Nat) : eqRun τ (.cons (.w (atomsV 1 255 96 8 .nil)) (.cons (.b false) .nil)) 104 = true := by kernel_rfl
theorem eq_w98t (τ : Nat → Nat) : eqRun τ (.cons (.w (atomsV 1 255 98 8 .nil)) (.cons (.b true) .nil)) 106 = true := by kernel_rfl
theorem eq_w99f (τ : Nat → Nat) : eqRun τ (.cons (.w (atomsV 1 255 99 8 .nil)) (.cons (.b false) .nil)) 107 = true := by kernel_rfl
end
end Go.Proofs.YtdgcioinbegmgaaGreatDoor
