/-
  Runs of expandCounts, by the kernel (1 of 8). No condition.
-/
import Derived.Test.YtfmcnkepidedpaaGreatDoorCHkC
open Go Go.Mx
namespace Go.Proofs.YtfmcnkepidedpaaGreatDoor
set_option maxRecDepth 1000000
noncomputable section
def ecRun (τ : Nat → Nat) (v g s l : V) (ty nx : Nat) : Bool := mkTK τ tbl (putO [(8, .c l ty false)] .leaf) (fun h0 => run Tryz.prog 8 (hkL hkC) 100000 4 (.cons v (.cons g (.cons s .nil))) h0 nx (fun v _ _ => isB true v) (fun _ _ _ => false))
def ecRunP (τ : Nat → Nat) (C : O → Bool) (v g s l : V) (ty nx : Nat) : Bool := stK O.none (.v powV (τ 1)) 1 (putO [(8, .c l ty false)] .leaf) (fun h0 => run Tryz.prog 8 (hkL hkC) 100000 4 (.cons v (.cons g (.cons s .nil))) h0 nx (fun v h' _ => isBP true 1 C v h') (fun _ _ _ => false))
theorem ec_a (τ : Nat → Nat) : ecRun τ (elV 9 301 9223372036854775807) .nil .nil .nil 0 10 = true := by kernel_rfl
theorem ec_b (m ty : Nat) (τ : Nat → Nat) : ecRun τ (elV 9 0 300) (.sl 8 0 (m + 31) 1) .nil .nil ty 10 = true := by kernel_rfl
theorem ec_es (τ : Nat → Nat) (C : O → Bool) : ecRunP τ C (.s []) .sn (anyV 9) .nil 0 10 = C (.v powV (τ 1)) := by kernel_rfl
theorem ec_ns (τ : Nat → Nat) (C : O → Bool) : ecRunP τ C (nzV 9 10 299) .sn (anyV 11) .nil 0 12 = C (.v powV (τ 1)) := by kernel_rfl
theorem ec_ee (τ : Nat → Nat) (C : O → Bool) : ecRunP τ C (.s []) .se (anyV 9) .nil 0 10 = C (.v powV (τ 1)) := by kernel_rfl
theorem ec_ne (τ : Nat → Nat) (C : O → Bool) : ecRunP τ C (nzV 9 10 299) .se (anyV 11) .nil 0 12 = C (.v powV (τ 1)) := by kernel_rfl
end
end Go.Proofs.YtfmcnkepidedpaaGreatDoor
