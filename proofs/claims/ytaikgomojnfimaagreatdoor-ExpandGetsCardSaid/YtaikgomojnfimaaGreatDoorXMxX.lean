/-
  A part of a small executor of the model, proved sound (22 of 30). No condition.
-/
import Derived.Test.YtaikgomojnfimaaGreatDoorXMxQ
import Derived.Lib.ItoaLen
import Derived.Test.YtaikgomojnfimaaGreatDoorXRowK6
import Derived.Sort.Grow
import Derived.Lib.LaidTab
import Derived.Deep.Draws
namespace Go.Mx
open Instr Builtin
noncomputable section
variable {P : Program} {ρ : Ren} {h : T O} {nx : Nat} {w : World} {ng : Nat}
end
end Go.Mx
namespace Go.Mx
open Instr Builtin
noncomputable section
variable {P : Program} {ρ : Ren} {h : T O} {nx : Nat} {w : World} {ng : Nat}
end
end Go.Mx
namespace Go.Mx
open Instr Builtin
noncomputable section
variable {P : Program} {ρ : Ren} {h : T O} {nx : Nat} {w : World} {ng : Nat}
end
end Go.Mx
namespace Go.Mx
open Instr Builtin
noncomputable section
variable {P : Program} {ρ : Ren} {h : T O} {nx : Nat} {w : World} {ng : Nat}
theorem LR_cons' {x r : V} {n : Int} (h : LR ρ (.cons x r) n) : ∃ m k, MR ρ x m ∧ LR ρ r k ∧ n = m + k := by simpa only [LR] using h
theorem LR_nil' {n : Int} (h : LR ρ .nil n) : n = 0 := by simpa only [LR] using h
theorem MR_x' {a lo hi : Nat} {k : IntKind} {m : Int} (h : MR ρ (.x a k lo hi) m) : ∃ L, ρ a = some L ∧ lo ≤ L.base ∧ L.base ≤ hi ∧ m = L.base := by simpa only [MR] using h
theorem MR_6' {y : V} {p q : Nat} {m : Int} (h : MR ρ (.o 6 y 0 p q) m) : ∃ k, MR ρ y k ∧ m = Int.subNatNat p q * k := by
  simp only [MR] at h
  rcases h with ⟨h, _⟩ | ⟨h, _⟩ | ⟨_, k, h1, h2⟩ | ⟨h, _⟩ | ⟨h, _⟩
  · omega
  · omega
  · exact ⟨k, h1, h2⟩
  · omega
  · omega
theorem MR_one' {m : Int} (h : MR ρ oneV m) : m = 1 := by
  simp only [oneV, MR] at h
  exact h
theorem VR_w' {W : V} {l : List UInt8} (h : VRs ρ W (l.map byteV)) : VR ρ (.w W) (.string ⟨l.toArray⟩) := by
  simp only [VR]
  exact ⟨_, rfl, by unfold bytesV; simpa using h⟩
theorem VR_xb {a lo hi m : Nat} {L : Loc} (ha : ρ a = some L) (h : lo ≤ L.base ∧ L.base ≤ hi) (hm : L.base = m) (h2 : m < 256) : VR ρ (.x a .u8 lo hi) (byteV (UInt8.ofNat m)) := by
  simp only [VR]
  refine ⟨L, ha, h.1, h.2, ?_⟩
  unfold byteV
  rw [hm]
  congr 1
  simp
  omega
def t1V (a lo hi p q : Nat) : V := .cons (.x a .u8 lo hi) (.cons (.o 6 oneV 0 p q) .nil)
theorem t1_spec {a lo hi p q : Nat} {n : Int} (h : LR ρ (t1V a lo hi p q) n) : ∃ L, ρ a = some L ∧ lo ≤ L.base ∧ L.base ≤ hi ∧ n = (L.base : Int) + Int.subNatNat p q := by
  obtain ⟨m, k, h1, h2, rfl⟩ := LR_cons' h
  obtain ⟨L, e1, e2, e3, rfl⟩ := MR_x' h1
  obtain ⟨m2, k2, h3, h4, rfl⟩ := LR_cons' h2
  obtain ⟨m3, h5, rfl⟩ := MR_6' h3
  rw [MR_one' h5, LR_nil' h4, Int.mul_one, Int.add_zero]
  exact ⟨L, e1, e2, e3, rfl⟩
theorem dig_one (a : Nat) (ρ : Ren) (n : Int) (h : LR ρ (t1V a 49 57 0 48) n) : 0 ≤ n ∧ n ≤ 9223372036854775807 ∧ VR ρ (.w (.cons (.x a .u8 49 57) .nil)) (.string ⟨(Lib.itoa n).toArray⟩) := by
  obtain ⟨L, e1, e2, e3, e4⟩ := t1_spec h
  rw [show Int.subNatNat 0 48 = -48 from rfl] at e4
  obtain ⟨u, hu⟩ : ∃ u : Nat, L.base = 48 + u := ⟨L.base - 48, by omega⟩
  have en : n = (u : Int) := by omega
  subst en
  refine ⟨by omega, by omega, VR_w' ?_⟩
  rw [itoa_pos, Lib.decDigits_one (by omega)]
  simp only [List.map_cons, List.map_nil, VRs]
  exact ⟨_, _, rfl, VR_xb e1 ⟨e2, e3⟩ hu (by omega), rfl⟩
end
end Go.Mx
