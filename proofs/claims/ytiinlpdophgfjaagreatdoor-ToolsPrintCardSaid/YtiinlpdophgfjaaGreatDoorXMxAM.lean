/-
  A part of a small executor of the model, proved sound (27 of 35). No condition.
-/
import Derived.Test.YtiinlpdophgfjaaGreatDoorXMxAG
import Derived.Test.YtiinlpdophgfjaaGreatDoorXMxN
import Derived.Test.YtiinlpdophgfjaaGreatDoorXMxAJ
namespace Go.Mx
open Instr Builtin RowKit
noncomputable section
variable {P : Program} {ρ : Ren} {h : T O} {nx : Nat} {w : World} {ng : Nat}
def noSetR (cs : List Nat) (c : V) : Bool := chain true (fun y _ ih => ite1 (noSet cs y) ih) c
theorem noSetR_spec {cs : List Nat} (hb : ∀ n ∈ cs, n < 256) : ∀ {c : V} {s : List UInt8}, noSetR cs c = true → RR ρ c s → ∀ x ∈ s, (cs.map UInt8.ofNat).contains x = false := by
  intro c
  induction c with
  | nil => intro s _ hs x hx; simp only [RR] at hs; subst hs; cases hx
  | cons y r ihy ih =>
    clear ihy
    intro s hk hs x hx
    obtain ⟨h1, h2⟩ := ite1_spec (show ite1 (noSet cs y) (noSetR cs r) = true from hk)
    simp only [RR] at hs
    obtain ⟨s1, s2, p1, p2, rfl⟩ := hs
    rcases List.mem_append.1 hx with hx | hx
    · exact noSet_spec p1 h1 hb x hx
    · exact ih h2 p2 x hx
  | _ => intro s _ hs; simp only [RR] at hs
end
end Go.Mx
namespace Go.Mx
open Instr Builtin RowKit
noncomputable section
variable {P : Program} {ρ : Ren} {h : T O} {nx : Nat} {w : World} {ng : Nat}
end
end Go.Mx
