/-
  A part of a small executor of the model, proved sound (24 of 35). No condition.
-/
import Derived.Test.YtiinlpdophgfjaaGreatDoorXMxAB
import Derived.Test.YtiinlpdophgfjaaGreatDoorXMxN
namespace Go.Mx
open Instr Builtin RowKit
noncomputable section
variable {P : Program} {ρ : Ren} {h : T O} {nx : Nat} {w : World} {ng : Nat}
def noSet (cs : List Nat) (y : V) : Bool := List.rec (motive := fun _ => Bool) true (fun n _ ih => ite1 (pieceNo n y) ih) cs
theorem noSet_spec {y : V} {s : List UInt8} (hs : PR ρ y s) : ∀ {cs : List Nat}, noSet cs y = true → (∀ n ∈ cs, n < 256) → ∀ c ∈ s, (cs.map UInt8.ofNat).contains c = false := by
  intro cs
  induction cs with
  | nil => intro _ _ c _; rfl
  | cons n cs ih =>
    intro hk hb c hc
    obtain ⟨h1, h2⟩ := ite1_spec (show ite1 (pieceNo n y) (noSet cs y) = true from hk)
    have h3 := ih h2 (fun m hm => hb m (List.mem_cons_of_mem _ hm)) c hc
    have h4 := pieceNo_spec h1 hs c hc
    have h5 := u8_ne (hb n (List.mem_cons_self ..)) h4
    rw [List.map_cons, List.contains_cons, h3, h5]
    rfl
end
end Go.Mx
namespace Go.Mx
open Instr Builtin
noncomputable section
variable {P : Program} {ρ : Ren} {h : T O} {nx : Nat} {w : World} {ng : Nat}
end
end Go.Mx
