/-
  A new file of some bytes.
-/
import Derived.Test.YthocoonhoilmdaaGreatDoorWrW
import Derived.Deep.RegionLaw
import Derived.Deep.RegionWith
import Derived.Deep.RegionHeld3
import Derived.RegionTactic
import Derived.WalkKit
import Derived.WalkSpells
import Derived.StillTactics
import Derived.LoopIn
import Derived.RowKit3
import Derived.Below
import Derived.OwnWalk
import Derived.KernelRfl
open Go Go.Mx Go.RowKit
namespace Go.Proofs.YthocoonhoilmdaaGreatDoor
set_option maxRecDepth 100000
noncomputable section
/-! a new file of some bytes -/
/-- these bytes stand there, in a block behind the first B -/
def DataAt (B : Nat) (L : List UInt8) (w : World) (o : Option Addr) : Prop := (L = [] ∧ o = none) ∨ (L ≠ [] ∧ ∃ g, o = some ⟨g, 0, none⟩ ∧ B ≤ g ∧ g < w.heap.size ∧ ∀ j u, (L.map Mx.byteV)[j]? = some u → w.cell? ((⟨g, 0, none⟩ : Addr).add j) = some u)
theorem DataAt.below {B : Nat} {L : List UInt8} {w w' : World} {o : Option Addr} (h : DataAt B L w o) (hb : Below w.heap.size w w') : DataAt B L w' o := by
  rcases h with h | ⟨h0, g, h1, h2, h3, h4⟩
  · exact .inl h
  · refine .inr ⟨h0, g, h1, h2, Nat.lt_of_lt_of_le h3 hb.size, fun j u hj => ?_⟩
    have := h4 j u hj
    rw [Addr.add_lit] at this ⊢
    rw [hb.cell (by exact h3)]
    exact this
theorem cat_said {w w1 : World} {fb : Nat} (hb1 : Below w.heap.size w w1) (v : Value) (L : List UInt8) (bo : Option Addr) (bc : Nat) (hl : L.length ≤ 1000000) (hbo : L = [] ∨ ∃ ab ao, bo = some ⟨ab, ao, none⟩ ∧ ab < w.heap.size ∧ ab ≠ fb ∧ ∀ j u, (L.map Mx.byteV)[j]? = some u → w.cell? ((⟨ab, ao, none⟩ : Addr).add j) = some u) :
    CatSaid (w1.setCell ⟨fb, 3, none⟩ v) bo L.length bc (DataAt w.heap.size L) := by
  intro w' hb g hg
  have hz := hb.size
  rw [set_size] at hz
  have hz1 := hb1.size
  rcases hbo with rfl | ⟨ab, ao, rfl, h1, h2, h3⟩
  · refine (concat_zero bo bc hg).mono ?_
    rintro e w2 ⟨rfl, rfl⟩
    exact ⟨none, 0, rfl, Below.refl _ _, .inl ⟨rfl, rfl⟩⟩
  · by_cases h0 : L = []
    · subst h0
      refine (concat_zero _ bc hg).mono ?_
      rintro e w2 ⟨rfl, rfl⟩
      exact ⟨none, 0, rfl, Below.refl _ _, .inl ⟨rfl, rfl⟩⟩
    · refine (concat_one L L.length rfl ab ao bc (List.length_pos_iff.2 h0) hl hg (by omega) (fun j u hj => ?_)).mono ?_
      · have := h3 j u hj
        rw [Addr.add_lit] at this ⊢
        rw [hb.cell (by show ab < (w1.setCell _ _).heap.size; rw [set_size]; omega)]
        have e : ∀ i, (w1.setCell ⟨fb, 3, none⟩ v).cell? ⟨ab, i, none⟩ = w1.cell? ⟨ab, i, none⟩ := fun i => by
          unfold World.cell?
          rw [set_other (by exact h2)]
        rw [e, hb1.cell (by exact h1)]
        exact this
      · rintro e w2 ⟨o, c, rfl, hb2, hown⟩
        refine ⟨o, c, rfl, hb2, .inr ⟨h0, ?_⟩⟩
        rcases hown.2 with ⟨_, e⟩ | ⟨g2, cap, cur, e, r1, r2, _⟩
        · exact absurd (List.eq_nil_of_length_eq_zero e) h0
        · injection e with e1 e2 e3
          subst e1
          refine ⟨g2, rfl, by omega, (Array.getElem?_eq_some_iff.1 r2).1, fun j u hj => ?_⟩
          subst e3
          exact hown.cells (g := g2) rfl j u hj
end
end Go.Proofs.YthocoonhoilmdaaGreatDoor
