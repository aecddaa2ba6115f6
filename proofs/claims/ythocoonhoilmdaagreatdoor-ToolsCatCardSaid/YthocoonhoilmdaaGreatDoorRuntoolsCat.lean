/-
  The law at all arguments. No condition.
-/
import Derived.Test.YthocoonhoilmdaaGreatDoorCaZ
import Derived.Test.YthocoonhoilmdaaGreatDoorRows
import Derived.Test.YthocoonhoilmdaaGreatDoorHk
import Derived.SliceStrings
import Derived.Shelf.Vars
import Derived.Test.YthocoonhoilmdaaGreatDoorXRowK6
open Go Go.Mx Go.ChangeShapes Go.WideShapes Go.RowKit
namespace Go.Proofs.YthocoonhoilmdaaGreatDoor
set_option maxRecDepth 100000
noncomputable section
theorem law_any (W : World) (hm : MaxIs W) (v0 v1 : Value) (Ls : List (List UInt8)) (gs : List Bool) (inL : List UInt8) (io : Option Addr) (ic : Nat) (h0 : RowsV W v0 Ls) (h1 : BoolsV W v1 gs) (hI : BytesV W io inL)
    (hal : Calls Tryz.prog 5 #[] W fun e w' => e = .returned (.bool true) ∧ Below W.heap.size W w') : Calls Tryz.prog 3 #[v0, v1, .slice io inL.length ic] W fun e W' => e = .returned (.bool true) ∧ Below W.heap.size W W' := by
  obtain ⟨lo, lc, rfl, hl⟩ := h0
  obtain ⟨go, gc, rfl, hg⟩ := h1
  by_cases hn : 10 < Ls.length ∨ gs.length < Ls.length ∨ 200 < inL.length
  · exact law_out lo go io _ lc _ gc _ ic hn hal
  · refine law_in hm (fun k => gs.getD k false) (fun k => Ls.getD k []) inL lo go io _ lc _ gc _ ic (by omega) (by omega) (by omega) rfl hI ?_ ?_ hal
    · rcases hl with h | ⟨b, off, e, hb, h⟩
      · exact .inl (by rw [h]; rfl)
      · refine .inr ⟨b, off, e, hb, fun k hk => ?_⟩
        obtain ⟨bo, bc, e1, e2⟩ := h k hk
        have e3 : Ls.getD k [] = Ls[k] := by simp [List.getD, List.getElem?_eq_getElem hk]
        exact ⟨bo, bc, by rw [e3]; exact e1, by rw [e3]; exact e2⟩
    · rcases hg with h | ⟨b, off, e, hb, h⟩
      · refine .inl ?_
        have h5 : gs.length = 0 := by rw [h]; rfl
        omega
      · refine .inr ⟨b, off, e, hb, fun k hk => ?_⟩
        have hk2 : k < gs.length := by omega
        have e3 : gs.getD k false = gs[k] := by simp [List.getD, List.getElem?_eq_getElem hk2]
        rw [e3]
        exact h k hk2
end
end Go.Proofs.YthocoonhoilmdaaGreatDoor
