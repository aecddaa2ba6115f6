/-
  The law at all arguments, and a lift of a contract that asks what is laid and the shape of the world. No condition.
-/
import Derived.Test.YthocoonhoilmdaaGreatDoorLdW
import Derived.Test.YthocoonhoilmdaaGreatDoorRows
import Derived.Test.YthocoonhoilmdaaGreatDoorHk
import Derived.SliceStrings
import Derived.Shelf.Vars
import Derived.Handed
import Derived.HandedShaped
import Derived.Test.YthocoonhoilmdaaGreatDoorXRowK6
open Go Go.Mx Go.ChangeShapes Go.WideShapes Go.RowKit
namespace Go.Proofs.YthocoonhoilmdaaGreatDoor
set_option maxRecDepth 100000
noncomputable section
theorem law_any {W : World} (hm : MaxIs W) {v0 : Value} (n : Int) (h0 : v0 = .slice none 0 0 ∨ (∃ A c, v0 = .slice (some A) 0 c) ∨
      ∃ b off cap arr ty fz, ∃ l : List ByteArray, v0 = .slice (some ⟨b, off, none⟩) l.length cap ∧ 0 < l.length ∧ l.length ≤ cap ∧ W.heap[b]? = some (.cells arr ty fz) ∧ off + cap ≤ arr.size ∧ (arr.toList.drop off).take l.length = l.map Value.string ∧ ∀ s ∈ l, s.size ≤ 9223372036854775807)
    (hal : Calls Tryz.prog 5 #[] W fun e w' => e = .returned (.bool true) ∧ Below W.heap.size W w') : Calls Tryz.prog 4 #[v0, .int .i64 n] W fun e W' => e = .returned (.bool true) ∧ Below W.heap.size W W' := by
  rcases h0 with rfl | ⟨A, c, rfl⟩ | ⟨b, off, cap, arr, ty, fz, l, rfl, hl0, _, hb, _, hc, hs⟩
  · exact law_out none 0 0 n (.inl (by omega)) hal
  · exact law_out (some A) 0 c n (.inl (by omega)) hal
  · by_cases h : 8 < l.length ∨ n < 1 ∨ (l.length : Int) < n
    · exact law_out (some ⟨b, off, none⟩) l.length cap n (.inr h) hal
    · obtain ⟨k, rfl⟩ : ∃ k : Nat, n = (k : Int) + 1 := ⟨(n - 1).toNat, by omega⟩
      refine law_in hm l l.length k rfl hl0 (by omega) (by omega) b off cap (Array.getElem?_eq_some_iff.1 hb).1 (fun j hj => ?_) hs hal
      rw [cell_u hb]
      have h1 : ((arr.toList.drop off).take l.length)[j]? = (l.map Value.string)[j]? := by rw [hc]
      rw [List.getElem?_take_of_lt hj, List.getElem?_drop, Array.getElem?_toList, List.getElem?_map, List.getElem?_eq_getElem hj] at h1
      exact h1
variable {H : Type} {enc : TypeId × Value → H}
theorem returnsInHanded_and_shaped {a : Assume} {C : Checked} {os : Os} {f : FuncId} {fn : Func} {s : ChangeSpec} {conds : List PathCond} {apart fresh handsOn again : Bool} {X : World → Array Value → Prop}
    (hX : ∀ (w w' : World) (args : Array Value), w.heap = w'.heap → X w args → X w' args)
    (own : ownKnob C.prog.godebug = none) (started : os.Started) (noInit : C.prog.inits.idxOf? f = none) (hfn : C.prog.funcs[f]? = some fn)
    (witness : ∃ (w : World) (tape : Tape) (i : Input), w.os = os ∧ (w.forCall tape i).Shaped C.prog ∧ i.vars = [] ∧ Input.okWide C.prog (w.forCall tape i) .any w.heap.size f i ∧
      ((s.pre enc C.prog fn conds apart (w.forCall tape i).memory i.args ∧ X (w.forCall tape i).memory i.args) ∧ sizedMet enc C.prog fn (OpenSpec.ofChange s) apart (w.forCall tape i).memory i.args) ∧ a.holds C.prog (lone (Frame.enter C.prog f i.args .normal) [] (w.forCall tape i)))
    (contract : ∀ (W : World) (base : Nat) (args : Array Value) (ds gs : List (DataW H)) (before : List MemPlace),
      (∀ (j : Nat) t v, fn.params[j]? = some t → args[j]? = some v → Value.okWide C.prog W .any base t v) →
      DataW.Whole enc C.prog fn.params.toList s.vars apart W args.toList ds gs before →
      conds.all (PathCond.test C.prog ⟨fn.params.toList, ds, s.plain.varTypes C.prog, gs⟩) = true →
      (DataW.weightsEach C.prog (fn.params.toList ++ s.plain.varTypes C.prog) (ds ++ gs)).all (· ≤ reachBytes) = true → X W args → W.ShapedOpen C.prog →
      a.holds C.prog (lone (Frame.enter C.prog f args .normal) [] W) →
      Calls C.prog f args W fun e W' => ∃ v, e = .returned v ∧ s.post enc C.prog fn apart fresh handsOn again W args v W') :
    ReturnsInHanded a C os f .any (fun w args => (s.pre enc C.prog fn conds apart w args ∧ X w args) ∧ sizedMet enc C.prog fn (OpenSpec.ofChange s) apart w args) (s.post enc C.prog fn apart fresh handsOn again) := by
  refine returnsInHanded_of_calls own started noInit witness ?_
  intro w tape i _ hsh _ hok hpre hholds
  obtain ⟨_, _, _, fn', hfn', _, _, _, _, hval⟩ := hok
  have e : fn' = fn := Option.some.inj (hfn'.symm.trans hfn)
  subst e
  obtain ⟨⟨⟨ds, gs, before, hw, hc⟩, hx⟩, hz⟩ := hpre
  have hw' := DataW.Whole.of_heap (w' := w.forCall tape i) (by rfl) hw
  refine (contract (w.forCall tape i) w.heap.size i.args ds gs before hval hw' hc (hz.weights hw) (hX _ _ _ (by rfl) hx) hsh hholds).mono fun e W' ⟨v, he, hp⟩ => ?_
  subst he
  exact ChangeSpec.post_blind hp
end
end Go.Proofs.YthocoonhoilmdaaGreatDoor
