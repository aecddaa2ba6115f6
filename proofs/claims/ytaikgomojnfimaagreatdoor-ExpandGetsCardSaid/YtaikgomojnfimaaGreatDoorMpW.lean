/-
  Parameters in a map, walked.
-/
import Derived.Test.YtaikgomojnfimaaGreatDoorNaW
import Derived.Test.YtaikgomojnfimaaGreatDoorXMxAD
import Derived.Test.YtaikgomojnfimaaGreatDoorXMx16
import Derived.BigQuiet
import Derived.Deep.QuietTactic
import Derived.Deep.RegionLaw
import Derived.Deep.RegionWith
import Derived.Deep.RegionHeld3
import Derived.RegionTactic
import Derived.WalkKit
import Derived.WalkSpells
import Derived.StillTactics
import Derived.LoopIn
import Derived.RowKit3
import Derived.Below
import Derived.OwnWalk
import Derived.KernelRfl
open Go Go.Mx Go.RowKit
namespace Go.Proofs.YtaikgomojnfimaaGreatDoor
set_option maxRecDepth 100000
noncomputable section
/-! parameters in a map -/
theorem ba_of {a b : ByteArray} (h : (a == b) = true) : a = b := by
  obtain ⟨a⟩ := a
  obtain ⟨b⟩ := b
  have h2 : (a == b) = true := h
  rw [eq_of_beq h2]
theorem ba_refl (a : ByteArray) : (a == a) = true := by
  obtain ⟨a⟩ := a
  show (a == a) = true
  exact beq_self_eq_true a
abbrev ML := List (ByteArray × ByteArray)
def look (M : ML) (q : ByteArray) : Option ByteArray := (M.find? fun x => q == x.1).map (·.2)
def put : ML → ByteArray → ByteArray → ML
  | [], k, v => [(k, v)]
  | x :: M, k, v => if (k == x.1) = true then (k, v) :: M else x :: put M k v
theorem look_put : ∀ (M : ML) (k v q : ByteArray), look (put M k v) q = if (q == k) = true then some v else look M q
  | [], k, v, q => by
    unfold put look
    simp only [List.find?]
    cases h : q == k <;> simp
  | x :: M, k, v, q => by
    unfold put
    by_cases h : (k == x.1) = true
    · have e := ba_of h
      rw [if_pos h]
      unfold look
      simp only [List.find?]
      rw [← e]
      cases h2 : q == k <;> simp
    · rw [if_neg h]
      have ih := look_put M k v q
      unfold look at ih ⊢
      simp only [List.find?]
      cases h2 : q == x.1 with
      | true =>
        have e := ba_of h2
        have h3 : ¬ (q == k) = true := fun h4 => h (by rw [← e]; rw [ba_of h4]; exact ba_refl k)
        simp [h3]
      | false => simpa using ih
theorem put_len : ∀ (M : ML) (k v : ByteArray), (put M k v).length ≤ M.length + 1
  | [], _, _ => by simp [put]
  | x :: M, k, v => by
    unfold put
    split
    · simp
    · have := put_len M k v
      simp only [List.length_cons]
      omega
def entS (x : ByteArray × ByteArray) : Value × Value := (.string x.1, .string x.2)
theorem v_tS : Tryz.prog.underlying 9 = some .string := by kernel_rfl
theorem v_tM : Tryz.prog.underlying 43 = some (.map 9 9) := by kernel_rfl
theorem v_zS : ∀ w, (zeroValue 9).run Tryz.prog w = .ok (.string ⟨#[]⟩) w := Tryz.zeroValue9
def upE (k v : ByteArray) (e : MapEntry) : MapEntry := { e with key := .string k, val := .string v }
theorem find_s {k v : ByteArray} : ∀ (M : ML) (es : List MapEntry) (i : Nat), es.map (fun e => (e.key, e.val)) = M.map entS → ∃ r, Instr.findNow .string (.string k) es i = some r ∧ r.map (·.2) = (look M k).map Value.string ∧ (r = none → put M k v = M ++ [(k, v)]) ∧
    ∀ j x, r = some (j, x) → ∃ d, j = i + d ∧ (es[d]?).map (·.key) = some (.string k) ∧ (es.modify d (upE k v)).map (fun e => (e.key, e.val)) = (put M k v).map entS
  | [], [], _, _ => ⟨none, rfl, rfl, (fun _ => rfl), (fun _ _ h => by cases h)⟩
  | [], _ :: _, _, h => by cases h
  | _ :: _, [], _, h => by cases h
  | x :: M, e :: es, i, h => by
    simp only [List.map_cons, List.cons.injEq] at h
    obtain ⟨h1, h2⟩ := h
    have hk : e.key = .string x.1 := congrArg Prod.fst h1
    have hv : e.val = .string x.2 := congrArg Prod.snd h1
    unfold Instr.findNow
    rw [hk]
    simp only [Instr.sameNow]
    cases hc : k == x.1 with
    | true =>
      have ek := ba_of hc
      refine ⟨some (i, e.val), rfl, ?_, (fun h => by cases h), fun j y hj => ?_⟩
      · simp [look, hc, hv]
      · cases hj
        refine ⟨0, rfl, ?_, ?_⟩
        · simp [hk, ek]
        · unfold put
          rw [if_pos hc]
          simp only [List.modify_zero_cons, List.map_cons, h2]
          rfl
    | false =>
      obtain ⟨r, g1, g2, g3, g4⟩ := find_s (k := k) (v := v) M es (i + 1) h2
      have hne : ¬ (k == x.1) = true := by simp [hc]
      refine ⟨r, g1, ?_, fun h => ?_, fun j y hj => ?_⟩
      · rw [g2]
        simp [look, hc]
      · unfold put
        rw [if_neg hne, g3 h]
        rfl
      · obtain ⟨d, e1, e2, e3⟩ := g4 j y hj
        refine ⟨d + 1, by omega, by simpa using e2, ?_⟩
        unfold put
        rw [if_neg hne]
        simp only [List.modify_succ_cons, List.map_cons, e3]
        rw [← h1]
/-- a map's value holds these -/
def MapIs (w : World) (m : Option Nat) (M : ML) : Prop := (m = none ∧ M = []) ∨ ∃ mb es cl, m = some mb ∧ w.heap[mb]? = some (.map es cl) ∧ es.toList.map (fun e => (e.key, e.val)) = M.map entS
theorem run_look {w : World} {m : Option Nat} {M : ML} (h : MapIs w m M) (k : ByteArray) : (Instr.lookup 43 (.map m) (.string k) true).run Tryz.prog w = .ok (.tuple #[.string ((look M k).getD ⟨#[]⟩), .bool (look M k).isSome]) w := by
  have hck : ∀ b, (Instr.checkKey b 10000 9 (.string k)).run Tryz.prog w = .ok () w := fun b => by
    unfold Instr.checkKey
    simp only [Sem.run_bind, Mx.run_und v_tS, Result.andThen_ok, Sem.run_pure]
  rcases h with ⟨rfl, rfl⟩ | ⟨mb, es, cl, rfl, hh, hM⟩
  · have hfk := Mx.findKey_of (P := Tryz.prog) (w := w) v_tS (show Instr.findNow .string (.string k) [] 0 = some none from rfl)
    simp only [Instr.lookup, Sem.run_bind, Mx.run_und v_tM, Result.andThen_ok, Sem.run_pure, hck, hfk, v_zS]
    rfl
  · obtain ⟨r, g1, g2, _, _⟩ := find_s (k := k) (v := k) M es.toList 0 hM
    have hfk := Mx.findKey_of (P := Tryz.prog) (w := w) v_tS g1
    cases r with
    | none =>
      have hn : look M k = none := by
        cases e : look M k with
        | none => rfl
        | some x => rw [e] at g2; cases g2
      rw [hn]
      simp only [Instr.lookup, Sem.run_bind, Mx.run_und v_tM, Result.andThen_ok, Mx.run_getMap hh, Sem.run_pure, hck, hfk, v_zS]
      rfl
    | some q =>
      obtain ⟨x, hx, hq⟩ : ∃ x, look M k = some x ∧ q.2 = .string x := by
        cases e : look M k with
        | none => rw [e] at g2; cases g2
        | some x => rw [e] at g2; exact ⟨x, rfl, Option.some.inj g2⟩
      rw [hx]
      show _ = Result.ok (Value.tuple #[.string x, .bool true]) w
      rw [← hq]
      simp only [Instr.lookup, Sem.run_bind, Mx.run_und v_tM, Result.andThen_ok, Mx.run_getMap hh, Sem.run_pure, hck, hfk]
      rfl
def setMap (w : World) (mb : Nat) (es : Array MapEntry) (cl : Nat) : World := { w with heap := w.heap.setIfInBounds mb (.map es cl) }
theorem setMap_same {w : World} {mb : Nat} {es : Array MapEntry} {cl : Nat} (h : mb < w.heap.size) : (setMap w mb es cl).heap[mb]? = some (.map es cl) := by
  show (w.heap.setIfInBounds mb _)[mb]? = _
  rw [Array.getElem?_setIfInBounds, if_pos rfl, if_pos h]
theorem setMap_other {w : World} {mb j : Nat} {es : Array MapEntry} {cl : Nat} (h : j ≠ mb) : (setMap w mb es cl).heap[j]? = w.heap[j]? := by
  show (w.heap.setIfInBounds mb _)[j]? = _
  rw [Array.getElem?_setIfInBounds, if_neg (Ne.symm h)]
theorem setMap_size {w : World} {mb : Nat} {es : Array MapEntry} {cl : Nat} : (setMap w mb es cl).heap.size = w.heap.size := by
  show (w.heap.setIfInBounds mb _).size = _
  simp
theorem run_put {w : World} {mb cl : Nat} {es : Array MapEntry} {M : ML} (k v : ByteArray) (hh : w.heap[mb]? = some (.map es cl)) (hM : es.toList.map (fun e => (e.key, e.val)) = M.map entS) :
    ∃ es' cl', (Instr.mapUpdate 43 (.map (some mb)) (.string k) (.string v)).run Tryz.prog w = .ok () (setMap w mb es' cl') ∧ es'.toList.map (fun e => (e.key, e.val)) = (put M k v).map entS := by
  obtain ⟨r, g1, _, g3, g4⟩ := find_s (k := k) (v := v) M es.toList 0 hM
  have hck : ∀ b, (Instr.checkKey b 10000 9 (.string k)).run Tryz.prog w = .ok () w := fun b => by
    unfold Instr.checkKey
    simp only [Sem.run_bind, Mx.run_und v_tS, Result.andThen_ok, Sem.run_pure]
  have hfk := Mx.findKey_of (P := Tryz.prog) (w := w) v_tS g1
  cases r with
  | none =>
    refine ⟨es.push { key := .string k, val := .string v, born := cl }, cl + 1, ?_, ?_⟩
    · simp only [Instr.mapUpdate, Sem.run_bind, Mx.run_und v_tM, Result.andThen_ok, Mx.run_getMap hh, hck, hfk]
      exact MapKept.run_setObj_map _ hh
    · rw [g3 rfl, Array.toList_push, List.map_append, List.map_append, hM]
      rfl
  | some q =>
    obtain ⟨j, x⟩ := q
    obtain ⟨d, e1, e2, e3⟩ := g4 j x rfl
    have hj : j = d := by omega
    subst hj
    refine ⟨es.modify j (upE k v), cl, ?_, by rw [Array.toList_modify]; exact e3⟩
    have e4 : ((es[j]?).map (·.key)).getD (.string k) = .string k := by
      rw [← Array.getElem?_toList, e2]
      rfl
    have e5 : (Instr.keyThatStays (.string k) (.string k)).run Tryz.prog w = .ok (.string k) w := by
      simp [Instr.keyThatStays, Instr.sameBits, ba_refl]
    simp only [Instr.mapUpdate, Sem.run_bind, Mx.run_und v_tM, Result.andThen_ok, Mx.run_getMap hh, hck, hfk, e4, e5]
    exact MapKept.run_setObj_map _ hh
end
end Go.Proofs.YtaikgomojnfimaaGreatDoor
