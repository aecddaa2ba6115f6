/-
  The map of tools by a run, and small laws.
-/
import Derived.Test.YthocoonhoilmdaaGreatDoorVfW
import Derived.Test.YthocoonhoilmdaaGreatDoorHk
import Derived.Test.YthocoonhoilmdaaGreatDoorXMxBB
import Derived.Test.YthocoonhoilmdaaGreatDoorXMxAD
import Derived.Test.YthocoonhoilmdaaGreatDoorXMxQ
import Derived.Test.YthocoonhoilmdaaGreatDoorXMx16
import Derived.Lib.SlBytesConst
import Derived.Deep.RegionLaw
import Derived.Deep.RegionWith
import Derived.Deep.RegionHeld3
import Derived.RegionTactic
import Derived.WalkKit
import Derived.WalkSpells
import Derived.StillTactics
import Derived.LoopIn
import Derived.RowKit3
import Derived.Below
import Derived.OwnWalk
import Derived.KernelRfl
open Go Go.Mx Go.RowKit
namespace Go.Proofs.YthocoonhoilmdaaGreatDoor
set_option maxRecDepth 100000
noncomputable section
/-! runs; the tools' map; small laws -/
def R0 : CK := run Tryz.prog 9 (hkL hk0) 100000
theorem r0 : CKok Tryz.prog 9 R0 := run_sound follows nameOK hk0ok 100000
/-! the tools -/
def namesL : List (List Nat × Nat) := [([116, 114, 117, 101], 24), ([102, 97, 108, 115, 101], 25), ([101, 99, 104, 111], 26), ([112, 114, 105, 110, 116, 102], 27), ([99, 97, 116], 28), ([99, 112], 29), ([109, 118], 30), ([114, 109], 31), ([109, 107, 100, 105, 114], 32), ([114, 109, 100, 105, 114], 33), ([116, 111, 117, 99, 104], 34), ([116, 101, 115, 116], 35), ([91], 36), ([99, 97, 108, 99], 37)]
def namesK : List (List Nat × Nat) → E → Bool
  | [], es => entN es
  | (nm, g) :: r, es => Mx.entK es fun x v rr => ite1 (sameV x (.s nm)) <| ite1 (sameV v (.f g .nil)) (namesK r rr)
def namV (x : List Nat × Nat) : Value × Value := (.string (bs x.1), .func (.func x.2) #[] #[])
theorem names_out {ρ : Ren} : ∀ (L : List (List Nat × Nat)) (es : E) (l : List MapEntry), namesK L es = true → ER ρ es l → l.map (fun e => (e.key, e.val)) = L.map namV
  | [], es, l, hk, her => by rw [none_out hk her]; rfl
  | (nm, g) :: r, es, l, hk, her => by
    obtain ⟨x, v, b, rr, hE, hk1⟩ := entK_spec (show Mx.entK es _ = true from hk)
    obtain ⟨e1, hk2⟩ := ite1_spec hk1
    obtain ⟨e2, hk3⟩ := ite1_spec hk2
    have e1' := sameV_eq e1
    have e2' := sameV_eq e2
    rw [hE, e1', e2'] at her
    simp only [ER] at her
    obtain ⟨y, ys, rfl, g1, g2, _, g4⟩ := her
    simp only [VR] at g1
    simp only [VR, VRs] at g2
    obtain ⟨vs, rfl, gv⟩ := g2
    rw [List.map_cons, List.map_cons, names_out r rr ys hk3 g4, g1.1, gv]
    rfl
def allK : KV := fun y h _ => vM y fun id => oM (gt O.none id h) fun es _ => namesK namesL es
theorem runAll : R0 18 .nil .leaf 9 allK (fun _ _ _ => false) = true := by kernel_rfl
theorem aaBody : ∃ c, Tryz.f18.body = some c := ⟨_, rfl⟩
theorem t_tM : Tryz.prog.underlying 55 = some (.map 9 53) := by kernel_rfl
theorem find_nam {k : ByteArray} : ∀ (L : List (List Nat × Nat)) (es : List MapEntry) (i : Nat), es.map (fun e => (e.key, e.val)) = L.map namV → ∃ r, Instr.findNow .string (.string k) es i = some r ∧ r.map (·.2) = (L.find? fun x => k == bs x.1).map fun x => .func (.func x.2) #[] #[]
  | [], [], _, _ => ⟨none, rfl, rfl⟩
  | [], _ :: _, _, h => by cases h
  | _ :: _, [], _, h => by cases h
  | x :: L, e :: es, i, h => by
    simp only [List.map_cons, List.cons.injEq] at h
    obtain ⟨h1, h2⟩ := h
    have hk : e.key = .string (bs x.1) := congrArg Prod.fst h1
    have hv : e.val = .func (.func x.2) #[] #[] := congrArg Prod.snd h1
    unfold Instr.findNow
    rw [hk]
    simp only [Instr.sameNow]
    cases hc : k == bs x.1 with
    | true =>
      refine ⟨some (i, e.val), rfl, ?_⟩
      simp [hc, hv]
    | false =>
      obtain ⟨r, g1, g2⟩ := find_nam L es (i + 1) h2
      refine ⟨r, g1, ?_⟩
      rw [g2]
      simp [hc]
/-- the tools' map, and what a name finds in it -/
theorem all_st (W : World) : Calls Tryz.prog 18 #[] W fun e w => ∃ mb, e = .returned (.map (some mb)) ∧ Below W.heap.size W w ∧
    ∀ (k : ByteArray) (g : Nat), ((namesL.find? fun x => k == bs x.1).map fun x => Value.func (.func x.2) #[] #[]) = some (.func (.func g) #[] #[]) → (Instr.lookup 55 (.map (some mb)) (.string k) true).run Tryz.prog w = .ok (.tuple #[.func (.func g) #[] #[], .bool true]) w := by
  obtain ⟨c, hb⟩ := aaBody
  obtain ⟨ρ0, s0, g0⟩ := st_leaf (ng := 9) W
  refine (calls_st nameOK r0 (fn := Tryz.f18) (by kernel_rfl) hb s0 g0 (vs := []) (by simp only [VRs]) runAll).mono ?_
  rintro e w ⟨ρ, y, v, h, nx, rfl, hv, s, hk, x⟩
  have hst := stays_leaf x
  obtain ⟨mid, hy, hk2⟩ := vM_spec (show vM y _ = true from hk)
  obtain ⟨E, cl, hoM, hk3⟩ := oM_spec hk2
  rw [hy] at hv
  obtain ⟨M, es, hM, rfl, hhm, her⟩ := s.map hoM hv
  have hL := names_out _ _ _ hk3 her
  refine ⟨M.blk, rfl, ⟨hst.os, hst.tape, hst.output, hst.size, hst.heap⟩, fun k g hg => ?_⟩
  obtain ⟨r, g1, g2⟩ := find_nam (k := k) namesL es.toList 0 hL
  rw [hg] at g2
  have hck : ∀ b, (Instr.checkKey b 10000 9 (.string k)).run Tryz.prog w = .ok () w := fun b => by
    unfold Instr.checkKey
    simp only [Sem.run_bind, Mx.run_und v_tS, Result.andThen_ok, Sem.run_pure]
  have hfk := Mx.findKey_of (P := Tryz.prog) (w := w) v_tS g1
  cases r with
  | none => cases g2
  | some q =>
    have hq : q.2 = .func (.func g) #[] #[] := Option.some.inj g2
    rw [← hq]
    simp only [Instr.lookup, Sem.run_bind, Mx.run_und t_tM, Result.andThen_ok, Mx.run_getMap hhm, Sem.run_pure, hck, hfk]
    rfl
/-- texts in a row -/
structure ArgsAt (w : World) (g off : Nat) (l : List ByteArray) : Prop where
  lt : g < w.heap.size
  cells : ∀ (k : Nat) (h : k < l.length), w.cell? ⟨g, off + k, none⟩ = some (.string l[k])
theorem ArgsAt.below {w w' : World} {g off : Nat} {l : List ByteArray} (h : ArgsAt w g off l) (hb : Below w.heap.size w w') : ArgsAt w' g off l :=
  ⟨Nat.lt_of_lt_of_le h.lt hb.size, fun k hk => by rw [hb.cell (by exact h.lt)]; exact h.cells k hk⟩
theorem below_stays {w w' : World} (h : Stays w w') : Below w.heap.size w w' := ⟨h.os, h.tape, h.output, h.size, h.heap⟩
theorem set_same {w : World} {b o : Nat} {v : Value} {arr : Array Value} {ty : TypeId} {fz : Nat × Nat} (hh : w.heap[b]? = some (.cells arr ty fz)) : (w.setCell ⟨b, o, none⟩ v).heap[b]? = some (.cells (arr.setIfInBounds o v) ty fz) := by
  unfold World.setCell
  show (w.heap.modify b _)[b]? = _
  rw [Array.getElem?_modify, if_pos rfl, hh]
  rfl
theorem set_other {w : World} {b o j : Nat} {v : Value} (h : j ≠ b) : (w.setCell ⟨b, o, none⟩ v).heap[j]? = w.heap[j]? := by
  unfold World.setCell
  show (w.heap.modify b _)[j]? = _
  rw [Array.getElem?_modify, if_neg (Ne.symm h)]
theorem set_size {w : World} {b o : Nat} {v : Value} : (w.setCell ⟨b, o, none⟩ v).heap.size = w.heap.size := by
  unfold World.setCell
  show (w.heap.modify b _).size = _
  simp
theorem nf_free {w : World} {b i n : Nat} {arr : Array Value} {ty : TypeId} {fz : Nat × Nat} (hh : w.heap[b]? = some (.cells arr ty fz)) (hf : free n fz) (hi : i < n) : w.frozen? ⟨b, i, none⟩ = false := by
  have h1 := hf i hi
  unfold World.frozen?
  simp only [hh]
  cases e1 : decide (fz.1 ≤ i) with
  | false => rfl
  | true =>
    rw [Bool.true_and]
    exact decide_eq_false fun h2 => h1 ⟨of_decide_eq_true e1, .inl h2⟩
/-- a slice of these texts -/
def ArgV (w : World) (o : Option Addr) (cap : Nat) (l : List ByteArray) : Prop := l = [] ∨ ∃ g off, o = some ⟨g, off, none⟩ ∧ l.length ≤ cap ∧ ArgsAt w g off l
theorem ArgV.below {w w' : World} {o : Option Addr} {cap : Nat} {l : List ByteArray} (h : ArgV w o cap l) (hb : Below w.heap.size w w') : ArgV w' o cap l := by
  rcases h with h | ⟨g, off, h1, h2, h3⟩
  · exact .inl h
  · exact .inr ⟨g, off, h1, h2, h3.below hb⟩
theorem cell_u {w : World} {b i : Nat} {a : Array Value} {ty : TypeId} {fz : Nat × Nat} (hh : w.heap[b]? = some (.cells a ty fz)) : w.cell? ⟨b, i, none⟩ = a[i]? := by
  unfold World.cell?
  simp [hh]
/-! append to none of some texts -/
theorem run_append_none {w : World} {o : Option Addr} {c : Nat} {ty : TypeId} : (Builtin.append_ #[28, 28] ty #[.slice none 0 0, .slice o 0 c]).run Tryz.prog w = .ok (.slice none 0 0) w := by
  obtain ⟨i0, hi, hz0, hz1, hz2⟩ := info_parts pa_info9
  cases o with
  | none => simp [Builtin.append_, run_underlying pa_t22, sizeOf, typeInfo, hi, Builtin.lenOf, Builtin.firstCells]
  | some a =>
    have hfc := run_firstCells_some (P := Tryz.prog) w i0.size 0 a 0 c [] (by simp) (by simp)
    simp [Builtin.append_, run_underlying pa_t22, sizeOf, typeInfo, hi, Builtin.lenOf, hfc]
theorem wpList_append_args {ops : Array Oper} {rest : List Oper} {o : Oper} {a : Act} {Q : Exit → Act → World → Prop} (hgd : o.guard = none) (s x : Operand) (ho : o.op = .call { callee := .builtin .append, args := #[s, x], argTypes := #[28, 28] }) (hs : a.eval s = .slice none 0 0)
    (oo : Option Addr) (n cap : Nat) (l : List ByteArray) (hn : l.length = n) (hx : a.eval x = .slice oo n cap) (w : World) (hA : ArgV w oo cap l) (hl : n ≤ 100)
    (h : ∀ o' cap' w', ArgV w' o' cap' l → (0 < n → ∃ g, o' = some ⟨g, 0, none⟩ ∧ w.heap.size ≤ g) → w'.ownsRow w.heap.size 9 1 (.slice o' n cap') n (l.map Value.string) → Below w.heap.size w w' → wpList Tryz.prog ops Q rest (a.put o.dst (.slice o' n cap')) w') : wpList Tryz.prog ops Q (o :: rest) a w := by
  obtain ⟨i0, hi, hz0, hz1, hz2⟩ := info_parts pa_info9
  subst hn
  rcases hA with rfl | ⟨g, off, rfl, hc, hA⟩
  · refine wpList_plain hgd fun K hK => ?_
    have hr : (Builtin.append_ #[28, 28] o.type #[.slice none 0 0, .slice oo 0 cap]).run Tryz.prog w = .ok (.slice none 0 0) w := run_append_none
    have hx : a.eval x = .slice oo 0 cap := hx
    unfold Oper.wp execOp
    simp only [ho, resolve, invoke, builtin, Sem.run_bind, Sem.run_pure, Result.andThen_ok, List.map_toArray, List.map_cons, List.map_nil, hs, hx, hr]
    exact hK _ _ (h none 0 w (.inl rfl) (fun h => absurd h (by simp)) ⟨rfl, .inl ⟨rfl, rfl⟩⟩ (Below.refl _ _))
  · have hA6 : ∀ (j : Nat) u, (l.map Value.string)[j]? = some u → w.cell? ((⟨g, off, none⟩ : Addr).add j) = some u := fun j u hj => by
      rw [Addr.add_lit]
      rw [List.getElem?_map] at hj
      cases e : l[j]? with
      | none => rw [e] at hj; cases hj
      | some s =>
        rw [e] at hj
        obtain ⟨hj2, rfl⟩ := List.getElem?_eq_some_iff.1 e
        have := hA.cells j hj2
        rw [this]
        exact hj
    have hown : w.ownsRow w.heap.size 9 1 (.slice none 0 0) 0 [] := ⟨rfl, .inl ⟨rfl, rfl⟩⟩
    refine wpList_append_own _ hgd _ _ 28 ho w.heap.size 9 i0 _ 1 16 pa_t22 hi hz0 hz1 hz2 rfl (by decide) _ _ _ hs hown ⟨g, off, none⟩ l.length cap (l.map Value.string) hx (by rw [List.length_map]; omega) hA6 (by intro u hu; obtain ⟨x, _, rfl⟩ := List.mem_map.1 hu; rfl) (by unfold maxLen; omega) (by omega) (Nat.le_refl _) ?_
    intro v7 w7 hown7 hgrow7 _
    rw [Nat.zero_add, List.nil_append] at hown7
    have hb7 : Below w.heap.size w w7 := (Below.refl _ _).grown hgrow7 (Nat.le_refl _) (fun j hj => by cases hj)
    rcases hown7.2 with ⟨rfl, h0⟩ | ⟨g2, cap2, cur, rfl, r1, r2, r3, r4, r5, r6⟩
    · have hl0 : l = [] := List.eq_nil_of_length_eq_zero h0
      subst hl0
      exact h none 0 w7 (.inl rfl) (fun h => absurd h (by simp)) hown7 hb7
    · refine h (some ⟨g2, 0, none⟩) cap2 w7 (.inr ⟨g2, 0, rfl, r3, (Array.getElem?_eq_some_iff.1 r2).1, fun k hk => ?_⟩) (fun _ => ⟨g2, rfl, r1⟩) hown7 hb7
      have h1 := hown7.cells (g := g2) rfl k (.string l[k]) (by
        show (l.map Value.string)[k]? = _
        rw [List.getElem?_map, List.getElem?_eq_getElem hk]
        rfl)
      rwa [Addr.add_lit] at h1
theorem cell_set {w : World} {a : Addr} {v u : Value} (h : w.cell? a = some u) : (w.setCell a v).cell? a = some v := World.cell?_setCell_same _ _ _ h
theorem frozen_set {w : World} {a b : Addr} {v : Value} (h : w.frozen? a = false) : (w.setCell b v).frozen? a = false := by rw [World.frozen?_setCell]; exact h
theorem td_size : (Tryz.prog.info? 33).map (·.size) = some 3 := by kernel_rfl
theorem res_told {w : World} {tmps : Array Value} {tb : Nat} {a b c : Value} (hp : tmps.getD 10 undef = .pointer (some ⟨tb, 0, none⟩)) (hg : w.heap[tb]? = some (.cells #[a, b, c] 33 (0, 0))) : (results Tryz.f9 tmps).run Tryz.prog w = .ok (.agg #[a, b, c]) w :=
  results_cell_row rfl tmps w tb 33 _ _ _ hp hg Tryz.underlying33 rfl td_size
theorem free8 : free 8 (0, 0) := fun i _ hc => by
  rcases hc with ⟨_, h⟩
  rcases h with h | h <;> simp at h
end
end Go.Proofs.YthocoonhoilmdaaGreatDoor
