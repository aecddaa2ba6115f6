/-
  What the law does in a round.
-/
import Derived.Test.YthocoonhoilmdaaGreatDoorCrW
import Derived.Test.YthocoonhoilmdaaGreatDoorXMxAL
import Derived.Deep.RegionLaw
import Derived.Deep.RegionWith
import Derived.Deep.RegionHeld3
import Derived.RegionTactic
import Derived.WalkKit
import Derived.WalkSpells
import Derived.StillTactics
import Derived.LoopIn
import Derived.RowKit3
import Derived.Below
import Derived.OwnWalk
import Derived.KernelRfl
open Go Go.Mx Go.RowKit
namespace Go.Proofs.YthocoonhoilmdaaGreatDoor
set_option maxRecDepth 100000
noncomputable section
/-! the law, walked -/
def txt (l : List UInt8) : ByteArray := ⟨l.toArray⟩
theorem conv_none {w : World} (c : Nat) : (convert 24 9 (.slice none 0 c)).run Tryz.prog w = .ok (.string ⟨#[]⟩) w := by
  simp [convert, run_underlying v_t28, run_underlying v_t5, run_underlying v_tS]
  rfl
theorem dgBody : ∃ c, Tryz.f7.body = some c := ⟨_, rfl⟩
def dgR (k : Nat) : Bool := R0 7 (.cons (.i .i64 (Int.ofNat k)) .nil) .leaf 9 (fun y _ _ => sameV y (.s [48 + k])) (fun _ _ _ => false)
theorem runDg : ∀ k, k < 10 → dgR k = true
  | 0, _ => by kernel_rfl
  | 1, _ => by kernel_rfl
  | 2, _ => by kernel_rfl
  | 3, _ => by kernel_rfl
  | 4, _ => by kernel_rfl
  | 5, _ => by kernel_rfl
  | 6, _ => by kernel_rfl
  | 7, _ => by kernel_rfl
  | 8, _ => by kernel_rfl
  | 9, _ => by kernel_rfl
  | n + 10, h => absurd h (by omega)
def dk (k : Nat) : ByteArray := ⟨#[UInt8.ofNat (48 + k)]⟩
theorem dig_any (k : Nat) (h : k < 10) (W : World) : Calls Tryz.prog 7 #[.int .i64 k] W fun e w' => e = .returned (.string (dk k)) ∧ Below W.heap.size W w' := by
  obtain ⟨c, hb⟩ := dgBody
  refine (calls_of_ck nameOK r0 (fn := Tryz.f7) (by kernel_rfl) hb (vs := [.int .i64 k]) (φ := fun v => v = .string (dk k)) (fun ρ => ?_) (runDg k h) (fun ρ' y v h' nx' hk hv => ?_) W).mono ?_
  · simp only [VRs]
    exact ⟨_, _, rfl, VRi _ _ _, rfl⟩
  · have e := sameV_eq hk
    subst e
    simp only [VR] at hv
    rw [hv.1]
    rfl
  · rintro e W' ⟨v, rfl, rfl, hs⟩
    exact ⟨rfl, below_stays hs⟩
theorem conv_any {w : World} {o : Option Addr} {L : List UInt8} (c : Nat) (h : BytesV w o L) : (convert 24 9 (.slice o L.length c)).run Tryz.prog w = .ok (.string (txt L)) w := by
  have ad : ∀ a : Addr, (∀ j (_ : j < L.length), w.cell? (a.add j) = some (.int .u8 (L[j].toNat : Int))) → (convert 24 9 (.slice (some a) L.length c)).run Tryz.prog w = .ok (.string ⟨L.toArray⟩) w := fun a ha => run_convert_bytes_back w 24 9 5 a c L v_t28 v_t5 v_tS ha
  rcases h with rfl | ⟨ab, ao, rfl, _, h⟩
  · cases o with
    | some a => exact ad a fun j hj => absurd hj (Nat.not_lt_zero _)
    | none => exact conv_none c
  · exact ad _ fun j hj => h j _ (by rw [List.getElem?_map, List.getElem?_eq_getElem hj]; rfl)
/-- what the law's own file system holds behind so many rounds -/
structure LS (W w : World) (fb mb : Nat) (g : Nat → Bool) (L : Nat → List UInt8) (k : Nat) : Prop where
  below : Below W.heap.size W w
  lefb : W.heap.size ≤ fb
  lemb : W.heap.size ≤ mb
  fs : ∃ T used, FsIs w fb mb T 20 5000 used T.length ∧ TreeK g L W.heap.size k w T ∧ 0 ≤ used ∧ used ≤ 200 * (k : Int)
theorem LS.mono {W w w' : World} {fb mb : Nat} {g : Nat → Bool} {L : Nat → List UInt8} {k : Nat} (h : LS W w fb mb g L k) (hb : Below w.heap.size w w') : LS W w' fb mb g L k := by
  obtain ⟨T, used, h1, h2, h3, h4⟩ := h.fs
  exact ⟨h.below.trans (hb.mono h.below.size), h.lefb, h.lemb, T, used, h1.below hb, h2.below hb, h3, h4⟩
theorem LS.skip {W w : World} {fb mb : Nat} {g : Nat → Bool} {L : Nat → List UInt8} {k : Nat} (h : LS W w fb mb g L k) (hg : g k = true) : LS W w fb mb g L (k + 1) := by
  obtain ⟨T, used, h1, h2, h3, h4⟩ := h.fs
  exact ⟨h.below, h.lefb, h.lemb, T, used, h1, h2.skip hg, h3, by omega⟩
/-- a row of texts stays owned behind a step that touches the file system alone -/
theorem own_keep {B : Nat} {w w' : World} {v : Value} {n : Nat} {xs : List Value} (h : w.ownsRow B 9 1 v n xs) {fb mb : Nat} {T : TT} {nodes bytes used clock : Int} (hf : FsIs w fb mb T nodes bytes used clock) (hk : ∀ j, j < w.heap.size → j ≠ fb → j ≠ mb → w'.heap[j]? = w.heap[j]?) : w'.ownsRow B 9 1 v n xs := by
  refine ⟨h.1, ?_⟩
  rcases h.2 with hn | ⟨g, cap, cur, rfl, hb2, hg, rest⟩
  · exact .inl hn
  · refine .inr ⟨g, cap, cur, rfl, hb2, ?_, rest⟩
    rw [hk g (Array.getElem?_eq_some_iff.1 hg).1 (fun e => ?_) (fun e => ?_)]
    · exact hg
    · rw [e, hf.fs] at hg
      injection hg with hg
      injection hg with _ hg _
      exact absurd hg (by decide)
    · obtain ⟨es, cl, h5, _⟩ := hf.mp
      rw [e, h5] at hg
      cases hg
theorem write_step {W w : World} {fb mb : Nat} {g : Nat → Bool} {L : Nat → List UInt8} {k : Nat} (h : LS W w fb mb g L k) (hm : MaxIs W) (hk : k < 10) (hg : g k = false) (hL : (L k).length ≤ 200) (bo : Option Addr) (bc : Nat) (hb : BytesV W bo (L k)) :
    Calls Tryz.prog 8 #[.pointer (some ⟨fb, 0, none⟩), .string (qk k), .slice bo (L k).length bc, .bool false] w fun e w' => (∃ v, e = .returned v) ∧ LS W w' fb mb g L (k + 1) ∧ ∀ v n xs, w.ownsRow W.heap.size 9 1 v n xs → w'.ownsRow W.heap.size 9 1 v n xs := by
  obtain ⟨T, used, hF, hT, h3, h4⟩ := h.fs
  have hlen := hT.len
  have hfl : fb < w.heap.size := (Array.getElem?_eq_some_iff.1 hF.fs).1
  have hml : mb < w.heap.size := by
    obtain ⟨es, cl, h5, _⟩ := hF.mp
    exact (Array.getElem?_eq_some_iff.1 h5).1
  have hbs := h.below.size
  have hfb := h.lefb
  have hmb := h.lemb
  have hno := hT.gone k hk (.inl (Nat.le_refl _))
  refine (write_new hF (hm.below hm.lt h.below) (qk k) (qk k) (by show 3 ≤ 1100000; omega) (fabs_qk T hk) (kind_gone hk hno) hno (by omega) bo (L k).length bc (by omega) h3 (by omega) (by omega) (by omega) (by omega) (by omega) (DataAt w.heap.size (L k)) fun w1 hb1 => ?_).mono ?_
  · refine cat_said hb1 _ (L k) bo bc (by omega) ?_
    rcases hb with hb | ⟨ab, ao, e, h5, h6⟩
    · exact .inl hb
    · refine .inr ⟨ab, ao, e, by omega, by omega, fun j u hj => ?_⟩
      have := h6 j u hj
      rw [Addr.add_lit] at this ⊢
      rw [h.below.cell (by exact h5)]
      exact this
  · rintro e w' ⟨rfl, w5, o, c, hd, hF', hB, hz, ho1, ho2, ho3, hk5⟩
    have hz2 := hB.size
    have hkeep : ∀ j, j < w.heap.size → j ≠ fb → j ≠ mb → w'.heap[j]? = w.heap[j]? := fun j h1 h2 h3 => (hB.kept j (by omega) h2 h3).trans (hk5 j h1 h2)
    have hd' : DataAt W.heap.size (L k) w' o := by
      rcases hd with hd | ⟨h0, g2, e1, e2, e3, e4⟩
      · exact .inl hd
      · refine .inr ⟨h0, g2, e1, by omega, by omega, fun j u hj => ?_⟩
        have := e4 j u hj
        rw [Addr.add_lit] at this ⊢
        unfold World.cell? at this ⊢
        rw [hB.kept g2 e3 (by omega) (by omega)]
        exact this
    refine ⟨⟨_, rfl⟩, ⟨⟨hB.os.trans (ho1.trans h.below.os), hB.tape.trans (ho2.trans h.below.tape), hB.output.trans (ho3.trans h.below.output), by omega, fun j hj => (hkeep j (by omega) (by omega) (by omega)).trans (h.below.block j hj)⟩, hfb, hmb, _, _, by rw [List.length_append]; exact hF', hT.write hk hg o c _ hd' hF (by omega) hkeep, by omega, by omega⟩, fun v n xs hown => own_keep hown hF hkeep⟩
theorem wpList_append_more {ops : Array Oper} {rest : List Oper} {o : Oper} {a : Act} {Q : Exit → Act → World → Prop} (hgd : o.guard = none) (s x : Operand) (ho : o.op = .call { callee := .builtin .append, args := #[s, x], argTypes := #[28, 28] })
    (B : Nat) (w6 : World) (hB : B ≤ w6.heap.size) (v : Value) (n : Nat) (l : List ByteArray) (hn : l.length = n) (hl : n ≤ 100) (hs : a.eval s = v) (hown : w6.ownsRow B 9 1 v n (l.map Value.string)) (c : ByteArray) (hx : a.eval x = .slice (some ⟨w6.heap.size, 0, none⟩) 1 1)
    (h : ∀ g2 cap2 w7, w7.ownsRow B 9 1 (.slice (some ⟨g2, 0, none⟩) (n + 1) cap2) (n + 1) ((l ++ [c]).map Value.string) → w6.grownBy w7 v.ownBlock → wpList Tryz.prog ops Q rest (a.put o.dst (.slice (some ⟨g2, 0, none⟩) (n + 1) cap2)) w7) : wpList Tryz.prog ops Q (o :: rest) a (w6.alloc (.cells #[.string c] 9)) := by
  obtain ⟨i0, hi, hz0, hz1, hz2⟩ := info_parts pa_info9
  have hb61 : Below w6.heap.size w6 (w6.alloc (.cells #[.string c] 9)) := (Below.refl _ _).alloc (Nat.le_refl _) _
  have hown2 : (w6.alloc (.cells #[.string c] 9)).ownsRow B 9 1 v n (l.map Value.string) := by
    refine ⟨hown.1, ?_⟩
    rcases hown.2 with hn | ⟨g, cap, cur, rfl, hb2, hg, rest⟩
    · exact .inl hn
    · exact .inr ⟨g, cap, cur, rfl, hb2, by rw [hb61.block g (Array.getElem?_eq_some_iff.1 hg).1]; exact hg, rest⟩
  have hA6 : ∀ (j : Nat) u, [Value.string c][j]? = some u → (w6.alloc (.cells #[.string c] 9)).cell? ((⟨w6.heap.size, 0, none⟩ : Addr).add j) = some u := fun j u hj => by
    rw [Addr.add_lit, cell_u (heap_alloc_new _ _)]
    simpa using hj
  refine wpList_append_own _ hgd _ _ 28 ho B 9 i0 _ 1 16 pa_t22 hi hz0 hz1 hz2 rfl (by decide) _ _ _ hs hown2 ⟨w6.heap.size, 0, none⟩ 1 1 [.string c] hx (by simp) hA6 (by intro u hu; rw [List.mem_singleton] at hu; subst hu; rfl) (by unfold maxLen; omega) (by omega) (by have := hb61.size; omega) ?_
  intro v7 w7 hown7 hgrow7 _
  have hg7 : w6.grownBy w7 v.ownBlock := ⟨hgrow7.os, hgrow7.tape, hgrow7.output, Nat.le_trans hb61.size hgrow7.size, fun k hk hne => (hgrow7.block k (Nat.lt_of_lt_of_le hk hb61.size) hne).trans (hb61.block k hk)⟩
  rcases hown7.2 with ⟨_, h0⟩ | ⟨g2, cap2, cur, rfl, r1, r2, r3, r4, r5, r6⟩
  · exact absurd h0 (by omega)
  · exact h g2 cap2 w7 (by rw [List.map_append]; exact hown7) hg7
/-- what the law's own file system holds stands behind an append to a row of texts -/
theorem LS.grown {W w w' : World} {fb mb : Nat} {g : Nat → Bool} {L : Nat → List UInt8} {k : Nat} (h : LS W w fb mb g L k) {v : Value} {l : List ByteArray} (hl : l.length = k) (hown : w.ownsRow W.heap.size 9 1 v k (l.map Value.string)) (hg : w.grownBy w' v.ownBlock) : LS W w' fb mb g L k := by
  obtain ⟨T, used, hF, hT, h3, h4⟩ := h.fs
  have hfl : fb < w.heap.size := (Array.getElem?_eq_some_iff.1 hF.fs).1
  obtain ⟨es, cl, hm1, hm2⟩ := hF.mp
  have hml : mb < w.heap.size := (Array.getElem?_eq_some_iff.1 hm1).1
  have nef : some fb ≠ v.ownBlock := fun e => by
    rcases hown.2 with ⟨rfl, _⟩ | ⟨g', cap, cur, rfl, _, hg', _⟩
    · cases e
    · simp only [Value.ownBlock, Option.some.injEq] at e
      rw [← e, hF.fs] at hg'
      injection hg' with hg'
      injection hg' with _ hg' _
      exact absurd hg' (by decide)
  have nem : some mb ≠ v.ownBlock := fun e => by
    rcases hown.2 with ⟨rfl, _⟩ | ⟨g', cap, cur, rfl, _, hg', _⟩
    · cases e
    · simp only [Value.ownBlock, Option.some.injEq] at e
      rw [← e, hm1] at hg'
      cases hg'
  refine ⟨h.below.grown hg h.below.size (fun j hj => (hown.lt j hj).1), h.lefb, h.lemb, T, used, ⟨by rw [hg.block fb hfl nef]; exact hF.fs, es, cl, by rw [hg.block mb hml nem]; exact hm1, hm2⟩, ⟨hT.len, hT.gone, fun j h1 h2 h5 => ?_⟩, h3, h4⟩
  obtain ⟨o, c, t, e1, e2⟩ := hT.there j h1 h2 h5
  refine ⟨o, c, t, e1, ?_⟩
  rcases e2 with e2 | ⟨h0, gd, d1, d2, d3, d4⟩
  · exact .inl e2
  · have ned : some gd ≠ v.ownBlock := fun e => by
      have hz : 0 < (L j).length := List.length_pos_iff.2 h0
      have hc := d4 0 (Mx.byteV (L j)[0]) (by rw [List.getElem?_map, List.getElem?_eq_getElem hz]; rfl)
      have hk : 0 < l.length := by omega
      have hc2 := hown.cells (g := gd) e.symm 0 (.string l[0]) (by rw [List.getElem?_map, List.getElem?_eq_getElem hk]; rfl)
      rw [hc] at hc2
      cases hc2
    refine .inr ⟨h0, gd, d1, d2, Nat.lt_of_lt_of_le d3 hg.size, fun i u hj => ?_⟩
    have := d4 i u hj
    rw [Addr.add_lit] at this ⊢
    unfold World.cell? at this ⊢
    rw [hg.block gd d3 ned]
    exact this
set_option maxHeartbeats 1600000 in
set_option maxRecDepth 100000 in
theorem law_out {W : World} (lo go io : Option Addr) (n lc gn gc inn ic : Nat) (h : 10 < n ∨ gn < n ∨ 200 < inn) (hal : Calls Tryz.prog 5 #[] W fun e w' => e = .returned (.bool true) ∧ Below W.heap.size W w') :
    Calls Tryz.prog 3 #[.slice lo n lc, .slice go gn gc, .slice io inn ic] W fun e w' => e = .returned (.bool true) ∧ Below W.heap.size W w' := by
  have h' : (10 : Int) < n ∨ (¬ (10 : Int) < n ∧ (gn : Int) < n) ∨ (¬ (10 : Int) < n ∧ ¬ (gn : Int) < n ∧ (200 : Int) < inn) := by omega
  rcases h' with h1 | ⟨h1, h2⟩ | ⟨h1, h2, h3⟩
  all_goals
    go_enter Tryz.func3, Tryz.ntmps3
    go_wp2_with fail
    go_at_call 5
    refine hal.mono ?_
    rintro e w1 ⟨rfl, hb1⟩
    go_wp2
    go_ret
    exact ⟨rfl, hb1⟩
end
end Go.Proofs.YthocoonhoilmdaaGreatDoor
