/-
  What stands behind the law's loop, by the kernel. No condition.
-/
import Derived.Test.YtiinlpdophgfjaaGreatDoorHkC
import Derived.Test.YtiinlpdophgfjaaGreatDoorTpW
import Derived.Test.YtiinlpdophgfjaaGreatDoorXRowK6
open Go Go.Mx Go.RowKit
namespace Go.Proofs.YtiinlpdophgfjaaGreatDoor
set_option maxRecDepth 1000000
noncomputable section
/-- neither 37 nor 92 -/
def gMk : Nat := Nat.add (Nat.pow 2 37) (Nat.pow 2 92)
def goodT : V := .o 0 (.cons (.o 1 (.m gMk) 10 0 200) .nil) 0 0 0
def numT3 (k : Nat) : V := Nat.rec (motive := fun _ => V) (.i .i64 (Int.negSucc 9223372036854775807)) (fun k _ => Nat.rec (motive := fun _ => V) (rngV 11 18446744073709551613 1) (fun _ _ => rngV 11 0 18446744073709551614) k) k
def tmP (a b c : V) : T V := st V.nil c 2 (st V.nil b 1 (st V.nil a 0 .leaf))
def tpRun (τ : Nat → Nat) (C : O → Bool) (l : V) (ty : Nat) (b c : V) : Bool := stK O.none (.v powV (τ 4)) 4 (putO [(9, .c l ty false)] .leaf) (fun h0 => exec Tryz.prog 9 (hkL hkC) 100000 tpRest 77 (tmP goodT b c) .nil (.b false) h0 29 (retKP 6 4 C))
theorem tp_n0 (τ : Nat → Nat) (C : O → Bool) : tpRun τ C .nil 0 (numT3 0) .sn = C (.v powV (τ 4)) := by kernel_rfl
theorem tp_e0 (τ : Nat → Nat) (C : O → Bool) : tpRun τ C .nil 0 (numT3 0) .se = C (.v powV (τ 4)) := by kernel_rfl
theorem tp_0_1 (ty : Nat) (τ : Nat → Nat) (C : O → Bool) : tpRun τ C (elsV 0 9223372036854775807 1 12 .nil) ty (numT3 0) (.sl 9 0 1 1) = C (.v powV (τ 4)) := by kernel_rfl
theorem tp_0_2 (ty : Nat) (τ : Nat → Nat) (C : O → Bool) : tpRun τ C (elsV 0 9223372036854775807 2 12 .nil) ty (numT3 0) (.sl 9 0 2 1) = C (.v powV (τ 4)) := by kernel_rfl
theorem tp_0_3 (ty : Nat) (τ : Nat → Nat) (C : O → Bool) : tpRun τ C (elsV 0 9223372036854775807 3 12 .nil) ty (numT3 0) (.sl 9 0 3 1) = C (.v powV (τ 4)) := by kernel_rfl
theorem tp_0_4 (ty : Nat) (τ : Nat → Nat) (C : O → Bool) : tpRun τ C (elsV 0 9223372036854775807 4 12 .nil) ty (numT3 0) (.sl 9 0 4 1) = C (.v powV (τ 4)) := by kernel_rfl
theorem tp_0_5 (ty : Nat) (τ : Nat → Nat) (C : O → Bool) : tpRun τ C (elsV 0 9223372036854775807 5 12 .nil) ty (numT3 0) (.sl 9 0 5 1) = C (.v powV (τ 4)) := by kernel_rfl
theorem tp_0_6 (ty : Nat) (τ : Nat → Nat) (C : O → Bool) : tpRun τ C (elsV 0 9223372036854775807 6 12 .nil) ty (numT3 0) (.sl 9 0 6 1) = C (.v powV (τ 4)) := by kernel_rfl
theorem tp_0_7 (ty : Nat) (τ : Nat → Nat) (C : O → Bool) : tpRun τ C (elsV 0 9223372036854775807 7 12 .nil) ty (numT3 0) (.sl 9 0 7 1) = C (.v powV (τ 4)) := by kernel_rfl
theorem tp_0_8 (ty : Nat) (τ : Nat → Nat) (C : O → Bool) : tpRun τ C (elsV 0 9223372036854775807 8 12 .nil) ty (numT3 0) (.sl 9 0 8 1) = C (.v powV (τ 4)) := by kernel_rfl
theorem tp_0_9 (ty : Nat) (τ : Nat → Nat) (C : O → Bool) : tpRun τ C (elsV 0 9223372036854775807 9 12 .nil) ty (numT3 0) (.sl 9 0 9 1) = C (.v powV (τ 4)) := by kernel_rfl
theorem tp_0_10 (ty : Nat) (τ : Nat → Nat) (C : O → Bool) : tpRun τ C (elsV 0 9223372036854775807 10 12 .nil) ty (numT3 0) (.sl 9 0 10 1) = C (.v powV (τ 4)) := by kernel_rfl
theorem tp_n1 (τ : Nat → Nat) (C : O → Bool) : tpRun τ C .nil 0 (numT3 1) .sn = C (.v powV (τ 4)) := by kernel_rfl
theorem tp_e1 (τ : Nat → Nat) (C : O → Bool) : tpRun τ C .nil 0 (numT3 1) .se = C (.v powV (τ 4)) := by kernel_rfl
theorem tp_1_1 (ty : Nat) (τ : Nat → Nat) (C : O → Bool) : tpRun τ C (elsV 0 9223372036854775807 1 12 .nil) ty (numT3 1) (.sl 9 0 1 1) = C (.v powV (τ 4)) := by kernel_rfl
theorem tp_1_2 (ty : Nat) (τ : Nat → Nat) (C : O → Bool) : tpRun τ C (elsV 0 9223372036854775807 2 12 .nil) ty (numT3 1) (.sl 9 0 2 1) = C (.v powV (τ 4)) := by kernel_rfl
theorem tp_1_3 (ty : Nat) (τ : Nat → Nat) (C : O → Bool) : tpRun τ C (elsV 0 9223372036854775807 3 12 .nil) ty (numT3 1) (.sl 9 0 3 1) = C (.v powV (τ 4)) := by kernel_rfl
theorem tp_1_4 (ty : Nat) (τ : Nat → Nat) (C : O → Bool) : tpRun τ C (elsV 0 9223372036854775807 4 12 .nil) ty (numT3 1) (.sl 9 0 4 1) = C (.v powV (τ 4)) := by kernel_rfl
theorem tp_1_5 (ty : Nat) (τ : Nat → Nat) (C : O → Bool) : tpRun τ C (elsV 0 9223372036854775807 5 12 .nil) ty (numT3 1) (.sl 9 0 5 1) = C (.v powV (τ 4)) := by kernel_rfl
theorem tp_1_6 (ty : Nat) (τ : Nat → Nat) (C : O → Bool) : tpRun τ C (elsV 0 9223372036854775807 6 12 .nil) ty (numT3 1) (.sl 9 0 6 1) = C (.v powV (τ 4)) := by kernel_rfl
theorem tp_1_7 (ty : Nat) (τ : Nat → Nat) (C : O → Bool) : tpRun τ C (elsV 0 9223372036854775807 7 12 .nil) ty (numT3 1) (.sl 9 0 7 1) = C (.v powV (τ 4)) := by kernel_rfl
theorem tp_1_8 (ty : Nat) (τ : Nat → Nat) (C : O → Bool) : tpRun τ C (elsV 0 9223372036854775807 8 12 .nil) ty (numT3 1) (.sl 9 0 8 1) = C (.v powV (τ 4)) := by kernel_rfl
theorem tp_1_9 (ty : Nat) (τ : Nat → Nat) (C : O → Bool) : tpRun τ C (elsV 0 9223372036854775807 9 12 .nil) ty (numT3 1) (.sl 9 0 9 1) = C (.v powV (τ 4)) := by kernel_rfl
theorem tp_1_10 (ty : Nat) (τ : Nat → Nat) (C : O → Bool) : tpRun τ C (elsV 0 9223372036854775807 10 12 .nil) ty (numT3 1) (.sl 9 0 10 1) = C (.v powV (τ 4)) := by kernel_rfl
theorem tp_n2 (τ : Nat → Nat) (C : O → Bool) : tpRun τ C .nil 0 (numT3 2) .sn = C (.v powV (τ 4)) := by kernel_rfl
theorem tp_e2 (τ : Nat → Nat) (C : O → Bool) : tpRun τ C .nil 0 (numT3 2) .se = C (.v powV (τ 4)) := by kernel_rfl
theorem tp_2_1 (ty : Nat) (τ : Nat → Nat) (C : O → Bool) : tpRun τ C (elsV 0 9223372036854775807 1 12 .nil) ty (numT3 2) (.sl 9 0 1 1) = C (.v powV (τ 4)) := by kernel_rfl
theorem tp_2_2 (ty : Nat) (τ : Nat → Nat) (C : O → Bool) : tpRun τ C (elsV 0 9223372036854775807 2 12 .nil) ty (numT3 2) (.sl 9 0 2 1) = C (.v powV (τ 4)) := by kernel_rfl
theorem tp_2_3 (ty : Nat) (τ : Nat → Nat) (C : O → Bool) : tpRun τ C (elsV 0 9223372036854775807 3 12 .nil) ty (numT3 2) (.sl 9 0 3 1) = C (.v powV (τ 4)) := by kernel_rfl
theorem tp_2_4 (ty : Nat) (τ : Nat → Nat) (C : O → Bool) : tpRun τ C (elsV 0 9223372036854775807 4 12 .nil) ty (numT3 2) (.sl 9 0 4 1) = C (.v powV (τ 4)) := by kernel_rfl
theorem tp_2_5 (ty : Nat) (τ : Nat → Nat) (C : O → Bool) : tpRun τ C (elsV 0 9223372036854775807 5 12 .nil) ty (numT3 2) (.sl 9 0 5 1) = C (.v powV (τ 4)) := by kernel_rfl
theorem tp_2_6 (ty : Nat) (τ : Nat → Nat) (C : O → Bool) : tpRun τ C (elsV 0 9223372036854775807 6 12 .nil) ty (numT3 2) (.sl 9 0 6 1) = C (.v powV (τ 4)) := by kernel_rfl
theorem tp_2_7 (ty : Nat) (τ : Nat → Nat) (C : O → Bool) : tpRun τ C (elsV 0 9223372036854775807 7 12 .nil) ty (numT3 2) (.sl 9 0 7 1) = C (.v powV (τ 4)) := by kernel_rfl
theorem tp_2_8 (ty : Nat) (τ : Nat → Nat) (C : O → Bool) : tpRun τ C (elsV 0 9223372036854775807 8 12 .nil) ty (numT3 2) (.sl 9 0 8 1) = C (.v powV (τ 4)) := by kernel_rfl
theorem tp_2_9 (ty : Nat) (τ : Nat → Nat) (C : O → Bool) : tpRun τ C (elsV 0 9223372036854775807 9 12 .nil) ty (numT3 2) (.sl 9 0 9 1) = C (.v powV (τ 4)) := by kernel_rfl
theorem tp_2_10 (ty : Nat) (τ : Nat → Nat) (C : O → Bool) : tpRun τ C (elsV 0 9223372036854775807 10 12 .nil) ty (numT3 2) (.sl 9 0 10 1) = C (.v powV (τ 4)) := by kernel_rfl
theorem tp_n : ∀ k, k < 3 → ∀ (τ : Nat → Nat) (C : O → Bool), tpRun τ C .nil 0 (numT3 k) .sn = C (.v powV (τ 4))
  | 0, _ => tp_n0
  | 1, _ => tp_n1
  | 2, _ => tp_n2
  | k + 3, h => absurd h (by omega)
theorem tp_e : ∀ k, k < 3 → ∀ (τ : Nat → Nat) (C : O → Bool), tpRun τ C .nil 0 (numT3 k) .se = C (.v powV (τ 4))
  | 0, _ => tp_e0
  | 1, _ => tp_e1
  | 2, _ => tp_e2
  | k + 3, h => absurd h (by omega)
theorem tp_0 : ∀ m, 0 < m → m ≤ 10 → ∀ (ty : Nat) (τ : Nat → Nat) (C : O → Bool), tpRun τ C (elsV 0 9223372036854775807 m 12 .nil) ty (numT3 0) (.sl 9 0 m 1) = C (.v powV (τ 4))
  | 0, h, _ => absurd h (by omega)
  | 1, _, _ => tp_0_1
  | 2, _, _ => tp_0_2
  | 3, _, _ => tp_0_3
  | 4, _, _ => tp_0_4
  | 5, _, _ => tp_0_5
  | 6, _, _ => tp_0_6
  | 7, _, _ => tp_0_7
  | 8, _, _ => tp_0_8
  | 9, _, _ => tp_0_9
  | 10, _, _ => tp_0_10
  | m + 11, _, h => absurd h (by omega)
theorem tp_1 : ∀ m, 0 < m → m ≤ 10 → ∀ (ty : Nat) (τ : Nat → Nat) (C : O → Bool), tpRun τ C (elsV 0 9223372036854775807 m 12 .nil) ty (numT3 1) (.sl 9 0 m 1) = C (.v powV (τ 4))
  | 0, h, _ => absurd h (by omega)
  | 1, _, _ => tp_1_1
  | 2, _, _ => tp_1_2
  | 3, _, _ => tp_1_3
  | 4, _, _ => tp_1_4
  | 5, _, _ => tp_1_5
  | 6, _, _ => tp_1_6
  | 7, _, _ => tp_1_7
  | 8, _, _ => tp_1_8
  | 9, _, _ => tp_1_9
  | 10, _, _ => tp_1_10
  | m + 11, _, h => absurd h (by omega)
theorem tp_2 : ∀ m, 0 < m → m ≤ 10 → ∀ (ty : Nat) (τ : Nat → Nat) (C : O → Bool), tpRun τ C (elsV 0 9223372036854775807 m 12 .nil) ty (numT3 2) (.sl 9 0 m 1) = C (.v powV (τ 4))
  | 0, h, _ => absurd h (by omega)
  | 1, _, _ => tp_2_1
  | 2, _, _ => tp_2_2
  | 3, _, _ => tp_2_3
  | 4, _, _ => tp_2_4
  | 5, _, _ => tp_2_5
  | 6, _, _ => tp_2_6
  | 7, _, _ => tp_2_7
  | 8, _, _ => tp_2_8
  | 9, _, _ => tp_2_9
  | 10, _, _ => tp_2_10
  | m + 11, _, h => absurd h (by omega)
theorem tp_m : ∀ k, k < 3 → ∀ m, 0 < m → m ≤ 10 → ∀ (ty : Nat) (τ : Nat → Nat) (C : O → Bool), tpRun τ C (elsV 0 9223372036854775807 m 12 .nil) ty (numT3 k) (.sl 9 0 m 1) = C (.v powV (τ 4))
  | 0, _ => tp_0
  | 1, _ => tp_1
  | 2, _ => tp_2
  | k + 3, h => absurd h (by omega)
theorem hexP : EXok Tryz.prog 9 (exec Tryz.prog 9 (hkL hkC) 100000) := exec_sound follows nameOK hkCok 100000
theorem tmP_at (a b c : V) (i : Nat) : gt V.nil i (tmP a b c) = if i = 0 then a else if i = 1 then b else if i = 2 then c else .nil := by
  unfold tmP
  by_cases h2 : i = 2
  · subst h2; rw [gt_st_same, if_neg (by decide), if_neg (by decide), if_pos rfl]
  · rw [gt_st_ne _ _ (Ne.symm h2)]
    by_cases h1 : i = 1
    · subst h1; rw [gt_st_same, if_neg (by decide), if_pos rfl]
    · rw [gt_st_ne _ _ (Ne.symm h1)]
      by_cases h0 : i = 0
      · subst h0; rw [gt_st_same, if_pos rfl]
      · rw [gt_st_ne _ _ (Ne.symm h0), if_neg h0, if_neg h1, if_neg h2, gt_leaf]
theorem tmP_TR {ρ : Ren} {a b c : V} {x : Act} {va vb vc : Value} (h0 : x.tmps.getD 0 undef = va) (h1 : x.tmps.getD 1 undef = vb) (h2 : x.tmps.getD 2 undef = vc) (ra : VR ρ a va) (rb : VR ρ b vb) (rc : VR ρ c vc) : TR ρ (tmP a b c) x := by
  intro i
  rw [tmP_at]
  by_cases e0 : i = 0
  · subst e0; rw [if_pos rfl, h0]; exact ra
  · rw [if_neg e0]
    by_cases e1 : i = 1
    · subst e1; rw [if_pos rfl, h1]; exact rb
    · rw [if_neg e1]
      by_cases e2 : i = 2
      · subst e2; rw [if_pos rfl, h2]; exact rc
      · rw [if_neg e2]; simp only [VR]
theorem gMk_no {c : UInt8} (h : c ≠ 37 ∧ c ≠ 92) : tbN gMk c.toNat = false := by
  have key : ∀ k : Fin 256, k.val ≠ 37 → k.val ≠ 92 → tbN gMk k.val = false := by decide +kernel
  refine key ⟨c.toNat, UInt8.toNat_lt c⟩ (fun e => h.1 ?_) (fun e => h.2 ?_)
  · exact UInt8.toNat.inj e
  · exact UInt8.toNat.inj e
theorem VR_good {ρ : Ren} {s : ByteArray} (h : s.size ≤ 200) (hg : ∀ b ∈ s.data.toList, b ≠ 37 ∧ b ≠ 92) (ha : ∃ L, ρ 10 = some L ∧ L.base = enc s.data.toList) : VR ρ goodT (.string s) := by
  obtain ⟨L, h1, h2⟩ := ha
  refine VR_rope ?_
  simp only [RR, PR]
  exact ⟨s.data.toList, [], .inl ⟨trivial, L, h1, h2, Nat.zero_le _, h, fun c hc => gMk_no (hg c hc), trivial⟩, rfl, by simp⟩
theorem VR_num3 {ρ : Ren} {n : Int} (h1 : -9223372036854775808 ≤ n) (h2 : n ≤ 9223372036854775807) (ha : ∃ L, ρ 11 = some L ∧ L.base = zz n) : ∃ k, k < 3 ∧ VR ρ (numT3 k) (.int .i64 n) := by
  by_cases e : n = Int.negSucc 9223372036854775807
  · subst e
    exact ⟨0, by omega, VRi _ _ _⟩
  · have e : n ≠ -9223372036854775808 := e
    by_cases h : n < 0
    · exact ⟨1, by omega, VR_rng (a := 11) (lo := 18446744073709551613) (hi := 1) ha (by rw [show unzz 18446744073709551613 = -9223372036854775807 by decide]; omega) (by rw [show unzz 1 = -1 by decide]; omega)⟩
    · exact ⟨2, by omega, VR_rng (a := 11) (lo := 0) (hi := 18446744073709551614) ha (by rw [show unzz 0 = 0 by decide]; omega) (by rw [show unzz 18446744073709551614 = 9223372036854775807 by decide]; omega)⟩
theorem rest_go {W w1 : World} (hb : Below W.heap.size W w1) (tab : ∃ arr ty, W.heap[4]? = some (.cells arr ty (0, 0)) ∧ arr.toList = Lib.pow10Tab.map fun n => Value.int .u64 n) {s : ByteArray} {n : Int} {more : Value} {l b c : V} {ty : Nat} {ρa : Ren} (hρ : ∀ i L, ρa i = some L → 9 ≤ i ∧ i < 29)
    (hob : ∀ i, (gt O.none i (putO [(9, .c l ty false)] .leaf)).live → (9 ≤ i ∧ i < 29 ∧ ¬ (gt O.none i (putO [(9, .c l ty false)] .leaf)).wr) ∧ ∀ L, ρa i = some L → L.blk ≠ 4 ∧ ∃ o, W.heap[L.blk]? = some o ∧ OR ρa L (gt O.none i (putO [(9, .c l ty false)] .leaf)) o)
    (ra : VR ρa goodT (.string s)) (rb : VR ρa b (.int .i64 n)) (rc : VR ρa c more) (hrun : ∀ (τ : Nat → Nat) (C : O → Bool), tpRun τ C l ty b c = C (.v powV (τ 4))) : RestOk s n more w1 := by
  refine ⟨fun o bd hc a w Q h0 h1 h2 hsz hd hbel hQ => ?_⟩
  rw [hc]
  have hbw : Below W.heap.size W w := hb.trans (hbel.mono hb.size)
  have keep : ∀ {i : Nat} {o : Obj}, W.heap[i]? = some o → w.heap[i]? = some o := fun {i o} h => by rw [hbw.block i (Array.getElem?_eq_some_iff.1 h).1]; exact h
  obtain ⟨arr, ty', t1, t2⟩ := tab
  exact mid_run_p hexP (W := w) (nx := 29) (by omega) (t := 4) (by omega) (ρa := ρa) hρ (ob := [(9, .c l ty false)]) (fun i hi => ⟨(hob i hi).1, fun L hL => ⟨((hob i hi).2 L hL).1, by obtain ⟨o, g1, g2⟩ := ((hob i hi).2 L hL).2; exact ⟨o, keep g1, g2⟩⟩⟩) (c := tpRest) (nt := 77) (slot := 6) (tmP_TR h0 h1 h2 ra rb rc) hsz hd hrun ⟨arr, ty', keep t1, t2⟩ hQ
theorem stays_belowP {w w' : World} (h : Below w.heap.size w w') : Stays w w' := ⟨h.size, h.os, h.tape, h.output, h.block⟩
theorem al_fn : Tryz.prog.funcs[4]? = some Tryz.f4 := by kernel_rfl
theorem al_body : ∃ c, Tryz.f4.body = some c := ⟨_, rfl⟩
end
end Go.Proofs.YtiinlpdophgfjaaGreatDoor
