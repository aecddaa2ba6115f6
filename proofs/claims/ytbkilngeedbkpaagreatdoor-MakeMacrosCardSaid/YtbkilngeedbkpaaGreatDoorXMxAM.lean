/-
  A part of a small executor of the model, proved sound (28 of 33). No condition.
-/
import Derived.Test.YtbkilngeedbkpaaGreatDoorXMxAN
import Derived.Test.YtbkilngeedbkpaaGreatDoorXMxAK
namespace Go.Mx
open Instr Builtin RowKit
noncomputable section
variable {P : Program} {ρ : Ren} {h : T O} {nx : Nat} {w : World} {ng : Nat}
def is64 (v : V) : Bool := rngK v fun kd _ hi _ => ite1 (keq kd .u64) (Nat.ble hi 18446744073709551615)
theorem is64_spec {v : V} (hk : is64 v = true) {x : Value} (hv : VR ρ v x) : ∃ n : Nat, x = .int .u64 (n : Int) ∧ n ≤ 18446744073709551615 := by
  obtain ⟨kd, lo, hi, i, hk2, hr⟩ := rngK_spec (show (rngK v fun kd _ hi _ => ite1 (keq kd .u64) (Nat.ble hi 18446744073709551615)) = true from hk)
  obtain ⟨e1, e2⟩ := ite1_spec hk2
  have e1 := keq_eq e1
  subst e1
  have e2 := Nat.le_of_ble_eq_true e2
  obtain ⟨n, rfl, hin⟩ := hr ρ _ hv
  exact ⟨n, rfl, Nat.le_trans hin.2.1 e2⟩
def free4 (nx : Nat) : V := .cons (freeV nx) (.cons (freeV (nx + 1)) (.cons (freeV (nx + 2)) (.cons (freeV (nx + 3)) .nil)))
def AddSaid (P : Program) (g : Nat) : Prop := ∀ (b o : Nat) (arr : Array Value) (ty : TypeId) (fz : Nat × Nat) (w : World) (c : UInt8) (m : Nat → Nat), w.heap[b]? = some (.cells arr ty fz) → free arr.size fz → (∀ i, i < 4 → arr[o + i]? = some (.int .u64 (m i : Int)) ∧ m i ≤ 18446744073709551615) →
  Calls P g #[.pointer (some ⟨b, o, none⟩), .int .u8 (c.toNat : Int), .int .u8 (c.toNat : Int)] w fun e w' => e = .returned (.tuple #[]) ∧ ∃ i m' : Nat, i < 4 ∧ m' ≤ 18446744073709551615 ∧
    w'.heap = w.heap.setIfInBounds b (.cells (arr.setIfInBounds (o + i) (.int .u64 (m' : Int))) ty fz) ∧ w'.os = w.os ∧ w'.tape = w.tape ∧ w'.output = w.output
def hkAdd (e : HookF) : HookF := fun args h nx K => arg0 args fun p r => arg0 r fun x r2 => Bool.rec (e args h nx K)
  (vP p fun id off => oC (gt O.none id h) fun l ty wr => ite1 wr <| nthK l off fun z0 => ite1 (is64 z0) <| nthK l (off + 1) fun z1 => ite1 (is64 z1) <| nthK l (off + 2) fun z2 => ite1 (is64 z2) <| nthK l (off + 3) fun z3 => ite1 (is64 z3) <|
    putK l off (free4 nx) fun l' => stK O.none (.c l' ty true) id h fun h' => K (.t .nil) h' (nx + 4))
  (ite1 (sameV r2 (.cons x .nil)) (rngK x fun kd lo hi i => ite1 (keq kd .u8) <| ite1 (Nat.ble hi 255) <| ite1 (Nat.blt lo hi) (same3 lo hi i lo hi i)))
theorem hkAdd_ok (hn : NameOK P) {g : Nat} {fn : Func} {cd : Code} (hf : P.funcs[g]? = some fn) (hb : fn.body = some cd) {e : HookF} (he : HookOk P ng g e) (hC : AddSaid P g) : HookOk P ng g (hkAdd e) := by
  intro args h nx K Kp hk ρ w vs s hg hvs
  replace hk := arg0_spec hk
  obtain ⟨p, r, rfl, hk⟩ := hk
  replace hk := arg0_spec hk
  obtain ⟨x, r2, rfl, hk⟩ := hk
  generalize hc : (ite1 (sameV r2 (.cons x .nil)) (rngK x fun kd lo hi i => ite1 (keq kd .u8) <| ite1 (Nat.ble hi 255) <| ite1 (Nat.blt lo hi) (same3 lo hi i lo hi i))) = q at hk
  cases q with
  | false => exact he _ h nx K Kp hk ρ w vs s hg hvs
  | true =>
  replace hc := ite1_spec hc
  obtain ⟨e0, hc⟩ := hc
  have e0 := sameV_eq e0
  subst e0
  obtain ⟨kd, lo, hi, ii, hc2, hr⟩ := rngK_spec hc
  obtain ⟨e1, hc3⟩ := ite1_spec hc2
  have e1 := keq_eq e1
  subst e1
  obtain ⟨e2, hc4⟩ := ite1_spec hc3
  obtain ⟨_, e3⟩ := ite1_spec hc4
  have e2 := Nat.le_of_ble_eq_true e2
  simp only [VRs] at hvs
  obtain ⟨v0, _, rfl, hp, v1, _, rfl, h1, v2, _, rfl, h2, rfl⟩ := hvs
  obtain ⟨n1, rfl, hin⟩ := hr ρ _ h1
  obtain ⟨n2, hn2, hin2⟩ := hr ρ _ h2
  subst hn2
  have hfn : n1 = n2 := (same3_spec e3 hin2 hin).symm
  subst hfn
  have hlt : n1 < 256 := by have := hin.2.1; omega
  replace hk := vP_spec hk
  obtain ⟨id, off, rfl, hk⟩ := hk
  replace hk := oC_spec hk
  obtain ⟨l, ty, wr, ho, hk⟩ := hk
  replace hk := ite1_spec hk
  obtain ⟨ew, hk⟩ := hk
  subst ew
  replace hk := nthK_spec hk
  obtain ⟨z0, hk, t0⟩ := hk
  replace hk := ite1_spec hk
  obtain ⟨u0, hk⟩ := hk
  replace hk := nthK_spec hk
  obtain ⟨z1, hk, t1⟩ := hk
  replace hk := ite1_spec hk
  obtain ⟨u1, hk⟩ := hk
  replace hk := nthK_spec hk
  obtain ⟨z2, hk, t2⟩ := hk
  replace hk := ite1_spec hk
  obtain ⟨u2, hk⟩ := hk
  replace hk := nthK_spec hk
  obtain ⟨z3, hk, t3⟩ := hk
  replace hk := ite1_spec hk
  obtain ⟨u3, hk⟩ := hk
  obtain ⟨L, arr, fz, hL, rfl, hh, hsz, hfz, hbs, hcr⟩ := s.at ho hp
  replace hk := putK_spec hk (CR_isC hcr) (by simp [free4, isC])
  obtain ⟨l', hk, _, hput, _⟩ := hk
  rw [stK_eq] at hk
  obtain ⟨y0, k0, r0⟩ := t0 ρ _ hcr
  obtain ⟨y1, k1, r1⟩ := t1 ρ _ hcr
  obtain ⟨y2, k2, r2⟩ := t2 ρ _ hcr
  obtain ⟨y3, k3, r3⟩ := t3 ρ _ hcr
  obtain ⟨m0, rfl, b0⟩ := is64_spec u0 r0
  obtain ⟨m1, rfl, b1⟩ := is64_spec u1 r1
  obtain ⟨m2, rfl, b2⟩ := is64_spec u2 r2
  obtain ⟨m3, rfl, b3⟩ := is64_spec u3 r3
  simp only [List.getElem?_drop, Array.getElem?_toList] at k0 k1 k2 k3
  let m : Nat → Nat := fun i => if i = 0 then m0 else if i = 1 then m1 else if i = 2 then m2 else m3
  have hm : ∀ i, i < 4 → arr[L.base + off + i]? = some (.int .u64 (m i : Int)) ∧ m i ≤ 18446744073709551615 := by
    intro i hi
    match i, hi with
    | 0, _ => exact ⟨by rw [show L.base + off + 0 = L.base + off by omega]; exact k0, b0⟩
    | 1, _ => exact ⟨by rw [show L.base + off + 1 = L.base + (off + 1) by omega]; exact k1, b1⟩
    | 2, _ => exact ⟨by rw [show L.base + off + 2 = L.base + (off + 2) by omega]; exact k2, b2⟩
    | 3, _ => exact ⟨by rw [show L.base + off + 3 = L.base + (off + 3) by omega]; exact k3, b3⟩
  have hcall := hC L.blk (L.base + off) arr ty fz w (UInt8.ofNat n1) m hh (by rw [hsz]; exact hfz rfl) hm
  have en : (UInt8.ofNat n1).toNat = n1 := by simp; omega
  rw [en] at hcall
  intro o a next Q g1 _
  show o.upon P a next Q ((callFunc g #[.pointer (some ⟨L.blk, L.base + off, none⟩), .int .u8 (n1 : Int), .int .u8 (n1 : Int)]).run P w)
  rw [callFunc_enter hn hf hb, Oper.upon_enter]
  refine hcall.mono fun e w' ⟨he1, i, m', hi4, hm', hw, ho1, ht1, hou⟩ => ?_
  subst he1
  have hlen : L.base + off + 3 < arr.size := (Array.getElem?_eq_some_iff.1 (hm 3 (by omega)).1).1
  let q : Nat → Nat := fun j => if j = i then m' else m j
  have hq : ∀ j, j < 4 → (arr.setIfInBounds (L.base + off + i) (.int .u64 (m' : Int)))[L.base + off + j]? = some (.int .u64 (q j : Int)) ∧ q j ≤ 18446744073709551615 := by
    intro j hj
    by_cases e : j = i
    · subst e
      refine ⟨?_, by simp only [q, if_true]; exact hm'⟩
      rw [Array.getElem?_setIfInBounds, if_pos rfl, if_pos (by omega)]
      simp only [q, if_true]
    · refine ⟨?_, by simp only [q, e, if_false]; exact (hm j hj).2⟩
      rw [Array.getElem?_setIfInBounds_ne (by omega)]
      simp only [q, e, if_false]
      exact (hm j hj).1
  obtain ⟨s1, x1⟩ := s.atom ⟨0, q 0, 0⟩
  obtain ⟨s2, x2⟩ := s1.atom ⟨0, q 1, 0⟩
  obtain ⟨s3, x3⟩ := s2.atom ⟨0, q 2, 0⟩
  obtain ⟨s4, x4⟩ := s3.atom ⟨0, q 3, 0⟩
  have xa := x1.trans (x2.trans (x3.trans x4))
  have hwr : (gt O.none id h).wr := asC_wr ho
  have hns : VRs (upd (upd (upd (upd ρ nx ⟨0, q 0, 0⟩) (nx + 1) ⟨0, q 1, 0⟩) (nx + 1 + 1) ⟨0, q 2, 0⟩) (nx + 1 + 1 + 1) ⟨0, q 3, 0⟩) (free4 nx) [.int .u64 (q 0 : Int), .int .u64 (q 1 : Int), .int .u64 (q 2 : Int), .int .u64 (q 3 : Int)] := by
    simp only [free4, freeV, VR, VRs]
    refine ⟨_, _, rfl, ⟨⟨0, q 0, 0⟩, (x2.trans (x3.trans x4)).le _ _ (upd_same _ _ _), Nat.zero_le _, (hq 0 (by omega)).2, rfl⟩, _, _, rfl, ⟨⟨0, q 1, 0⟩, (x3.trans x4).le _ _ (upd_same _ _ _), Nat.zero_le _, (hq 1 (by omega)).2, rfl⟩, _, _, rfl, ⟨⟨0, q 2, 0⟩, x4.le _ _ (upd_same _ _ _), Nat.zero_le _, (hq 2 (by omega)).2, rfl⟩, _, _, rfl, ⟨⟨0, q 3, 0⟩, upd_same _ _ _, Nat.zero_le _, (hq 3 (by omega)).2, rfl⟩, rfl⟩
  obtain ⟨hcr', _, _⟩ := hput _ _ _ (hcr.mono xa.le) hns
  have hA1 : ∀ j, ((arr.setIfInBounds (L.base + off + i) (.int .u64 (m' : Int))).toList.drop L.base)[j]? = (arr.setIfInBounds (L.base + off + i) (.int .u64 (m' : Int)))[L.base + j]? := fun j => by rw [List.getElem?_drop, Array.getElem?_toList]
  have hA0 : ∀ j, (List.drop L.base arr.toList)[j]? = arr[L.base + j]? := fun j => by rw [List.getElem?_drop, Array.getElem?_toList]
  have harr : lput (arr.toList.drop L.base) off [.int .u64 (q 0 : Int), .int .u64 (q 1 : Int), .int .u64 (q 2 : Int), .int .u64 (q 3 : Int)] = (arr.setIfInBounds (L.base + off + i) (.int .u64 (m' : Int))).toList.drop L.base := by
    apply List.ext_getElem?
    intro j
    rw [hA1 j]
    unfold lput
    rw [List.append_assoc]
    have el : (List.take off (List.drop L.base arr.toList)).length = off := by rw [List.length_take, List.length_drop, Array.length_toList]; omega
    by_cases c1 : j < off
    · rw [List.getElem?_append_left (by omega), List.getElem?_take, if_pos c1, hA0 j, Array.getElem?_setIfInBounds_ne (by omega)]
    · rw [List.getElem?_append_right (by omega), el]
      by_cases c2 : j < off + 4
      · rw [List.getElem?_append_left (by simp; omega)]
        have h5 := (hq (j - off) (by omega)).1
        rw [show L.base + off + (j - off) = L.base + j by omega] at h5
        rw [h5]
        obtain ⟨d, hd⟩ : ∃ d, d = j - off := ⟨_, rfl⟩
        rw [← hd]
        have hd4 : d < 4 := by omega
        match d, hd4 with
        | 0, _ => rfl
        | 1, _ => rfl
        | 2, _ => rfl
        | 3, _ => rfl
      · have e4 : [Value.int .u64 (q 0 : Int), Value.int .u64 (q 1 : Int), Value.int .u64 (q 2 : Int), Value.int .u64 (q 3 : Int)].length = 4 := rfl
        rw [List.getElem?_append_right (by omega), e4, List.getElem?_drop, hA0, Array.getElem?_setIfInBounds_ne (by omega)]
        congr 1
        omega
  rw [harr] at hcr'
  obtain ⟨s5, x5⟩ := s4.write (id := id) (L := L) hwr (xa.le _ _ hL) (o := .c l' ty true) (ob := .cells (arr.setIfInBounds (L.base + off + i) (.int .u64 (m' : Int))) ty fz)
    ⟨_, fz, rfl, by rw [Array.size_setIfInBounds]; exact hsz, fun _ => by exact hfz rfl, by simpa using hbs, hcr'⟩ hw ho1 ht1 hou
  exact g1 _ (.t .nil) _ (nx + 4) _ w' (by simp only [VR, VRs]; exact ⟨_, rfl, rfl⟩) s5 (xa.trans x5) hk
end
end Go.Mx
