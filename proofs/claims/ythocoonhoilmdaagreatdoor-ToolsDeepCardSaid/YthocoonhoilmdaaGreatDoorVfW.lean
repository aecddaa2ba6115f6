/-
  What a file system of known nodes tells of any path, walked.
-/
import Derived.Test.YthocoonhoilmdaaGreatDoorProg
import Derived.Test.YthocoonhoilmdaaGreatDoorPaW
import Derived.Test.YthocoonhoilmdaaGreatDoorXMx16
import Derived.Lib.ConvBytes
import Derived.WalkKit
import Derived.WalkSpells
import Derived.StillTactics
import Derived.LoopIn
import Derived.RowKit3
import Derived.Below
import Derived.OwnWalk
import Derived.KernelRfl
open Go Go.RowKit
namespace Go.Proofs.YthocoonhoilmdaaGreatDoor
/-! the tree -/
/-- path, is it a directory, the bytes' slice, time -/
abbrev TN := Bool × (Option Addr × Nat × Nat) × Int
abbrev TT := List (ByteArray × TN)
def findT (T : TT) (k : ByteArray) : Option TN := (T.find? fun x => k == x.1).map (·.2)
def nodeV : Option TN → Value
  | some (d, (o, n, c), t) => .agg #[.bool d, .slice o n c, .int .i64 t]
  | none => .agg #[.bool false, .slice none 0 0, .int .i64 0]
def entK (x : ByteArray × TN) : Value × Value := (.string x.1, nodeV (some x.2))
theorem v_tS : Tryz.prog.underlying 9 = some .string := by kernel_rfl
theorem v_tM : Tryz.prog.underlying 41 = some (.map 9 48) := by kernel_rfl
theorem v_zN : ∀ w, (zeroValue 48).run Tryz.prog w = .ok (.agg #[.bool false, .slice none 0 0, .int .i64 0]) w := Tryz.zeroValue48
/-- a file system whose nodes are these -/
structure TreeIs (w : World) (fb fo : Nat) (T : TT) : Prop where
  lt : fb < w.heap.size
  ex : ∃ mb es clock, w.cell? ⟨fb, fo, none⟩ = some (.map (some mb)) ∧ w.heap[mb]? = some (.map es clock) ∧ es.toList.map (fun e => (e.key, e.val)) = T.map entK
theorem TreeIs.below {w w' : World} {fb fo : Nat} {T : TT} (h : TreeIs w fb fo T) (hb : Below w.heap.size w w') : TreeIs w' fb fo T := by
  obtain ⟨mb, es, clock, h1, h2, h3⟩ := h.ex
  exact ⟨Nat.lt_of_lt_of_le h.lt hb.size, mb, es, clock, by rw [hb.cell (by exact h.lt)]; exact h1, by rw [hb.block mb (Array.getElem?_eq_some_iff.1 h2).1]; exact h2, h3⟩
theorem find_now {k : ByteArray} : ∀ (T : TT) (es : List MapEntry) (i : Nat), es.map (fun e => (e.key, e.val)) = T.map entK → ∃ r, Instr.findNow .string (.string k) es i = some r ∧ r.map (·.2) = (findT T k).map fun x => nodeV (some x)
  | [], [], _, _ => ⟨none, rfl, rfl⟩
  | [], _ :: _, _, h => by cases h
  | _ :: _, [], _, h => by cases h
  | x :: T, e :: es, i, h => by
    simp only [List.map_cons, List.cons.injEq] at h
    obtain ⟨h1, h2⟩ := h
    have hk : e.key = .string x.1 := congrArg Prod.fst h1
    have hv : e.val = nodeV (some x.2) := congrArg Prod.snd h1
    unfold Instr.findNow
    rw [hk]
    simp only [Instr.sameNow]
    cases hc : k == x.1 with
    | true =>
      refine ⟨some (i, e.val), rfl, ?_⟩
      simp [findT, hc, hv]
    | false =>
      obtain ⟨r, g1, g2⟩ := find_now T es (i + 1) h2
      refine ⟨r, g1, ?_⟩
      rw [g2]
      simp [findT, hc]
theorem look_T {w : World} {fb fo : Nat} {T : TT} (h : TreeIs w fb fo T) : ∃ mb, w.cell? ⟨fb, fo, none⟩ = some (.map (some mb)) ∧ ∀ (w' : World), w'.heap = w.heap → ∀ k ok, (Instr.lookup 41 (.map (some mb)) (.string k) ok).run Tryz.prog w' = .ok (if ok = true then .tuple #[nodeV (findT T k), .bool (findT T k).isSome] else nodeV (findT T k)) w' := by
  obtain ⟨mb, es, clock, h1, h2, h3⟩ := h.ex
  refine ⟨mb, h1, fun w' hw k ok => ?_⟩
  have hh : w'.heap[mb]? = some (.map es clock) := by rw [hw]; exact h2
  obtain ⟨r, g1, g2⟩ := find_now (k := k) T es.toList 0 h3
  have hck : ∀ b, (Instr.checkKey b 10000 9 (.string k)).run Tryz.prog w' = .ok () w' := fun b => by
    unfold Instr.checkKey
    simp only [Sem.run_bind, Mx.run_und v_tS, Result.andThen_ok, Sem.run_pure]
  have hfk := Mx.findKey_of (P := Tryz.prog) (w := w') v_tS g1
  cases r with
  | none =>
    have hn : findT T k = none := by
      cases e : findT T k with
      | none => rfl
      | some x => rw [e] at g2; cases g2
    rw [hn]
    simp only [Instr.lookup, Sem.run_bind, Mx.run_und v_tM, Result.andThen_ok, Mx.run_getMap hh, Sem.run_pure, hck, hfk, v_zN]
    rfl
  | some q =>
    obtain ⟨x, hx, hq⟩ : ∃ x, findT T k = some x ∧ q.2 = nodeV (some x) := by
      cases e : findT T k with
      | none => rw [e] at g2; cases g2
      | some x => rw [e] at g2; exact ⟨x, rfl, Option.some.inj g2⟩
    rw [hx, ← hq]
    simp only [Instr.lookup, Sem.run_bind, Mx.run_und v_tM, Result.andThen_ok, Mx.run_getMap hh, Sem.run_pure, hck, hfk]
    rfl
/-! what is at a whole path -/
def kindF (T : TT) (p : ByteArray) : Int := if p.data.toList = [47] then 2 else match findT T p with
  | some (d, _, _) => if d = true then 2 else 1
  | none => 0
set_option maxHeartbeats 1600000 in
set_option maxRecDepth 100000 in
theorem kind_any {T : TT} {fb fo : Nat} {w : World} (h : TreeIs w fb fo T) (p : ByteArray) :
    Calls Tryz.prog 14 #[.pointer (some ⟨fb, fo, none⟩), .string p] w fun e w' => e = .returned (.int .i64 (kindF T p)) ∧ Below w.heap.size w w' := by
  obtain ⟨mb, hc, hl⟩ := look_T h
  have hl1 := hl w rfl p true
  obtain ⟨r, hr⟩ : ∃ r, r = kindF T p := ⟨_, rfl⟩
  have hR : Hid (r = kindF T p) := hr
  rw [← hr]
  clear hr hl h
  unfold kindF at hR
  cases hT : findT T p with
  | none =>
    rw [hT] at hl1 hR
    change (Instr.lookup 41 (.map (some mb)) (.string p) true).run Tryz.prog w = .ok (.tuple #[.agg #[.bool false, .slice none 0 0, .int .i64 0], .bool false]) w at hl1
    by_cases c : p.data.toList = [47]
    · have e1 := eqB c
      have hr2 : r = 2 := by rw [hR.out, if_pos c]
      subst hr2
      clear hR hT c
      go_enter Tryz.func14, Tryz.ntmps14
      go_wp2
      go_ret
      exact ⟨rfl, by first | exact Below.refl _ _ | exact (Below.refl _ _).alloc (Nat.le_refl _) _⟩
    · have e1 := neB c
      have hr2 : r = 0 := by rw [hR.out, if_neg c]
      subst hr2
      clear hR hT c
      go_enter Tryz.func14, Tryz.ntmps14
      go_wp2
      go_ret
      exact ⟨rfl, by first | exact Below.refl _ _ | exact (Below.refl _ _).alloc (Nat.le_refl _) _⟩
  | some x =>
    obtain ⟨d, ⟨o, n, cp⟩, t⟩ := x
    rw [hT] at hl1 hR
    change (Instr.lookup 41 (.map (some mb)) (.string p) true).run Tryz.prog w = .ok (.tuple #[.agg #[.bool d, .slice o n cp, .int .i64 t], .bool true]) w at hl1
    by_cases c : p.data.toList = [47]
    · have e1 := eqB c
      have hr2 : r = 2 := by rw [hR.out, if_pos c]
      subst hr2
      clear hR hT c
      go_enter Tryz.func14, Tryz.ntmps14
      go_wp2
      go_ret
      exact ⟨rfl, by first | exact Below.refl _ _ | exact (Below.refl _ _).alloc (Nat.le_refl _) _⟩
    · have e1 := neB c
      cases d with
      | true =>
        have hr2 : r = 2 := by rw [hR.out, if_neg c]; rfl
        subst hr2
        clear hR hT c
        go_enter Tryz.func14, Tryz.ntmps14
        go_wp2
        go_ret
        exact ⟨rfl, by first | exact Below.refl _ _ | exact (Below.refl _ _).alloc (Nat.le_refl _) _⟩
      | false =>
        have hr2 : r = 1 := by rw [hR.out, if_neg c]; rfl
        subst hr2
        clear hR hT c
        go_enter Tryz.func14, Tryz.ntmps14
        go_wp2
        go_ret
        exact ⟨rfl, by first | exact Below.refl _ _ | exact (Below.refl _ _).alloc (Nat.le_refl _) _⟩
/-! why there is no way -/
theorem v_t28 : Tryz.prog.underlying 24 = some (.slice 5) := by kernel_rfl
theorem v_t5 : Tryz.prog.underlying 5 = some (.int .u8) := by kernel_rfl
def wayFrom (T : TT) (p : ByteArray) : Nat → Nat → Int
  | 0, _ => 0
  | f + 1, i => if (p.data.toList.getD i 0).toNat ≠ 47 ∨ i = 0 then wayFrom T p f (i + 1) else if kindF T (p.extract 0 i) = 0 then 6 else if kindF T (p.extract 0 i) = 1 then 11 else wayFrom T p f (i + 1)
def wayF (T : TT) (p : ByteArray) : Int := wayFrom T p p.size 0
theorem wayFrom_at {T : TT} {p : ByteArray} {k : Nat} (h : k < p.size) : wayFrom T p (p.size - k) k = if (p.data.toList.getD k 0).toNat ≠ 47 ∨ k = 0 then wayFrom T p (p.size - (k + 1)) (k + 1) else if kindF T (p.extract 0 k) = 0 then 6 else if kindF T (p.extract 0 k) = 1 then 11 else wayFrom T p (p.size - (k + 1)) (k + 1) := by
  rw [show p.size - k = (p.size - (k + 1)) + 1 by omega]
  rfl
theorem kindF_cases (T : TT) (p : ByteArray) : kindF T p = 0 ∨ kindF T p = 1 ∨ kindF T p = 2 := by
  unfold kindF
  split
  · exact .inr (.inr rfl)
  · split
    · split
      · exact .inr (.inr rfl)
      · exact .inr (.inl rfl)
    · exact .inl rfl
set_option maxHeartbeats 3200000 in
set_option maxRecDepth 100000 in
theorem way_any {T : TT} {fb fo : Nat} {w : World} (h : TreeIs w fb fo T) (p : ByteArray) (hs : p.size ≤ 1100000) :
    Calls Tryz.prog 22 #[.pointer (some ⟨fb, fo, none⟩), .string p] w fun e w' => e = .returned (.int .i64 (wayF T p)) ∧ Below w.heap.size w w' := by
  have hcv := Lib.run_convert_string_bytes (P := Tryz.prog) w 9 24 5 p v_tS v_t28 v_t5
  have hN := Lib.bytesWorld_size w 5 p
  have hcell : ∀ j, j < p.size → (Lib.bytesWorld w 5 p).cell? ⟨w.heap.size, j, none⟩ = some (.int .u8 (p.data.toList.getD j 0).toNat) := fun j hj => Lib.bytesWorld_cell w 5 p j hj
  have hbel : Below w.heap.size w (Lib.bytesWorld w 5 p) := ⟨rfl, rfl, rfl, by rw [hN]; omega, fun j hj => Lib.bytesWorld_at_old w 5 p j hj⟩
  have hT1 : TreeIs (Lib.bytesWorld w 5 p) fb fo T := h.below hbel
  obtain ⟨res, hres⟩ : ∃ r, r = wayF T p := ⟨_, rfl⟩
  rw [← hres]
  have HW : Hid (wayFrom T p (p.size - 0) 0 = res) := hres.symm
  clear hres
  go_enter Tryz.func22, Tryz.ntmps22
  go_wp2
  obtain ⟨W1, hW1⟩ : ∃ W1, W1 = Lib.bytesWorld w 5 p := ⟨_, rfl⟩
  rw [← hW1] at hN hcell hbel hT1
  have HC : Hid (∀ j, j < p.size → W1.cell? ⟨w.heap.size, j, none⟩ = some (.int .u8 (p.data.toList.getD j 0).toNat)) := hcell
  have HT : Hid (TreeIs W1 fb fo T) := hT1
  try rw [hcv]
  try simp only [Result.andThen]
  try rw [Oper.upon_value]
  rw [← hW1]
  clear hcv hcell hW1 hT1 h
  go_wp2
  go_loopw [10] (fun i wr => ∃ k : Nat, k ≤ p.size ∧ i = .int .i64 k ∧ wayFrom T p (p.size - k) k = res ∧ Below W1.heap.size W1 wr) (fun i _ => p.size - (intOf i).toNat)
  case atStart => exact ⟨0, Nat.zero_le _, rfl, HW.out, Below.refl _ _⟩
  case round =>
    obtain ⟨k, hk, rfl, hw, hb⟩ := hrel
    have hbw : Below w.heap.size w wr := hbel.trans (hb.mono hbel.size)
    by_cases hlt : k < p.size
    · obtain ⟨c, hc⟩ : ∃ c : Nat, c = (p.data.toList.getD k 0).toNat := ⟨_, rfl⟩
      have hcx : wr.cell? ⟨w.heap.size, k, none⟩ = some (.int .u8 (c : Int)) := by rw [hc]; exact (hb.cell (by show w.heap.size < _; omega)).trans (HC.out k hlt)
      have hTr : Hid (TreeIs wr fb fo T) := HT.out.below hb
      rw [wayFrom_at hlt, ← hc] at hw
      have HX : Hid (if c ≠ 47 ∨ k = 0 then wayFrom T p (p.size - (k + 1)) (k + 1) = res else if kindF T (p.extract 0 k) = 0 then 6 = res else if kindF T (p.extract 0 k) = 1 then 11 = res else wayFrom T p (p.size - (k + 1)) (k + 1) = res) := by
        revert hw
        split
        · exact id
        · split
          · exact id
          · split
            · exact id
            · exact id
      clear hw hc
      by_cases c1 : c = 47
      · subst c1
        by_cases c2 : k = 0
        · subst c2
          have HY : Hid (wayFrom T p (p.size - (0 + 1)) (0 + 1) = res) := by have := HX.out; rw [if_pos (.inr rfl)] at this; exact this
          clear HX
          go_wp2
          go_roundw
          case rel => exact ⟨1, by omega, by go_num, HY.out, hb⟩
          case measure => simp [intOf]; omega
        · have HY : Hid (if kindF T (p.extract 0 k) = 0 then 6 = res else if kindF T (p.extract 0 k) = 1 then 11 = res else wayFrom T p (p.size - (k + 1)) (k + 1) = res) := by have := HX.out; rw [if_neg (by omega)] at this; exact this
          clear HX
          have hK := kind_any hTr.out (p.extract 0 k)
          obtain ⟨kd, hkd⟩ : ∃ x, x = kindF T (p.extract 0 k) := ⟨_, rfl⟩
          have hk3 := kindF_cases T (p.extract 0 k)
          rw [← hkd] at hK HY hk3
          clear hkd
          rcases hk3 with rfl | rfl | rfl
          · have e6 : (6 : Int) = res := HY.out
            subst e6
            go_wp2_with fail
            go_at_call 14
            refine hK.mono ?_
            rintro e w1 ⟨rfl, hb1⟩
            go_wp2
            go_ret
            exact ⟨rfl, hbw.trans (hb1.mono hbw.size)⟩
          · have e6 : (11 : Int) = res := HY.out
            subst e6
            go_wp2_with fail
            go_at_call 14
            refine hK.mono ?_
            rintro e w1 ⟨rfl, hb1⟩
            go_wp2
            go_ret
            exact ⟨rfl, hbw.trans (hb1.mono hbw.size)⟩
          · have HZ : Hid (wayFrom T p (p.size - (k + 1)) (k + 1) = res) := HY.out
            go_wp2_with fail
            go_at_call 14
            refine hK.mono ?_
            rintro e w1 ⟨rfl, hb1⟩
            go_wp2
            go_roundw
            case rel => exact ⟨k + 1, by omega, by go_num, HZ.out, hb.trans (hb1.mono hb.size)⟩
            case measure => simp [intOf]; omega
      · have HY : Hid (wayFrom T p (p.size - (k + 1)) (k + 1) = res) := by have := HX.out; rw [if_pos (.inl c1)] at this; exact this
        have c1' : ((c : Int) == 47) = false := beq_eq_false_iff_ne.2 (by omega)
        clear HX
        go_wp2
        go_roundw
        case rel => exact ⟨k + 1, by omega, by go_num, HY.out, hb⟩
        case measure => simp [intOf]; omega
    · have hkl : k = p.size := by omega
      subst hkl
      rw [Nat.sub_self] at hw
      have e6 : (0 : Int) = res := hw
      subst e6
      clear hw HW
      go_wp2
      go_ret
      exact ⟨rfl, hbw⟩
/-! vfs's abs, Kind, found, Time, Read -/
theorem absF_size (p : ByteArray) : (absF p).1.size ≤ 200 := by
  unfold absF
  split
  · exact Nat.zero_le _
  · split
    · rename_i h; exact h.2.2
    · exact Nat.zero_le _
def fabsF (T : TT) (p : ByteArray) : ByteArray × Int := if (absF p).2 ≠ 0 then (⟨#[]⟩, (absF p).2) else if wayF T (absF p).1 ≠ 0 then (⟨#[]⟩, wayF T (absF p).1) else ((absF p).1, 0)
theorem fabsF_size (T : TT) (p : ByteArray) : (fabsF T p).1.size ≤ 200 := by
  unfold fabsF
  split
  · exact Nat.zero_le _
  · split
    · exact Nat.zero_le _
    · exact absF_size p
/-- what the world holds -/
structure Env (w : World) (fb fo : Nat) (T : TT) : Prop where
  tree : TreeIs w fb fo T
  mx : MaxIs w
theorem Env.below {w w' : World} {fb fo : Nat} {T : TT} (h : Env w fb fo T) (hb : Below w.heap.size w w') : Env w' fb fo T := ⟨h.tree.below hb, h.mx.below h.mx.lt hb⟩
theorem ne0 {n : Int} (h : n ≠ 0) : (n == 0) = false := beq_eq_false_iff_ne.2 h
set_option maxHeartbeats 1600000 in
set_option maxRecDepth 100000 in
theorem fabs_any {T : TT} {fb fo : Nat} {w : World} (h : Env w fb fo T) (p : ByteArray) (hs : p.size ≤ 1100000) :
    Calls Tryz.prog 13 #[.pointer (some ⟨fb, fo, none⟩), .string p] w fun e w' => e = .returned (.tuple #[.string (fabsF T p).1, .int .i64 (fabsF T p).2]) ∧ Below w.heap.size w w' := by
  have hA := abs_any p w h.mx hs
  have hq := absF_size p
  have hR0 : fabsF T p = if (absF p).2 ≠ 0 then (⟨#[]⟩, (absF p).2) else if wayF T (absF p).1 ≠ 0 then (⟨#[]⟩, wayF T (absF p).1) else ((absF p).1, 0) := rfl
  obtain ⟨r, hr⟩ : ∃ r, r = fabsF T p := ⟨_, rfl⟩
  rw [← hr] at hR0 ⊢
  clear hr
  generalize absF p = z at hA hq hR0
  obtain ⟨q, e0⟩ := z
  simp only at hA hq hR0
  by_cases c1 : e0 = 0
  · subst c1
    have hW : Hid (∀ w', Below w.heap.size w w' → Calls Tryz.prog 22 #[.pointer (some ⟨fb, fo, none⟩), .string q] w' fun e w'' => e = .returned (.int .i64 (wayF T q)) ∧ Below w'.heap.size w' w'') := fun w' hb => way_any (h.below hb).tree q (by omega)
    obtain ⟨x, hx⟩ : ∃ x, x = wayF T q := ⟨_, rfl⟩
    rw [← hx] at hW hR0
    clear hx
    by_cases c2 : x = 0
    · subst c2
      have hr2 : r = (q, 0) := by rw [hR0, if_neg (by simp), if_neg (by simp)]
      subst hr2
      clear hR0
      go_enter Tryz.func13, Tryz.ntmps13
      go_wp2_with fail
      go_at_call 21
      refine hA.mono ?_
      rintro e w1 ⟨rfl, hb1⟩
      have hW1 := hW.out w1 hb1
      go_wp2_with fail
      go_at_call 22
      refine hW1.mono ?_
      rintro e w2 ⟨rfl, hb2⟩
      go_wp2
      go_ret2
      exact ⟨rfl, hb1.trans (hb2.mono hb1.size)⟩
    · have hr2 : r = (⟨#[]⟩, x) := by rw [hR0, if_neg (by simp), if_pos c2]
      have c2' := ne0 c2
      subst hr2
      clear hR0
      go_enter Tryz.func13, Tryz.ntmps13
      go_wp2_with fail
      go_at_call 21
      refine hA.mono ?_
      rintro e w1 ⟨rfl, hb1⟩
      have hW1 := hW.out w1 hb1
      go_wp2_with fail
      go_at_call 22
      refine hW1.mono ?_
      rintro e w2 ⟨rfl, hb2⟩
      go_wp2
      go_ret2
      exact ⟨rfl, hb1.trans (hb2.mono hb1.size)⟩
  · have hr2 : r = (⟨#[]⟩, e0) := by rw [hR0, if_pos c1]
    have c1' := ne0 c1
    subst hr2
    clear hR0
    go_enter Tryz.func13, Tryz.ntmps13
    go_wp2_with fail
    go_at_call 21
    refine hA.mono ?_
    rintro e w1 ⟨rfl, hb1⟩
    go_wp2
    go_ret2
    exact ⟨rfl, hb1⟩
def KindF (T : TT) (p : ByteArray) : Int := if (fabsF T p).2 ≠ 0 then 0 else kindF T (fabsF T p).1
theorem Kind_any {T : TT} {fb fo : Nat} {w : World} (h : Env w fb fo T) (p : ByteArray) (hs : p.size ≤ 1100000) :
    Calls Tryz.prog 90 #[.pointer (some ⟨fb, fo, none⟩), .string p] w fun e w' => e = .returned (.int .i64 (KindF T p)) ∧ Below w.heap.size w w' := by
  have hA := fabs_any h p hs
  have hR0 : KindF T p = if (fabsF T p).2 ≠ 0 then 0 else kindF T (fabsF T p).1 := rfl
  obtain ⟨r, hr⟩ : ∃ r, r = KindF T p := ⟨_, rfl⟩
  rw [← hr] at hR0 ⊢
  clear hr
  generalize fabsF T p = z at hA hR0
  obtain ⟨q, e0⟩ := z
  simp only at hA hR0
  have hK : Hid (∀ w', Below w.heap.size w w' → Calls Tryz.prog 14 #[.pointer (some ⟨fb, fo, none⟩), .string q] w' fun e w'' => e = .returned (.int .i64 (kindF T q)) ∧ Below w'.heap.size w' w'') := fun w' hb => kind_any (h.below hb).tree q
  by_cases c1 : e0 = 0
  · subst c1
    have hr2 : r = kindF T q := by rw [hR0, if_neg (by simp)]
    rw [← hr2] at hK
    clear hR0 hr2
    go_enter Tryz.func90, Tryz.ntmps90
    go_wp2_with fail
    go_at_call 13
    refine hA.mono ?_
    rintro e w1 ⟨rfl, hb1⟩
    have hK1 := hK.out w1 hb1
    go_wp2_with fail
    go_at_call 14
    refine hK1.mono ?_
    rintro e w2 ⟨rfl, hb2⟩
    go_wp2
    go_ret
    exact ⟨rfl, hb1.trans (hb2.mono hb1.size)⟩
  · have hr2 : r = 0 := by rw [hR0, if_pos c1]
    have c1' := ne0 c1
    subst hr2
    clear hR0
    go_enter Tryz.func90, Tryz.ntmps90
    go_wp2_with fail
    go_at_call 13
    refine hA.mono ?_
    rintro e w1 ⟨rfl, hb1⟩
    go_wp2
    go_ret
    exact ⟨rfl, hb1⟩
def foundF (T : TT) (p : ByteArray) : ByteArray × Int := if (fabsF T p).2 = 0 ∧ kindF T (fabsF T p).1 = 0 then ((fabsF T p).1, 6) else fabsF T p
theorem found_any {T : TT} {fb fo : Nat} {w : World} (h : Env w fb fo T) (p : ByteArray) (hs : p.size ≤ 1100000) :
    Calls Tryz.prog 88 #[.pointer (some ⟨fb, fo, none⟩), .string p] w fun e w' => e = .returned (.tuple #[.string (foundF T p).1, .int .i64 (foundF T p).2]) ∧ Below w.heap.size w w' := by
  have hA := fabs_any h p hs
  have hR0 : foundF T p = if (fabsF T p).2 = 0 ∧ kindF T (fabsF T p).1 = 0 then ((fabsF T p).1, 6) else fabsF T p := rfl
  obtain ⟨r, hr⟩ : ∃ r, r = foundF T p := ⟨_, rfl⟩
  rw [← hr] at hR0 ⊢
  clear hr
  generalize fabsF T p = z at hA hR0
  obtain ⟨q, e0⟩ := z
  simp only at hA hR0
  have hK : Hid (∀ w', Below w.heap.size w w' → Calls Tryz.prog 14 #[.pointer (some ⟨fb, fo, none⟩), .string q] w' fun e w'' => e = .returned (.int .i64 (kindF T q)) ∧ Below w'.heap.size w' w'') := fun w' hb => kind_any (h.below hb).tree q
  obtain ⟨x, hx⟩ : ∃ x, x = kindF T q := ⟨_, rfl⟩
  rw [← hx] at hK hR0
  clear hx
  by_cases c1 : e0 = 0
  · subst c1
    by_cases c2 : x = 0
    · subst c2
      have hr2 : r = (q, 6) := by rw [hR0, if_pos ⟨rfl, rfl⟩]
      subst hr2
      clear hR0
      go_enter Tryz.func88, Tryz.ntmps88
      go_wp2_with fail
      go_at_call 13
      refine hA.mono ?_
      rintro e w1 ⟨rfl, hb1⟩
      have hK1 := hK.out w1 hb1
      go_wp2_with fail
      go_at_call 14
      refine hK1.mono ?_
      rintro e w2 ⟨rfl, hb2⟩
      go_wp2
      go_ret2
      exact ⟨rfl, hb1.trans (hb2.mono hb1.size)⟩
    · have hr2 : r = (q, 0) := by rw [hR0, if_neg (fun h => c2 h.2)]
      have c2' := ne0 c2
      subst hr2
      clear hR0
      go_enter Tryz.func88, Tryz.ntmps88
      go_wp2_with fail
      go_at_call 13
      refine hA.mono ?_
      rintro e w1 ⟨rfl, hb1⟩
      have hK1 := hK.out w1 hb1
      go_wp2_with fail
      go_at_call 14
      refine hK1.mono ?_
      rintro e w2 ⟨rfl, hb2⟩
      go_wp2
      go_ret2
      exact ⟨rfl, hb1.trans (hb2.mono hb1.size)⟩
  · have hr2 : r = (q, e0) := by rw [hR0, if_neg (fun h => c1 h.1)]
    have c1' := ne0 c1
    subst hr2
    clear hR0
    go_enter Tryz.func88, Tryz.ntmps88
    go_wp2_with fail
    go_at_call 13
    refine hA.mono ?_
    rintro e w1 ⟨rfl, hb1⟩
    go_wp2
    go_ret2
    exact ⟨rfl, hb1⟩
def timeT (T : TT) (p : ByteArray) : Int := match findT T p with
  | some x => x.2.2
  | none => 0
def TimeF (T : TT) (p : ByteArray) : Int := if (fabsF T p).2 ≠ 0 then 0 else timeT T (fabsF T p).1
theorem look_ok {w : World} {fb fo : Nat} {T : TT} (h : TreeIs w fb fo T) (k : ByteArray) : ∃ mb d o n c, w.cell? ⟨fb, fo, none⟩ = some (.map (some mb)) ∧ (Instr.lookup 41 (.map (some mb)) (.string k) false).run Tryz.prog w = .ok (.agg #[.bool d, .slice o n c, .int .i64 (timeT T k)]) w ∧ (o, n, c) = ((findT T k).map (·.2.1)).getD (none, 0, 0) := by
  obtain ⟨mb, hc, hl⟩ := look_T h
  have hl1 := hl w rfl k false
  unfold timeT
  cases hT : findT T k with
  | none =>
    rw [hT] at hl1
    exact ⟨mb, false, none, 0, 0, hc, hl1, rfl⟩
  | some x =>
    obtain ⟨d, ⟨o, n, c⟩, t⟩ := x
    rw [hT] at hl1
    exact ⟨mb, d, o, n, c, hc, hl1, rfl⟩
theorem fld1 (w : World) (d : Bool) (o : Option Addr) (n c : Nat) (t : Int) : (Instr.field 48 (.agg #[.bool d, .slice o n c, .int .i64 t]) 1).run Tryz.prog w = .ok (.slice o n c) w := by
  have e : ∀ w, (part 24 #[.bool d, .slice o n c, .int .i64 t] 1).run Tryz.prog w = .ok (.slice o n c) w := fun w => by
    unfold part
    simp only [Sem.run_bind, Tryz.isAgg24, Result.andThen_ok]
    rfl
  simp only [Instr.field, Sem.run_bind, Mx.run_und Tryz.underlying48, Result.andThen_ok]
  exact e w
theorem fld2 (w : World) (d : Bool) (o : Option Addr) (n c : Nat) (t : Int) : (Instr.field 48 (.agg #[.bool d, .slice o n c, .int .i64 t]) 2).run Tryz.prog w = .ok (.int .i64 t) w := by
  have e : ∀ w, (part 3 #[.bool d, .slice o n c, .int .i64 t] 2).run Tryz.prog w = .ok (.int .i64 t) w := fun w => by
    unfold part
    simp only [Sem.run_bind, Tryz.isAgg3, Result.andThen_ok]
    rfl
  simp only [Instr.field, Sem.run_bind, Mx.run_und Tryz.underlying48, Result.andThen_ok]
  exact e w
set_option maxRecDepth 100000 in
theorem Time_any {T : TT} {fb fo : Nat} {w : World} (h : Env w fb fo T) (p : ByteArray) (hs : p.size ≤ 1100000) :
    Calls Tryz.prog 189 #[.pointer (some ⟨fb, fo, none⟩), .string p] w fun e w' => e = .returned (.int .i64 (TimeF T p)) ∧ Below w.heap.size w w' := by
  have hA := fabs_any h p hs
  have hR0 : TimeF T p = if (fabsF T p).2 ≠ 0 then 0 else timeT T (fabsF T p).1 := rfl
  obtain ⟨r, hr⟩ : ∃ r, r = TimeF T p := ⟨_, rfl⟩
  rw [← hr] at hR0 ⊢
  clear hr
  generalize fabsF T p = z at hA hR0
  obtain ⟨q, e0⟩ := z
  simp only at hA hR0
  by_cases c1 : e0 = 0
  · subst c1
    have hr2 : r = timeT T q := by rw [hR0, if_neg (by simp)]
    have hK : Hid (∀ w', Below w.heap.size w w' → ∃ mb d o n c, w'.cell? ⟨fb, fo, none⟩ = some (.map (some mb)) ∧ (Instr.lookup 41 (.map (some mb)) (.string q) false).run Tryz.prog w' = .ok (.agg #[.bool d, .slice o n c, .int .i64 r]) w') := fun w' hb => by
      obtain ⟨mb, d, o, n, c, g1, g2, _⟩ := look_ok (h.below hb).tree q
      exact ⟨mb, d, o, n, c, g1, by rw [hr2]; exact g2⟩
    clear hR0 hr2
    go_enter Tryz.func189, Tryz.ntmps189
    go_wp2_with fail
    go_at_call 13
    refine hA.mono ?_
    rintro e w1 ⟨rfl, hb1⟩
    obtain ⟨mb, d, o, n, c, hc, hl1⟩ := hK.out w1 hb1
    have hfd := fld2 w1 d o n c r
    clear hK
    go_wp2
    go_ret
    exact ⟨rfl, hb1⟩
  · have hr2 : r = 0 := by rw [hR0, if_pos c1]
    have c1' := ne0 c1
    subst hr2
    clear hR0
    go_enter Tryz.func189, Tryz.ntmps189
    go_wp2_with fail
    go_at_call 13
    refine hA.mono ?_
    rintro e w1 ⟨rfl, hb1⟩
    go_wp2
    go_ret
    exact ⟨rfl, hb1⟩
/-! reading a file -/
def DataOk (w : World) (x : Option Addr × Nat × Nat) : Prop := (x.1 = none ∧ x.2.1 = 0 ∧ x.2.2 = 0) ∨ ∃ (a : Addr) (xs : List Int), x.1 = some a ∧ xs.length = x.2.1 ∧ x.2.1 ≤ 1000000 ∧ a.block < w.heap.size ∧ ∀ i, i < x.2.1 → w.cell? (a.add i) = some (.int .u8 (xs.getD i 0))
theorem add_block (a : Addr) (i : Nat) : (a.add i).block = a.block := by unfold Addr.add; split <;> rfl
theorem DataOk.below {w w' : World} {x : Option Addr × Nat × Nat} (h : DataOk w x) (hb : Below w.heap.size w w') : DataOk w' x := by
  rcases h with h | ⟨a, xs, h1, h2, h3, h4, h5⟩
  · exact .inl h
  · exact .inr ⟨a, xs, h1, h2, h3, Nat.lt_of_lt_of_le h4 hb.size, fun i hi => by rw [hb.cell (by rw [add_block]; exact h4)]; exact h5 i hi⟩
structure EnvD (w : World) (fb fo : Nat) (T : TT) : Prop where
  env : Env w fb fo T
  data : ∀ k x, findT T k = some x → DataOk w x.2.1
theorem EnvD.below {w w' : World} {fb fo : Nat} {T : TT} (h : EnvD w fb fo T) (hb : Below w.heap.size w w') : EnvD w' fb fo T := ⟨h.env.below hb, fun k x hx => (h.data k x hx).below hb⟩
def lenT (T : TT) (k : ByteArray) : Nat := match findT T k with
  | some x => x.2.1.2.1
  | none => 0
def readN (T : TT) (p : ByteArray) : Nat := if (foundF T p).2 ≠ 0 then 0 else if kindF T (foundF T p).1 = 2 then 0 else lenT T (foundF T p).1
theorem clone_any (w : World) (o : Option Addr) (n c : Nat) (h : DataOk w (o, n, c)) : Calls Tryz.prog 19 #[.slice o n c] w fun e w' => (∃ o' c', e = .returned (.slice o' n c')) ∧ Below w.heap.size w w' := by
  rcases h with ⟨h1, h2, h3⟩ | ⟨a, xs, h1, h2, h3, h4, h5⟩
  · simp only at h1 h2 h3
    subst h1; subst h2; subst h3
    exact (Tryz.bytes_Clone_nil 0 0 w).mono fun e w' ⟨he, hw⟩ => ⟨⟨none, 0, he⟩, hw ▸ Below.refl _ _⟩
  · simp only at h1 h2 h3 h5
    subst h1
    refine (Tryz.bytes_Clone_at a n c xs w h2 (by omega) h5).mono fun e w' ⟨v', he, hown, _, hb⟩ => ⟨?_, hb⟩
    subst he
    rcases hown.2 with ⟨rfl, h0⟩ | ⟨g, cap, cur, rfl, _⟩
    · exact ⟨none, 0, by rw [h0]⟩
    · exact ⟨_, _, rfl⟩
set_option maxHeartbeats 1600000 in
set_option maxRecDepth 100000 in
theorem Read_any {T : TT} {fb fo : Nat} {w : World} (h : EnvD w fb fo T) (p : ByteArray) (hs : p.size ≤ 1100000) :
    Calls Tryz.prog 53 #[.pointer (some ⟨fb, fo, none⟩), .string p] w fun e w' => (∃ o c e0, e = .returned (.tuple #[.slice o (readN T p) c, .int .i64 e0])) ∧ Below w.heap.size w w' := by
  have hA := found_any h.env p hs
  have hR0 : readN T p = if (foundF T p).2 ≠ 0 then 0 else if kindF T (foundF T p).1 = 2 then 0 else lenT T (foundF T p).1 := rfl
  obtain ⟨r, hr⟩ : ∃ r, r = readN T p := ⟨_, rfl⟩
  rw [← hr] at hR0 ⊢
  clear hr
  generalize foundF T p = z at hA hR0
  obtain ⟨q, e0⟩ := z
  simp only at hA hR0
  by_cases c1 : e0 = 0
  · subst c1
    have hK : Hid (∀ w', Below w.heap.size w w' → Calls Tryz.prog 14 #[.pointer (some ⟨fb, fo, none⟩), .string q] w' fun e w'' => e = .returned (.int .i64 (kindF T q)) ∧ Below w'.heap.size w' w'') := fun w' hb => kind_any (h.below hb).env.tree q
    by_cases c2 : kindF T q = 2
    · have hr2 : r = 0 := by rw [hR0, if_neg (by simp), if_pos c2]
      rw [c2] at hK
      subst hr2
      clear hR0 c2
      go_enter Tryz.func53, Tryz.ntmps53
      go_wp2_with fail
      go_at_call 88
      refine hA.mono ?_
      rintro e w1 ⟨rfl, hb1⟩
      have hK1 := hK.out w1 hb1
      go_wp2_with fail
      go_at_call 14
      refine hK1.mono ?_
      rintro e w2 ⟨rfl, hb2⟩
      go_wp2
      go_ret2
      exact ⟨⟨_, _, _, rfl⟩, hb1.trans (hb2.mono hb1.size)⟩
    · have hr2 : r = lenT T q := by rw [hR0, if_neg (by simp), if_neg c2]
      have hL : Hid (∀ w', Below w.heap.size w w' → ∃ mb d o c t, w'.cell? ⟨fb, fo, none⟩ = some (.map (some mb)) ∧ (Instr.lookup 41 (.map (some mb)) (.string q) false).run Tryz.prog w' = .ok (.agg #[.bool d, .slice o r c, .int .i64 t]) w' ∧ DataOk w' (o, r, c)) := fun w' hb => by
        have h' := h.below hb
        obtain ⟨mb, hc, hl⟩ := look_T h'.env.tree
        have hl1 := hl w' rfl q false
        rw [hr2]
        unfold lenT
        cases hT : findT T q with
        | none =>
          rw [hT] at hl1
          exact ⟨mb, false, none, 0, 0, hc, hl1, .inl ⟨rfl, rfl, rfl⟩⟩
        | some x =>
          have hd := h'.data q x hT
          obtain ⟨d, ⟨o, n, c⟩, t⟩ := x
          rw [hT] at hl1
          exact ⟨mb, d, o, c, t, hc, hl1, hd⟩
      obtain ⟨kd, hkd⟩ : ∃ x, x = kindF T q := ⟨_, rfl⟩
      rw [← hkd] at hK c2
      have c2' : (kd == 2) = false := beq_eq_false_iff_ne.2 c2
      clear hR0 hr2 hkd
      go_enter Tryz.func53, Tryz.ntmps53
      go_wp2_with fail
      go_at_call 88
      refine hA.mono ?_
      rintro e w1 ⟨rfl, hb1⟩
      have hK1 := hK.out w1 hb1
      go_wp2_with fail
      go_at_call 14
      refine hK1.mono ?_
      rintro e w2 ⟨rfl, hb2⟩
      have hb12 := hb1.trans (hb2.mono hb1.size)
      obtain ⟨mb, d, o, c, t, g1, g2, g3⟩ := hL.out w2 hb12
      have hC := clone_any w2 o r c g3
      have hfd := fld1 w2 d o r c t
      clear hL hK g3
      go_wp2_with fail
      go_at_call 19
      refine hC.mono ?_
      rintro e w3 ⟨⟨o', c', rfl⟩, hb3⟩
      go_wp2
      go_ret2
      exact ⟨⟨_, _, _, rfl⟩, hb12.trans (hb3.mono hb12.size)⟩
  · have hr2 : r = 0 := by rw [hR0, if_pos c1]
    have c1' := ne0 c1
    subst hr2
    clear hR0
    go_enter Tryz.func53, Tryz.ntmps53
    go_wp2_with fail
    go_at_call 88
    refine hA.mono ?_
    rintro e w1 ⟨rfl, hb1⟩
    go_wp2
    go_ret2
    exact ⟨⟨_, _, _, rfl⟩, hb1⟩
end Go.Proofs.YthocoonhoilmdaaGreatDoor
