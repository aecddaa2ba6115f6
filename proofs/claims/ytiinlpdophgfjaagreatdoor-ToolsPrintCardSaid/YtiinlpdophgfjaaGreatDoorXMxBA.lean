/-
  A part of a small executor of the model, proved sound (32 of 35). No condition.
-/
import Derived.Test.YtiinlpdophgfjaaGreatDoorXMxAY
import Derived.Test.YtiinlpdophgfjaaGreatDoorXMxX
import Derived.Lib.FrozenHead
import Derived.Test.YtiinlpdophgfjaaGreatDoorXMxAT
namespace Go.Mx
open Instr Builtin RowKit
noncomputable section
variable {P : Program} {ρ : Ren} {h : T O} {nx : Nat} {w : World} {ng : Nat}
theorem upon_set (hn : NameOK P) {g : Nat} {fn : Func} {c : Code} (hf : P.funcs[g]? = some fn) (hb : fn.body = some c) {vs : List Value} {y : V} {ob o2 : O} {id : Nat} {L2 : Loc}
    (hid : ρ id = some L2) (hwr : (gt O.none id h).wr)
    (hc : Calls P g ⟨vs⟩ w fun e w' => ∃ v L o q, e = .returned v ∧ w.heap.size ≤ L.blk ∧ w'.heap[L.blk]? = some o ∧ OR (upd ρ nx L) L ob o ∧ w'.heap[L2.blk]? = some q ∧ OR (upd ρ nx L) L2 o2 q ∧ VR (upd ρ nx L) y v ∧
      w.heap.size ≤ w'.heap.size ∧ w'.os = w.os ∧ w'.tape = w.tape ∧ w'.output = w.output ∧ ∀ b, b < w.heap.size → b ≠ L2.blk → w'.heap[b]? = w.heap[b]?)
    (s : St ρ h nx w) {K Kp : KV} (hk : K y (st O.none ob nx (st O.none o2 id h)) (Nat.succ nx) = true) : UponOK P ((callFunc g ⟨vs⟩).run P w) ρ h w K Kp := by
  intro o a next Q h1 _
  rw [callFunc_enter hn hf hb, Oper.upon_enter]
  refine hc.mono fun e w' ⟨v, L, o1, q1, he, hL, hh, ho, hq, ho2, hv, hsz, hos, htp, hou, hold⟩ => ?_
  subst he
  have hfr : ρ nx = none := s.fresh nx (Nat.le_refl _)
  have hne : nx ≠ id := fun e => by rw [← e, hfr] at hid; cases hid
  have hle : Ren.le ρ (upd ρ nx L) := upd_le hfr
  have hdead : ¬ (gt O.none nx h).live := s.dead nx (Nat.le_refl _)
  have hlt2 : L2.blk < w.heap.size := by
    obtain ⟨o5, g5, _⟩ := s.rel id L2 (O.live_of_wr hwr) hid
    exact (Array.getElem?_eq_some_iff.1 g5).1
  have gN : gt O.none nx (st O.none ob nx (st O.none o2 id h)) = ob := gt_st_same ..
  have gI : gt O.none id (st O.none ob nx (st O.none o2 id h)) = o2 := by rw [gt_st_ne _ _ hne, gt_st_same]
  have gO : ∀ {i}, nx ≠ i → id ≠ i → gt O.none i (st O.none ob nx (st O.none o2 id h)) = gt O.none i h := fun h1 h2 => by rw [gt_st_ne _ _ h1, gt_st_ne _ _ h2]
  have rI : upd ρ nx L id = some L2 := by rw [upd_ne _ _ (Ne.symm hne)]; exact hid
  have old : ∀ {i : Nat} {L1 : Loc}, nx ≠ i → id ≠ i → (gt O.none i h).live → upd ρ nx L i = some L1 → ρ i = some L1 ∧ L1.blk < w.heap.size ∧ L1.blk ≠ L2.blk := fun {i L1} hi hi2 hl1 hL1 => by
    rw [upd_ne _ _ (Ne.symm hi)] at hL1
    obtain ⟨o5, g5, _⟩ := s.rel i L1 hl1 hL1
    exact ⟨hL1, (Array.getElem?_eq_some_iff.1 g5).1, fun e => hi2 (s.inj id i L2 L1 hwr hl1 hid hL1 e.symm)⟩
  refine h1 (upd ρ nx L) y _ (Nat.succ nx) v w' hv ⟨fun i L1 hi hL1 => ?_, fun i j L1 M1 hi hj hL1 hM1 hb1 => ?_, fun i hi => ?_, fun i hi => ?_⟩ ⟨hle, hsz, hos, htp, hou, fun b hb2 hk2 => ⟨hold b hb2 fun e => hk2 id L2 hwr hid e.symm, fun i L1 hi hL1 => ?_⟩, fun i hi hn1 => ?_⟩ hk
  · by_cases e : nx = i
    · subst e
      rw [gN]
      rw [upd_same] at hL1
      cases hL1
      exact ⟨o1, hh, ho⟩
    · by_cases e3 : id = i
      · subst e3
        rw [gI]
        rw [rI] at hL1
        cases hL1
        exact ⟨q1, hq, ho2⟩
      · rw [gO e e3] at hi ⊢
        obtain ⟨q3, q4, q5⟩ := old e e3 hi hL1
        obtain ⟨o5, g5, g6⟩ := s.rel i L1 hi q3
        exact ⟨o5, by rw [hold _ q4 q5]; exact g5, g6.mono hle⟩
  · by_cases e : nx = i
    · subst e
      rw [upd_same] at hL1
      cases hL1
      by_cases e2 : nx = j
      · exact e2
      · by_cases e3 : id = j
        · subst e3
          rw [rI] at hM1
          cases hM1
          omega
        · rw [gO e2 e3] at hj
          obtain ⟨_, q4, _⟩ := old e2 e3 hj hM1
          omega
    · by_cases e3 : id = i
      · subst e3
        rw [rI] at hL1
        cases hL1
        by_cases e2 : nx = j
        · subst e2
          rw [upd_same] at hM1
          cases hM1
          omega
        · by_cases e4 : id = j
          · exact e4
          · rw [gO e2 e4] at hj
            obtain ⟨_, _, q5⟩ := old e2 e4 hj hM1
            exact absurd hb1.symm q5
      · rw [gO e e3] at hi
        obtain ⟨q1', q2', q3'⟩ := old e e3 (O.live_of_wr hi) hL1
        by_cases e2 : nx = j
        · subst e2
          rw [upd_same] at hM1
          cases hM1
          omega
        · by_cases e4 : id = j
          · subst e4
            rw [rI] at hM1
            cases hM1
            exact absurd hb1 q3'
          · rw [gO e2 e4] at hj
            obtain ⟨q6, _, _⟩ := old e2 e4 hj hM1
            exact s.inj i j L1 M1 hi hj q1' q6 hb1
  · rw [upd_ne _ _ (by omega)]
    exact s.fresh i (by omega)
  · have e3 : id ≠ i := fun e => by
      have := s.fresh i (by omega)
      rw [← e, hid] at this
      cases this
    rw [gO (by omega) e3]
    exact s.dead i (by omega)
  · by_cases e : nx = i
    · subst e
      rw [upd_same] at hL1
      cases hL1
      omega
    · by_cases e3 : id = i
      · subst e3
        rw [rI] at hL1
        cases hL1
        exact hk2 _ _ hwr hid
      · rw [gO e e3] at hi
        obtain ⟨q1', _, _⟩ := old e e3 (O.live_of_wr hi) hL1
        exact hk2 i L1 hi q1'
  · have e : nx ≠ i := fun e => by subst e; exact hdead hi
    have e3 : id ≠ i := fun e => by rw [← e, hid] at hn1; cases hn1
    exact ⟨by rw [upd_ne _ _ (Ne.symm e)]; exact hn1, gO e e3⟩
theorem lput_one {arr : Array Value} {b j : Nat} {v : Value} (h : b + j < arr.size) : lput (arr.toList.drop b) j [v] = (arr.setIfInBounds (b + j) v).toList.drop b := by
  have hA : ∀ i, ((arr.setIfInBounds (b + j) v).toList.drop b)[i]? = (arr.setIfInBounds (b + j) v)[b + i]? := fun i => by rw [List.getElem?_drop, Array.getElem?_toList]
  have h0 : ∀ i, (arr.toList.drop b)[i]? = arr[b + i]? := fun i => by rw [List.getElem?_drop, Array.getElem?_toList]
  have hl : (List.take j (arr.toList.drop b)).length = j := by rw [List.length_take, List.length_drop, Array.length_toList]; omega
  apply List.ext_getElem?
  intro i
  rw [hA i]
  unfold lput
  rw [List.append_assoc]
  by_cases c1 : i < j
  · rw [List.getElem?_append_left (by omega), List.getElem?_take, if_pos c1, h0, Array.getElem?_setIfInBounds_ne (by omega)]
  · rw [List.getElem?_append_right (by omega), hl]
    by_cases c2 : i = j
    · subst c2
      rw [Nat.sub_self, Array.getElem?_setIfInBounds, if_pos rfl, if_pos h]
      rfl
    · rw [Array.getElem?_setIfInBounds_ne (by omega), List.getElem?_append_right (by simp; omega), List.getElem?_drop, h0]
      simp only [List.length_cons, List.length_nil]
      congr 1
      omega
def fmtL : List Nat := [37, 115, 124, 37, 100, 37, 37, 92, 116, 37, 120, 92, 110]
def fmtB : List UInt8 := [37, 115, 124, 37, 100, 37, 37, 92, 116, 37, 120, 92, 110]
def prL (s : List UInt8) (k : Int) : List UInt8 := s ++ (s ++ ([124] ++ (Lib.itoa k ++ [37, 9, 37, 120, 10])))
def slN (b o n c : Nat) : Value := if c = 0 then .slice (some ⟨b, o, none⟩) n c else .slice (some ⟨b, o + 1, none⟩) n c
theorem slN_succ (b o n c : Nat) : slN b o n (c + 1) = .slice (some ⟨b, o + 1, none⟩) n (c + 1) := if_neg (Nat.succ_ne_zero c)
theorem slN_ex (b o n c : Nat) : ∃ a, slN b o n c = .slice (some a) n c := by
  unfold slN
  split
  · exact ⟨_, rfl⟩
  · exact ⟨_, rfl⟩
def PrSaid (P : Program) (g u8 : Nat) (name : String) : Prop := ∀ (ub o ab ao n cap : Nat) (arr : Array Value) (ty : TypeId) (fz : Nat × Nat) (s : ByteArray) (k : Int) (w : World),
  w.heap[ub]? = some (.cells arr ty fz) → free arr.size fz → arr[o + 3]? = some (.slice (some ⟨ab, ao, none⟩) n cap) → arr[o + 6]? = some (.slice none 0 0) → 3 ≤ n → n ≤ cap → ab ≠ ub →
  w.cell? ⟨ab, ao, none⟩ = some (.string ⟨(s.data.toList ++ fmtB).toArray⟩) → w.cell? ⟨ab, ao + 1, none⟩ = some (.string s) → w.cell? ⟨ab, ao + 2, none⟩ = some (.string ⟨(Lib.itoa k).toArray⟩) →
  -9223372036854775808 ≤ k → k ≤ 9223372036854775807 → (∀ b ∈ s.data.toList, b ≠ 37 ∧ b ≠ 92) → s.size ≤ 200 → Lib.TabIs P w name .u64 Lib.pow10Tab →
  Calls P g #[.pointer (some ⟨ub, o, none⟩)] w fun e w' => e = .returned (.tuple #[]) ∧ ∃ O, w'.heap[ub]? = some (.cells ((arr.setIfInBounds (o + 3) (slN ab (ao + 2) (n - 3) (cap - 3))).setIfInBounds (o + 6) O) ty fz) ∧
    w'.ownsRowF w.heap.size u8 1 O (prL s.data.toList k).length ((prL s.data.toList k).map byteV) ∧ w.heap.size ≤ w'.heap.size ∧ w'.os = w.os ∧ w'.tape = w.tape ∧ w'.output = w.output ∧ ∀ j, j < w.heap.size → j ≠ ub → w'.heap[j]? = w.heap[j]?
def vSl4 (v : V) (k : Nat → Nat → Nat → Nat → Bool) : Bool := match v with
  | .sl id off ln sz => k id off ln sz
  | _ => false
theorem vSl4_spec {v : V} {k : Nat → Nat → Nat → Nat → Bool} (h : vSl4 v k = true) : ∃ id off ln sz, v = .sl id off ln sz ∧ k id off ln sz = true := by
  cases v <;> first | exact Bool.noConfusion h | exact ⟨_, _, _, _, rfl, h⟩
def minL : List Nat := [45, 57, 50, 50, 51, 51, 55, 50, 48, 51, 54, 56, 53, 52, 55, 55, 53, 56, 48, 56]
theorem min_itoa : Lib.itoa minI = minL.map UInt8.ofNat := by decide +kernel
def numD (d : V) : Bool := ior (numC minI maxI d) (sameV d (.s minL))
theorem numD_spec {d : V} (hk : numD d = true) {v : Value} (hv : VR ρ d v) : ∃ n : Int, -9223372036854775808 ≤ n ∧ n ≤ 9223372036854775807 ∧ v = .string ⟨(Lib.itoa n).toArray⟩ := by
  rcases ior_cases hk with h1 | h1
  · exact numC_spec h1 hv
  · have h1 := sameV_eq h1
    subst h1
    simp only [VR] at hv
    refine ⟨minI, by decide, by decide, ?_⟩
    rw [hv.1, min_itoa]
    rfl
theorem isB_spec {v : V} (h : isB true v = true) : v = .b true := by
  obtain ⟨b, rfl, hk⟩ := vB_spec h
  rw [bs_eq_spec] at hk
  cases b <;> first | rfl | exact Bool.noConfusion hk
def hkPr (tb u8 : Nat) : HookF := fun args h nx K => arg0 args fun p r => ite1 (isNilV r) <| vP p fun id off => ite1 (isPow tb h) <| oC (gt O.none id h) fun l ty wr => ite1 wr <| nthK l (off + 3) fun as => vSl4 as fun aid aoff ln sz => ite1 (Nat.beq sz 1) <| ite1 (Nat.ble 3 ln) <| ite1 (inot (Nat.beq aid id)) <|
  nthK l (off + 6) fun so => ite1 (isSn so) <| oC (gt O.none aid h) fun al _ _ => nthK al aoff fun x => nthK al (aoff + 1) fun s => nthK al (aoff + 2) fun d => ite1 (numD d) <| ropK x fun xc => ropK s fun sc => ropK d fun dc => ite1 (noSetR [37, 92] sc) <| atMost sc 200 fun _ =>
  ropK (.s fmtL) fun fc => catK sc fc fun c => ite1 (eqR c xc fun y => isB true y) <| ropK (.s [37, 9, 37, 120, 10]) fun e1 => catK dc e1 fun e2 => ropK (.s [124]) fun e3 => catK e3 e2 fun e4 => catK sc e4 fun e5 => catK sc e5 fun t => lenR t fun m =>
  putK l (off + 3) (.cons (Bool.rec (motive := fun _ => V) (.sl aid (aoff + 3) (ln - 3) 1) .se (Nat.beq ln 3)) .nil) fun l1 => putK l1 (off + 6) (.cons (.o 3 m nx 0 0) .nil) fun l2 => stK O.none (.c l2 ty true) id h fun h1 => stK O.none (O.r t u8 false) nx h1 fun h2 => K (.t .nil) h2 (Nat.succ nx)
theorem hkPr_ok (hn : NameOK P) {g u8 tb : Nat} {name : String} {fn : Func} {cd : Code} (hf : P.funcs[g]? = some fn) (hb : fn.body = some cd) (ht : tb < ng) (hnm : P.globalNamed name = some tb) (hC : PrSaid P g u8 name) : HookOk P ng g (hkPr tb u8) := by
  intro args h nx K Kp hk ρ w vs s gr hvs
  obtain ⟨p, r, rfl, hk⟩ := arg0_spec hk
  obtain ⟨e1, hk⟩ := ite1_spec hk
  have e1 := isNilV_spec e1
  subst e1
  obtain ⟨id, off, rfl, hk⟩ := vP_spec hk
  obtain ⟨hpw, hk⟩ := ite1_spec hk
  have htab := isPow_spec hpw ht hnm s gr
  obtain ⟨l, ty, wr, ho, hk⟩ := oC_spec hk
  obtain ⟨ew, hk⟩ := ite1_spec hk
  subst ew
  obtain ⟨as, hk, t3⟩ := nthK_spec hk
  obtain ⟨aid, aoff, ln, sz, rfl, hk⟩ := vSl4_spec hk
  obtain ⟨e2, hk⟩ := ite1_spec hk
  have e2 := beq_spec e2
  subst e2
  obtain ⟨e3, hk⟩ := ite1_spec hk
  have e3 := Nat.le_of_ble_eq_true e3
  obtain ⟨e4, hk⟩ := ite1_spec hk
  have e4 : aid ≠ id := Nat.ne_of_beq_eq_false (inot_cases e4)
  obtain ⟨so, hk, t6⟩ := nthK_spec hk
  obtain ⟨e5, hk⟩ := ite1_spec hk
  have e5 := isSn_spec e5
  subst e5
  obtain ⟨al, aty, awr, hao, hk⟩ := oC_spec hk
  obtain ⟨x, hk, u0⟩ := nthK_spec hk
  obtain ⟨sv, hk, u1⟩ := nthK_spec hk
  obtain ⟨d, hk, u2⟩ := nthK_spec hk
  obtain ⟨hnum, hk⟩ := ite1_spec hk
  obtain ⟨xc, hk, hx⟩ := ropK_spec hk
  obtain ⟨sc, hk, hs⟩ := ropK_spec hk
  obtain ⟨dc, hk, hd⟩ := ropK_spec hk
  obtain ⟨hno, hk⟩ := ite1_spec hk
  obtain ⟨_, hk, hmost⟩ := atMost_spec hk
  obtain ⟨fc, hk, hfc⟩ := ropK_spec hk
  simp only [VRs] at hvs
  obtain ⟨v0, vr, rfl, hp, rfl⟩ := hvs
  obtain ⟨L, arr, fz, hL, rfl, hh, hsz, hfz, hbs, hcr⟩ := s.at ho hp
  obtain ⟨y3, k3, r3⟩ := t3 ρ _ hcr
  obtain ⟨y6, k6, r6⟩ := t6 ρ _ hcr
  simp only [VR] at r3 r6
  obtain ⟨La, cap, hLa, hcap, hasz, rfl⟩ := r3
  subst r6
  obtain ⟨La', arr2, fz2, hLa', _, hh2, hsz2, _, hbs2, hcr2⟩ := s.at hao (v := .pointer (some ⟨La.blk, La.base + 0, none⟩)) (off := 0) (by simp only [VR]; exact ⟨La, hLa, rfl⟩)
  have eLa : La' = La := by rw [hLa] at hLa'; cases hLa'; rfl
  subst eLa
  obtain ⟨z0, j0, q0⟩ := u0 ρ _ hcr2
  obtain ⟨z1, j1, q1⟩ := u1 ρ _ hcr2
  obtain ⟨z2, j2, q2⟩ := u2 ρ _ hcr2
  obtain ⟨bx, rfl, rx⟩ := hx ρ z0 q0
  obtain ⟨bv, rfl, rs⟩ := hs ρ z1 q1
  obtain ⟨n, n1, n2, hz2⟩ := numD_spec hnum q2
  obtain ⟨bd, hbd, rd⟩ := hd ρ z2 q2
  rw [hz2] at hbd
  have hbd := Value.string.inj hbd
  subst hbd
  rw [hz2] at j2
  obtain ⟨bf, hbf, rf⟩ := hfc ρ (.string (bs fmtL)) (by simp only [VR]; exact ⟨trivial, by decide⟩)
  have hbf := Value.string.inj hbf
  subst hbf
  obtain ⟨c, hk, hc⟩ := catK_RR hk (RR_isC rs)
  obtain ⟨e7, hk⟩ := ite1_spec hk
  obtain ⟨y7, e8, e9⟩ := eqR_spec e7 (hc ρ _ _ rs rf) rx
  have e8 := isB_spec e8
  subst e8
  simp only [VR, Value.bool.injEq] at e9
  have hxs : bv.data.toList ++ (bs fmtL).data.toList = bx.data.toList := of_decide_eq_true e9
  obtain ⟨c1, hk, hc1⟩ := ropK_spec hk
  obtain ⟨b1, hb1, rb1⟩ := hc1 ρ (.string (bs [37, 9, 37, 120, 10])) (by simp only [VR]; exact ⟨trivial, by decide⟩)
  have hb1 := Value.string.inj hb1
  subst hb1
  obtain ⟨c2, hk, hc2⟩ := catK_RR hk (RR_isC rd)
  have rc2 := hc2 ρ _ _ rd rb1
  obtain ⟨c3, hk, hc3⟩ := ropK_spec hk
  obtain ⟨b3, hb3, rb3⟩ := hc3 ρ (.string (bs [124])) (by simp only [VR]; exact ⟨trivial, by decide⟩)
  have hb3 := Value.string.inj hb3
  subst hb3
  obtain ⟨c4, hk, hc4⟩ := catK_RR hk (RR_isC rb3)
  have rc4 := hc4 ρ _ _ rb3 rc2
  obtain ⟨c5, hk, hc5⟩ := catK_RR hk (RR_isC rs)
  have rc5 := hc5 ρ _ _ rs rc4
  obtain ⟨t, hk, hct⟩ := catK_RR hk (RR_isC rs)
  have rt := hct ρ _ _ rs rc5
  obtain ⟨m, hk, hmc, hm⟩ := lenR_spec hk
  obtain ⟨l1, hk, hl1c, hput1, _⟩ := putK_spec hk (CR_isC hcr) (by simp [isC])
  obtain ⟨l2, hk, _, hput2, _⟩ := putK_spec hk hl1c (by simp [isC])
  rw [stK_eq, stK_eq] at hk
  have ewr : (gt O.none id h).wr := asC_wr ho
  have hblk : La'.blk ≠ L.blk := fun e => e4 ((s.inj id aid L La' ewr (asC_live hao) hL hLa e.symm).symm)
  have hT : bv.data.toList ++ (bv.data.toList ++ ((bs [124]).data.toList ++ ((⟨(Lib.itoa n).toArray⟩ : ByteArray).data.toList ++ (bs [37, 9, 37, 120, 10]).data.toList))) = prL bv.data.toList n := by
    show _ = bv.data.toList ++ (bv.data.toList ++ ([124] ++ (Lib.itoa n ++ [37, 9, 37, 120, 10])))
    rw [show (bs [124]).data.toList = [124] from rfl, show (bs [37, 9, 37, 120, 10]).data.toList = [37, 9, 37, 120, 10] from rfl, List.toList_toArray]
  rw [hT] at rt
  have at1 : ∀ j, (arr.toList.drop L.base)[j]? = arr[L.base + j]? := fun j => by rw [List.getElem?_drop, Array.getElem?_toList]
  have at2 : ∀ j, (arr2.toList.drop La'.base)[j]? = arr2[La'.base + j]? := fun j => by rw [List.getElem?_drop, Array.getElem?_toList]
  rw [at1] at k3 k6
  rw [at2] at j0 j1 j2
  have cl : ∀ j, w.cell? ⟨La'.blk, j, none⟩ = arr2[j]? := fun j => by unfold World.cell?; simp [hh2]
  have hcall := hC L.blk (L.base + off) La'.blk (La'.base + aoff) ln cap arr ty fz bv n w hh (by rw [hsz]; exact hfz rfl) (by rw [show L.base + off + 3 = L.base + (off + 3) by omega]; exact k3) (by rw [show L.base + off + 6 = L.base + (off + 6) by omega]; exact k6) e3 hcap hblk
    (by rw [cl, j0, ← show bx = (⟨(bv.data.toList ++ fmtB).toArray⟩ : ByteArray) from by rw [show fmtB = (bs fmtL).data.toList from rfl, hxs]]) (by rw [cl, show La'.base + aoff + 1 = La'.base + (aoff + 1) by omega, j1]) (by rw [cl, show La'.base + aoff + 2 = La'.base + (aoff + 2) by omega, j2]) n1 n2
    (fun b hb => by
      have := noSetR_spec (by decide) hno rs b hb
      simp at this
      exact this) (hmost ρ _ rs).2 htab
  refine upon_set hn hf hb (y := .t .nil) (ob := .r t u8 false) (o2 := .c l2 ty true) hL ewr ?_ s hk
  refine hcall.mono fun e w' ⟨h4, O, h5, h6, h7, h8, h9, h10, h11⟩ => ?_
  have hlen0 : 0 < (prL bv.data.toList n).length := by
    unfold prL
    simp only [List.length_append, List.length_cons, List.length_nil]
    omega
  rcases h6.2 with ⟨_, h0⟩ | ⟨g', cp, cur, fz', rfl, hbase, hg, hfz', hncap, _, hcs, htk⟩
  · omega
  have hle : Ren.le ρ (upd ρ nx ⟨g', 0, cur.size⟩) := upd_le (s.fresh nx (Nat.le_refl _))
  have hi6 : L.base + (off + 6) < arr.size := (Array.getElem?_eq_some_iff.1 k6).1
  have hi3 : L.base + (off + 3) < arr.size := (Array.getElem?_eq_some_iff.1 k3).1
  rw [Nat.mul_one] at hcs htk
  refine ⟨.tuple #[], ⟨g', 0, cur.size⟩, .cells cur u8 fz', _, h4, hbase, hg, ?_, h5, ?_, ?_, h7, h8, h9, h10, h11⟩
  · refine ⟨cur, fz', prL bv.data.toList n, rfl, rfl, fun e => Bool.noConfusion e, ?_, rt.mono hle, ?_⟩
    · show 0 + _ ≤ cur.size
      omega
    · show (cur.toList.drop 0).take _ = _
      rw [List.drop_zero]
      exact htk
  · have hv3 : VR (upd ρ nx ⟨g', 0, cur.size⟩) (Bool.rec (motive := fun _ => V) (.sl aid (aoff + 3) (ln - 3) 1) .se (Nat.beq ln 3)) (slN La'.blk (La'.base + aoff + 2) (ln - 3) (cap - 3)) := by
      cases e3 : Nat.beq ln 3 with
      | true =>
        have h3 : ln = 3 := Nat.eq_of_beq_eq_true e3
        obtain ⟨a, ha⟩ := slN_ex La'.blk (La'.base + aoff + 2) (ln - 3) (cap - 3)
        show VR _ .se _
        simp only [VR]
        exact ⟨a, cap - 3, by rw [ha, h3]⟩
      | false =>
        have h3 : ln ≠ 3 := Nat.ne_of_beq_eq_false e3
        show VR _ (.sl aid (aoff + 3) (ln - 3) 1) _
        obtain ⟨q, hq⟩ : ∃ q, cap - 3 = q + 1 := ⟨cap - 4, by omega⟩
        rw [hq, slN_succ]
        simp only [VR]
        exact ⟨La', q + 1, hle _ _ hLa, by omega, by omega, by rw [show La'.base + aoff + 2 + 1 = La'.base + (aoff + 3) by omega]⟩
    have p1 := (hput1 (upd ρ nx ⟨g', 0, cur.size⟩) _ [slN La'.blk (La'.base + aoff + 2) (ln - 3) (cap - 3)] (hcr.mono hle) (by
      simp only [VRs]
      exact ⟨_, _, rfl, hv3, rfl⟩)).1
    rw [lput_one hi3] at p1
    have p2 := (hput2 (upd ρ nx ⟨g', 0, cur.size⟩) _ [.slice (some ⟨g', 0, none⟩) (prL bv.data.toList n).length cp] p1 (by
      simp only [VRs, VR]
      exact ⟨_, _, rfl, .inl (.inr (.inr (.inl ⟨rfl, ⟨g', 0, cur.size⟩, _, cp, upd_same _ _ _, hm _ _ (rt.mono hle), hncap, by show 0 + cp ≤ cur.size; omega, rfl⟩))), rfl⟩)).1
    rw [lput_one (by simpa using hi6)] at p2
    refine ⟨_, fz, rfl, by simpa using hsz, fun _ => hfz rfl, hbs, ?_⟩
    rw [show L.base + off + 3 = L.base + (off + 3) by omega, show L.base + off + 6 = L.base + (off + 6) by omega]
    exact p2
  · simp only [VR, VRs]
    exact ⟨_, rfl, rfl⟩
end
end Go.Mx
namespace Go.Mx
open Instr Builtin RowKit
noncomputable section
variable {P : Program} {ng : Nat}
def retKP (slot t : Nat) (C : O → Bool) : KX := fun x tm D _ h _ => X.rec (motive := fun _ => Bool) false (fun _ => false) (ite1 (noD D) <| ite1 (isB true (gt V.nil slot tm)) <| C (gt O.none t h)) (fun _ => false) x
theorem mid_run_p {ex : EX} (hex : EXok P ng ex) {W : World} {ob : List (Nat × O)} {ρa : Ren} {nx t : Nat} (hnx : ng ≤ nx) (ht : t < ng) (hρ : ∀ i L, ρa i = some L → ng ≤ i ∧ i < nx)
    (hob : ∀ i, (gt O.none i (putO ob .leaf)).live → (ng ≤ i ∧ i < nx ∧ ¬ (gt O.none i (putO ob .leaf)).wr) ∧ ∀ L, ρa i = some L → L.blk ≠ t ∧ ∃ o, W.heap[L.blk]? = some o ∧ OR ρa L (gt O.none i (putO ob .leaf)) o)
    {c : Code} {nt slot : Nat} {tm : T V} {a : Act} (htr : TR ρa tm a) (hn : nt ≤ a.tmps.size) (hd : a.defers = [])
    (hrun : ∀ (τ : Nat → Nat) (C : O → Bool), stK O.none (.v powV (τ t)) t (putO ob .leaf) (fun h0 => ex c nt tm .nil (.b false) h0 nx (retKP slot t C)) = C (.v powV (τ t)))
    (tab : ∃ arr ty, W.heap[t]? = some (.cells arr ty (0, 0)) ∧ arr.toList = Lib.pow10Tab.map fun n => Value.int .u64 n)
    {Q : Exit → Act → World → Prop} (hQ : ∀ (a' : Act) (W' : World), a'.defers = [] → a'.tmps.getD slot undef = .bool true → Stays W W' → Q .ret a' W') : c.wp P Q a W := by
  obtain ⟨arr, ty, w1, w2⟩ := tab
  have hrun := hrun (fun _ => ty) (isTb ty)
  rw [stK_eq, isTb_self] at hrun
  let sz : Nat → Nat := fun i => if i = t then 20 else 0
  let ρr : Ren := fun i => if i < ng then some ⟨i, 0, sz i⟩ else ρa i
  have hle : Ren.le ρa ρr := fun i L e => by
    have := (hρ i L e).1
    have h1 : ¬ i < ng := by omega
    simp only [ρr, h1, if_false]
    exact e
  have atT : gt O.none t (st O.none (.v powV ty) t (putO ob .leaf)) = .v powV ty := gt_st_same ..
  have atO : ∀ {i}, i ≠ t → gt O.none i (st O.none (.v powV ty) t (putO ob .leaf)) = gt O.none i (putO ob .leaf) := fun h => gt_st_ne _ _ (Ne.symm h) _
  have wrT : ∀ {i}, (gt O.none i (st O.none (.v powV ty) t (putO ob .leaf))).wr → i = t := fun {i} hi => by
    by_cases e : i = t
    · exact e
    · rw [atO e] at hi
      exact absurd hi (hob i (O.live_of_wr hi)).1.2.2
  have tl : ∀ {i : Nat} {L : Loc}, i < ng → ρr i = some L → L = ⟨i, 0, sz i⟩ := fun {i L} h e => by simpa [ρr, h, eq_comm] using e
  have al : ∀ {i : Nat} {L : Loc}, ng ≤ i → ρr i = some L → ρa i = some L := fun {i L} h e => by
    have h1 : ¬ i < ng := by omega
    simpa only [ρr, h1, if_false] using e
  have sr : St ρr (st O.none (.v powV ty) t (putO ob .leaf)) nx W := by
    refine ⟨fun id L hi hL => ?_, fun i j L M hi hj hL hM hb => ?_, fun i hi => ?_, fun i hi hl' => ?_⟩
    · by_cases e : id = t
      · subst e
        obtain rfl := tl ht hL
        refine ⟨_, w1, ?_⟩
        rw [atT]
        refine ⟨arr.toList, rfl, ?_, rfl, ?_⟩
        · rw [w2, List.length_map, Lib.pow10Tab_length]
          simp [sz]
        · rw [w2, pow_eq]
          exact VRs_tab' .u64 _
      · rw [atO e] at hi ⊢
        obtain ⟨⟨q1, q2, q3⟩, q4⟩ := hob id hi
        obtain ⟨_, o, g1, g2⟩ := q4 L (al q1 hL)
        exact ⟨o, g1, g2.mono hle⟩
    · have e := wrT hi
      subst e
      by_cases e : j = i
      · exact e.symm
      · rw [atO e] at hj
        obtain ⟨⟨q1, q2, q3⟩, q4⟩ := hob j hj
        obtain rfl := tl ht hL
        exact absurd hb.symm (q4 M (al q1 hM)).1
    · have h1 : ¬ i < ng := by omega
      show (if i < ng then some _ else ρa i) = none
      rw [if_neg h1]
      cases e : ρa i with
      | none => rfl
      | some L => have := (hρ i L e).2; omega
    · have e : i ≠ t := by omega
      rw [atO e] at hl'
      have := (hob i hl').1.2.1
      omega
  have gr : RG ng ρr := fun i hi => ⟨⟨i, 0, sz i⟩, by simp [ρr, hi], rfl, rfl⟩
  refine WG.wp fun cs => ?_
  refine (hex c nt tm .nil (.b false) _ nx (retKP slot t (isTb ty)) hrun false default cs ρr _ W _ (fun ρ' z tm' D' U' h' nx' a' cs' w' hk s' hx g'' t' hn' hd' hu' => ?_) ρr a cs W sr (Ext.refl _ _ _) gr (fun i => (htr i).mono hle) hn (by rw [hd]; simp only [DR]) ⟨rfl, rfl⟩).1
  obtain ⟨_, rfl⟩ := hu'
  cases z with
  | n => exact Bool.noConfusion hk
  | x id => exact Bool.noConfusion hk
  | pk v => exact Bool.noConfusion hk
  | r =>
    obtain ⟨f1, f2⟩ := ite1_spec (show ite1 (noD D') (ite1 (isB true (gt V.nil slot tm')) (isTb ty (gt O.none t h'))) = true from hk)
    obtain ⟨_, hds⟩ := noD_spec f1 hd'
    obtain ⟨f2, f3⟩ := ite1_spec f2
    have k2 : oV (gt O.none t h') (fun l u => ite1 (Nat.beq u ty) <| sameV l powV) = true := f3
    clear f3 hk
    have hv := t' slot
    rw [isB_spec f2] at hv
    simp only [VR] at hv
    refine ⟨rfl, hQ a' w' hds hv ⟨hx.size, hx.os, hx.tape, hx.output, fun b hb => ?_⟩⟩
    by_cases e : b = t
    · subst e
      obtain ⟨l, u, e1, k3⟩ := oV_spec' k2
      obtain ⟨e2, e3⟩ := ite1_spec k3
      have e2 := Nat.eq_of_beq_eq_true e2
      have e3 := sameV_eq e3
      subst e2; subst e3
      have hL : ρr b = some ⟨b, 0, sz b⟩ := by simp [ρr, ht]
      obtain ⟨q, q1, q2⟩ := s'.rel b _ (by rw [e1]; trivial) (hx.le _ _ hL)
      rw [e1] at q2
      obtain ⟨vs', rfl, _, _, q3⟩ := q2
      have q4 := VRs_tab .u64 q3
      have : arr = ⟨vs'⟩ := by
        apply Array.ext'
        rw [w2, q4, pow_eq]
      show w'.heap[b]? = W.heap[b]?
      rw [w1, this]
      exact q1
    · refine (hx.kept b hb fun id L hw hL => ?_).1
      have e1 := wrT hw
      subst e1
      obtain rfl := tl ht hL
      exact fun h => e h.symm
end
end Go.Mx
