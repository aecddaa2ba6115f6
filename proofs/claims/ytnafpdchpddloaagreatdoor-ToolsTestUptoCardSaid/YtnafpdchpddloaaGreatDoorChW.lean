/-
  What the parts of check tell of any texts, walked.
-/
import Derived.Test.YtnafpdchpddloaaGreatDoorProg
import Derived.Test.YtnafpdchpddloaaGreatDoorVfW
import Derived.Shelf.Strings.SlTrimAscii
import Derived.Deep.RegionWith
import Derived.Deep.RegionHeld3
import Derived.RegionTactic
import Derived.WalkKit
import Derived.WalkSpells
import Derived.StillTactics
import Derived.LoopIn
import Derived.RowKit3
import Derived.Below
import Derived.OwnWalk
import Derived.KernelRfl
open Go Go.RowKit
namespace Go.Proofs.YtnafpdchpddloaaGreatDoor
/-! numbers -/
theorem bytes_below (w : World) (t : ByteArray) : Below w.heap.size w (Lib.bytesWorld w 5 t) := ⟨rfl, rfl, rfl, by rw [Lib.bytesWorld_size]; omega, fun j hj => Lib.bytesWorld_at_old w 5 t j hj⟩
theorem parse_digits : ∀ (l : List UInt8) (k acc : Nat), acc < 10 ^ k → k + l.length ≤ 18 → (∀ c ∈ l, 48 ≤ c.toNat ∧ c.toNat ≤ 57) → ∃ u, Lib.parseUint10 acc l = .ok u ∧ u < 10 ^ 18
  | [], k, acc, ha, hk, _ => ⟨acc, rfl, Nat.lt_of_lt_of_le ha (Nat.pow_le_pow_right (by omega) (by simpa using hk))⟩
  | c :: r, k, acc, ha, hk, hd => by
    have hc := hd c (List.mem_cons_self ..)
    simp only [List.length_cons] at hk
    have h1 : acc < 10 ^ 17 := Nat.lt_of_lt_of_le ha (Nat.pow_le_pow_right (by omega) (by omega))
    have h2 : acc * 10 + (c.toNat - 48) < 10 ^ (k + 1) := by rw [Nat.pow_succ]; omega
    obtain ⟨u, g1, g2⟩ := parse_digits r (k + 1) _ h2 (by omega) (fun d hdm => hd d (List.mem_cons_of_mem _ hdm))
    refine ⟨u, ?_, g2⟩
    rw [Lib.parseUint10, if_pos hc, if_neg (by omega), if_neg (by omega)]
    exact g1
theorem atoi_digits {s : List UInt8} {d : List UInt8} (hd : Lib.trimPrefix s [45] = d) (h0 : d ≠ []) (h18 : d.length ≤ 18) (hdg : ∀ c ∈ d, 48 ≤ c.toNat ∧ c.toNat ≤ 57) : ∃ v, Lib.atoiAll s = .ok v := by
  obtain ⟨u, g1, g2⟩ := parse_digits d 0 0 (by decide) (by omega) hdg
  have gm : Lib.parseMag d = .ok u := by unfold Lib.parseMag; rw [if_neg h0]; exact g1
  cases s with
  | nil => exact absurd (by rw [← hd]; rfl) h0
  | cons c r =>
    by_cases hc : c = 45
    · subst hc
      have hr : d = r := by rw [← hd]; rfl
      subst hr
      unfold Lib.atoiAll
      simp only [show ((45 : UInt8).toNat = 43 ∨ (45 : UInt8).toNat = 45) = True from by decide, if_true, gm]
      rw [if_neg (fun h => h.1 rfl), if_neg (fun h => by have := h.2; omega)]
      exact ⟨_, rfl⟩
    · have hr : d = c :: r := by
        rw [← hd]
        have : Lib.hasPrefix (c :: r) [45] = false := by
          unfold Lib.hasPrefix
          simp only [List.isPrefixOf, Bool.and_true]
          exact beq_eq_false_iff_ne.2 (Ne.symm hc)
        unfold Lib.trimPrefix
        rw [this]
        rfl
      subst hr
      have hcd := hdg c (List.mem_cons_self ..)
      have hn : ¬ (c.toNat = 43 ∨ c.toNat = 45) := by omega
      unfold Lib.atoiAll
      simp only [if_neg hn, gm]
      rw [if_neg (fun h => by have := h.2; omega), if_neg (fun h => by have := h.2; omega)]
      exact ⟨_, rfl⟩
theorem dropW_nil {α : Type} {p : α → Bool} : ∀ {l : List α}, l.dropWhile p = [] → ∀ x ∈ l, p x = true
  | [], _, x, h => by cases h
  | y :: l, h, x, hx => by
    rw [List.dropWhile_cons] at h
    split at h
    · rcases List.mem_cons.1 hx with rfl | hx
      · assumption
      · exact dropW_nil h x hx
    · cases h
theorem dropW_head {α : Type} {p : α → Bool} : ∀ {l : List α} {x : α} {r : List α}, l.dropWhile p = x :: r → p x = false
  | [], _, _, h => by cases h
  | y :: l, x, r, h => by
    rw [List.dropWhile_cons] at h
    split at h
    · exact dropW_head h
    · cases h
      rename_i hp
      simpa using hp
theorem trimS_nil {d cs : List UInt8} (h : Lib.trimS d cs = []) : ∀ x ∈ d, cs.contains x = true := by
  unfold Lib.trimS Lib.trimRightS Lib.trimLeftS at h
  have h2 := dropW_nil h
  cases e : d.reverse.dropWhile (cs.contains ·) with
  | nil => exact fun x hx => dropW_nil e x (List.mem_reverse.2 hx)
  | cons x r =>
    rw [e] at h2
    have h3 := dropW_head e
    rw [h2 x (by simp)] at h3
    cases h3
def digB : ByteArray := ⟨#[48, 49, 50, 51, 52, 53, 54, 55, 56, 57]⟩
theorem dig_of {c : UInt8} (h : digB.data.toList.contains c = true) : 48 ≤ c.toNat ∧ c.toNat ≤ 57 := by
  have key : ∀ k : Fin 256, digB.data.toList.contains (UInt8.ofNat k.val) = true → 48 ≤ k.val ∧ k.val ≤ 57 := by decide +kernel
  have := key ⟨c.toNat, UInt8.toNat_lt c⟩
  rw [show UInt8.ofNat c.toNat = c by simp] at this
  exact this h
theorem digAscii : ∀ (j : Nat) b, digB.data.toList[j]? = some b → b.toNat < 128 := ascii_of_all (by decide)
theorem h116c : (Tryz.prog.info? (Tryz.lays160_ren.t 116)).map (fun i => (i.zero, i.size)) = some (some (.agg (Array.replicate 256 (.bool false))), 256) := by kernel_rfl
theorem ba_eq {t : ByteArray} {c : List UInt8} (h : t.data.toList = c) : t = ⟨c.toArray⟩ := by
  apply ByteArray.ext
  apply Array.toList_inj.1
  simpa using h
/-- number tells this of a text -/
def NumSaid (s : ByteArray) (x : Int × Bool) : Prop := s.size ≤ 1100000 → ∀ w, Calls Tryz.prog 143 #[.string s] w fun e w' => e = .returned (.tuple #[.int .i64 x.1, .bool x.2]) ∧ Below w.heap.size w w'
set_option maxHeartbeats 1600000 in
set_option maxRecDepth 100000 in
theorem num_ex (s : ByteArray) : ∃ x, NumSaid s x := by
  obtain ⟨d, hd⟩ : ∃ d : ByteArray, d = ⟨(Lib.trimPrefix s.data.toList [45]).toArray⟩ := ⟨_, rfl⟩
  have hdl : Lib.trimPrefix s.data.toList [45] = d.data.toList := by rw [hd]
  have hP : ∀ w, Calls Tryz.prog 179 #[.string s, .string ⟨#[45]⟩] w fun e w' => e = .returned (.string d) ∧ w' = w := fun w => by rw [hd]; exact Tryz.strings_TrimPrefix s ⟨#[45]⟩ w
  clear hd
  by_cases c1 : d.data.toList = []
  · have e0 := isE c1
    refine ⟨(0, false), fun hs w => ?_⟩
    have hP1 := hP w
    clear hP
    go_enter Tryz.func143, Tryz.ntmps143
    go_wp2_with fail
    go_at_call 179
    refine hP1.mono ?_
    rintro e w1 ⟨rfl, hw⟩
    subst hw
    go_wp2
    go_ret2
    exact ⟨rfl, Below.refl _ _⟩
  have e0 := isE' c1
  by_cases c2 : 18 < d.size
  · refine ⟨(0, false), fun hs w => ?_⟩
    have hP1 := hP w
    clear hP
    go_enter Tryz.func143, Tryz.ntmps143
    go_wp2_with fail
    go_at_call 179
    refine hP1.mono ?_
    rintro e w1 ⟨rfl, hw⟩
    subst hw
    go_wp2
    go_ret2
    exact ⟨rfl, Below.refl _ _⟩
  have hl : d.data.toList.length = d.size := rfl
  obtain ⟨t, ht⟩ : ∃ t : ByteArray, t = ⟨(Lib.trimS d.data.toList digB.data.toList).toArray⟩ := ⟨_, rfl⟩
  have htl : Lib.trimS d.data.toList digB.data.toList = t.data.toList := by rw [ht]
  have hT : ∀ w, Calls Tryz.prog 180 #[.string d, .string digB] w fun e w' => e = .returned (.string t) ∧ Below w.heap.size w w' := fun w => by rw [ht]; exact Any.strings_Trim_laid Tryz.lays160 h116c d digB w (by omega) (by decide) digAscii
  clear ht
  by_cases c3 : t.data.toList = []
  · have e3 := isE c3
    obtain ⟨v, hv⟩ := atoi_digits hdl c1 (by omega) (fun c hc => dig_of (trimS_nil (by rw [htl]; exact c3) c hc))
    refine ⟨(v, true), fun hs w => ?_⟩
    have hP1 := hP w
    have hT1 := hT w
    have hA : Hid (∀ w, Calls Tryz.prog 181 #[.string s] w fun e w' => e = .returned (.tuple #[.int .i64 v, .nilIface]) ∧ Below w.heap.size w w') := fun w => (Tryz.strconv_Atoi_ok s (by omega) v hv w).mono fun e w' h => ⟨h.1, by
      rcases h.2 with h | ⟨t, h⟩
      · rw [h]; exact Below.refl _ _
      · rw [h]; exact bytes_below w t⟩
    clear hP hT htl hdl
    go_enter Tryz.func143, Tryz.ntmps143
    go_wp2_with fail
    go_at_call 179
    refine hP1.mono ?_
    rintro e w1 ⟨rfl, hw⟩
    subst hw
    go_wp2_with fail
    go_at_call 180
    refine hT1.mono ?_
    rintro e w2 ⟨rfl, hb2⟩
    have hA1 := hA.out w2
    go_wp2_with fail
    go_at_call 181
    refine hA1.mono ?_
    rintro e w3 ⟨rfl, hb3⟩
    go_wp2
    go_ret2
    exact ⟨rfl, hb2.trans (hb3.mono hb2.size)⟩
  · have e3 := isE' c3
    refine ⟨(0, false), fun hs w => ?_⟩
    have hP1 := hP w
    have hT1 := hT w
    clear hP hT htl hdl
    go_enter Tryz.func143, Tryz.ntmps143
    go_wp2_with fail
    go_at_call 179
    refine hP1.mono ?_
    rintro e w1 ⟨rfl, hw⟩
    subst hw
    go_wp2_with fail
    go_at_call 180
    refine hT1.mono ?_
    rintro e w2 ⟨rfl, hb2⟩
    go_wp2
    go_ret2
    exact ⟨rfl, hb2⟩
noncomputable def numF (s : ByteArray) : Int × Bool := Classical.choose (num_ex s)
theorem num_any (s : ByteArray) (hs : s.size ≤ 1100000) (w : World) : Calls Tryz.prog 143 #[.string s] w fun e w' => e = .returned (.tuple #[.int .i64 (numF s).1, .bool (numF s).2]) ∧ Below w.heap.size w w' := Classical.choose_spec (num_ex s) hs w
def cmpF (op : ByteArray) (a b : Int) : Bool × Bool :=
  if op.data.toList = [45, 101, 113] then (a == b, true) else if op.data.toList = [45, 110, 101] then (a != b, true) else if op.data.toList = [45, 108, 116] then (decide (a < b), true)
  else if op.data.toList = [45, 108, 101] then (decide (a ≤ b), true) else if op.data.toList = [45, 103, 116] then (decide (b < a), true) else if op.data.toList = [45, 103, 101] then (decide (b ≤ a), true) else (false, false)
theorem cmp_any (op : ByteArray) (a b : Int) (w : World) : Calls Tryz.prog 144 #[.string op, .int .i64 a, .int .i64 b] w fun e w' => e = .returned (.tuple #[.bool (cmpF op a b).1, .bool (cmpF op a b).2]) ∧ w' = w := by
  have hR0 : cmpF op a b = if op.data.toList = [45, 101, 113] then (a == b, true) else if op.data.toList = [45, 110, 101] then (a != b, true) else if op.data.toList = [45, 108, 116] then (decide (a < b), true)
    else if op.data.toList = [45, 108, 101] then (decide (a ≤ b), true) else if op.data.toList = [45, 103, 116] then (decide (b < a), true) else if op.data.toList = [45, 103, 101] then (decide (b ≤ a), true) else (false, false) := rfl
  obtain ⟨r, hr⟩ : ∃ r, r = cmpF op a b := ⟨_, rfl⟩
  rw [← hr] at hR0 ⊢
  clear hr
  by_cases c0 : op.data.toList = [45, 101, 113]
  · have e0 := eqB c0
    rw [if_pos c0] at hR0
    subst hR0
    go_enter Tryz.func144, Tryz.ntmps144
    go_wp2
    go_ret2
    exact ⟨rfl, rfl⟩
  have e0 := neB c0
  by_cases c1 : op.data.toList = [45, 110, 101]
  · have e1 := eqB c1
    rw [if_neg c0, if_pos c1] at hR0
    subst hR0
    go_enter Tryz.func144, Tryz.ntmps144
    go_wp2
    go_ret2
    exact ⟨rfl, rfl⟩
  have e1 := neB c1
  by_cases c2 : op.data.toList = [45, 108, 116]
  · have e2 := eqB c2
    rw [if_neg c0, if_neg c1, if_pos c2] at hR0
    subst hR0
    go_enter Tryz.func144, Tryz.ntmps144
    go_wp2
    go_ret2
    exact ⟨rfl, rfl⟩
  have e2 := neB c2
  by_cases c3 : op.data.toList = [45, 108, 101]
  · have e3 := eqB c3
    rw [if_neg c0, if_neg c1, if_neg c2, if_pos c3] at hR0
    subst hR0
    go_enter Tryz.func144, Tryz.ntmps144
    go_wp2
    go_ret2
    exact ⟨rfl, rfl⟩
  have e3 := neB c3
  by_cases c4 : op.data.toList = [45, 103, 116]
  · have e4 := eqB c4
    rw [if_neg c0, if_neg c1, if_neg c2, if_neg c3, if_pos c4] at hR0
    subst hR0
    go_enter Tryz.func144, Tryz.ntmps144
    go_wp2
    go_ret2
    exact ⟨rfl, rfl⟩
  have e4 := neB c4
  by_cases c5 : op.data.toList = [45, 103, 101]
  · have e5 := eqB c5
    rw [if_neg c0, if_neg c1, if_neg c2, if_neg c3, if_neg c4, if_pos c5] at hR0
    subst hR0
    go_enter Tryz.func144, Tryz.ntmps144
    go_wp2
    go_ret2
    exact ⟨rfl, rfl⟩
  have e5 := neB c5
  rw [if_neg c0, if_neg c1, if_neg c2, if_neg c3, if_neg c4, if_neg c5] at hR0
  subst hR0
  go_enter Tryz.func144, Tryz.ntmps144
  go_wp2
  go_ret2
  exact ⟨rfl, rfl⟩
/-! places -/
set_option maxRecDepth 100000 in
theorem pabs_any (fb fo : Nat) (s : ByteArray) (w : World) (hm : MaxIs w) (hs : s.size ≤ 1100000) :
    Calls Tryz.prog 141 #[.agg #[.pointer (some ⟨fb, fo, none⟩), .string slB], .string s] w fun e w' => e = .returned (.string (absF s).1) ∧ Below w.heap.size w w' := by
  have hA : Hid (∀ w', Below w.heap.size w w' → Calls Tryz.prog 16 #[.string slB, .string s] w' fun e w'' => e = .returned (.tuple #[.string (absF s).1, .int .i64 (absF s).2]) ∧ Below w'.heap.size w' w'') := fun w' hb => abs_any s w' (hm.below hm.lt hb) hs
  generalize absF s = z at hA ⊢
  obtain ⟨q, e0⟩ := z
  go_enter Tryz.func141, Tryz.ntmps141
  go_wp2_with fail
  go_at_call 16
  have hb0 := (Below.refl w.heap.size w).alloc (Nat.le_refl _) (.cells #[.pointer (some ⟨fb, fo, none⟩), .string slB] 106)
  refine (hA.out _ hb0).mono ?_
  rintro e w1 ⟨rfl, hb1⟩
  go_wp2
  go_ret
  exact ⟨rfl, hb0.trans (hb1.mono hb0.size)⟩
def pkF (T : TT) (s : ByteArray) : Int := if (absF s).1.data.toList = [] then 0 else KindF T (absF s).1
def ptF (T : TT) (s : ByteArray) : Int := if (absF s).1.data.toList = [] then 0 else TimeF T (absF s).1
set_option maxRecDepth 100000 in
theorem pk_any {T : TT} {fb fo : Nat} {w : World} (h : Env w fb fo T) (s : ByteArray) (hs : s.size ≤ 1100000) :
    Calls Tryz.prog 140 #[.agg #[.pointer (some ⟨fb, fo, none⟩), .string slB], .string s] w fun e w' => e = .returned (.int .i64 (pkF T s)) ∧ Below w.heap.size w w' := by
  have hA : Hid (∀ w', Below w.heap.size w w' → Calls Tryz.prog 141 #[.agg #[.pointer (some ⟨fb, fo, none⟩), .string slB], .string s] w' fun e w'' => e = .returned (.string (absF s).1) ∧ Below w'.heap.size w' w'') := fun w' hb => pabs_any fb fo s w' (h.below hb).mx hs
  have hK : Hid (∀ w', Below w.heap.size w w' → Calls Tryz.prog 79 #[.pointer (some ⟨fb, fo, none⟩), .string (absF s).1] w' fun e w'' => e = .returned (.int .i64 (KindF T (absF s).1)) ∧ Below w'.heap.size w' w'') := fun w' hb => Kind_any (h.below hb) _ (by have := absF_size s; omega)
  have hR0 : pkF T s = if (absF s).1.data.toList = [] then 0 else KindF T (absF s).1 := rfl
  obtain ⟨r, hr⟩ : ∃ r, r = pkF T s := ⟨_, rfl⟩
  rw [← hr] at hR0 ⊢
  clear hr
  generalize (absF s).1 = q at hA hK hR0
  have hb0 := (Below.refl w.heap.size w).alloc (Nat.le_refl _) (.cells #[.pointer (some ⟨fb, fo, none⟩), .string slB] 106)
  by_cases c1 : q.data.toList = []
  · have e1 := isE c1
    rw [if_pos c1] at hR0
    subst hR0
    clear h hK
    go_enter Tryz.func140, Tryz.ntmps140
    go_wp2_with fail
    go_at_call 141
    refine (hA.out _ hb0).mono ?_
    rintro e w1 ⟨rfl, hb1⟩
    go_wp2
    go_ret
    exact ⟨rfl, hb0.trans (hb1.mono hb0.size)⟩
  · have e1 := isE' c1
    rw [if_neg c1] at hR0
    rw [← hR0] at hK
    clear h hR0
    go_enter Tryz.func140, Tryz.ntmps140
    go_wp2_with fail
    go_at_call 141
    refine (hA.out _ hb0).mono ?_
    rintro e w1 ⟨rfl, hb1⟩
    have hb01 := hb0.trans (hb1.mono hb0.size)
    have hp0 : w1.cell? ⟨w.heap.size, 0, none⟩ = some (.pointer (some ⟨fb, fo, none⟩)) := by
      rw [hb1.cell (by simp)]
      exact World.cell?_alloc_at _ _ _ _ rfl
    have hK1 := hK.out w1 hb01
    clear hA hK
    go_wp2_with fail
    go_at_call 79
    refine hK1.mono ?_
    rintro e w2 ⟨rfl, hb2⟩
    go_wp2
    go_ret
    exact ⟨rfl, hb01.trans (hb2.mono hb01.size)⟩
set_option maxRecDepth 100000 in
theorem pt_any {T : TT} {fb fo : Nat} {w : World} (h : Env w fb fo T) (s : ByteArray) (hs : s.size ≤ 1100000) :
    Calls Tryz.prog 142 #[.agg #[.pointer (some ⟨fb, fo, none⟩), .string slB], .string s] w fun e w' => e = .returned (.int .i64 (ptF T s)) ∧ Below w.heap.size w w' := by
  have hA : Hid (∀ w', Below w.heap.size w w' → Calls Tryz.prog 141 #[.agg #[.pointer (some ⟨fb, fo, none⟩), .string slB], .string s] w' fun e w'' => e = .returned (.string (absF s).1) ∧ Below w'.heap.size w' w'') := fun w' hb => pabs_any fb fo s w' (h.below hb).mx hs
  have hK : Hid (∀ w', Below w.heap.size w w' → Calls Tryz.prog 178 #[.pointer (some ⟨fb, fo, none⟩), .string (absF s).1] w' fun e w'' => e = .returned (.int .i64 (TimeF T (absF s).1)) ∧ Below w'.heap.size w' w'') := fun w' hb => Time_any (h.below hb) _ (by have := absF_size s; omega)
  have hR0 : ptF T s = if (absF s).1.data.toList = [] then 0 else TimeF T (absF s).1 := rfl
  obtain ⟨r, hr⟩ : ∃ r, r = ptF T s := ⟨_, rfl⟩
  rw [← hr] at hR0 ⊢
  clear hr
  generalize (absF s).1 = q at hA hK hR0
  have hb0 := (Below.refl w.heap.size w).alloc (Nat.le_refl _) (.cells #[.pointer (some ⟨fb, fo, none⟩), .string slB] 106)
  by_cases c1 : q.data.toList = []
  · have e1 := isE c1
    rw [if_pos c1] at hR0
    subst hR0
    clear h hK
    go_enter Tryz.func142, Tryz.ntmps142
    go_wp2_with fail
    go_at_call 141
    refine (hA.out _ hb0).mono ?_
    rintro e w1 ⟨rfl, hb1⟩
    go_wp2
    go_ret
    exact ⟨rfl, hb0.trans (hb1.mono hb0.size)⟩
  · have e1 := isE' c1
    rw [if_neg c1] at hR0
    rw [← hR0] at hK
    clear h hR0
    go_enter Tryz.func142, Tryz.ntmps142
    go_wp2_with fail
    go_at_call 141
    refine (hA.out _ hb0).mono ?_
    rintro e w1 ⟨rfl, hb1⟩
    have hb01 := hb0.trans (hb1.mono hb0.size)
    have hp0 : w1.cell? ⟨w.heap.size, 0, none⟩ = some (.pointer (some ⟨fb, fo, none⟩)) := by
      rw [hb1.cell (by simp)]
      exact World.cell?_alloc_at _ _ _ _ rfl
    have hK1 := hK.out w1 hb01
    clear hA hK
    go_wp2_with fail
    go_at_call 178
    refine hK1.mono ?_
    rintro e w2 ⟨rfl, hb2⟩
    go_wp2
    go_ret
    exact ⟨rfl, hb01.trans (hb2.mono hb01.size)⟩
/-! one -/
def oneF (T : TT) (op s : ByteArray) : Bool × Int :=
  if op.data.toList = [45, 110] then (!s.toList.isEmpty, 0) else if op.data.toList = [45, 122] then (s.toList.isEmpty, 0) else if op.data.toList = [45, 101] then (pkF T s != 0, 0)
  else if op.data.toList = [45, 102] then (pkF T s == 1, 0) else if op.data.toList = [45, 100] then (pkF T s == 2, 0)
  else if op.data.toList = [45, 115] then (if pkF T s = 1 then decide (0 < readN T (absF s).1) else false, 0) else (false, 2)
set_option maxHeartbeats 3200000 in
set_option maxRecDepth 100000 in
theorem one_any {T : TT} {fb fo : Nat} {w : World} (h : EnvD w fb fo T) (op s : ByteArray) (hs : s.size ≤ 1100000) :
    Calls Tryz.prog 111 #[.agg #[.pointer (some ⟨fb, fo, none⟩), .string slB], .string op, .string s] w fun e w' => e = .returned (.tuple #[.bool (oneF T op s).1, .int .i64 (oneF T op s).2]) ∧ Below w.heap.size w w' := by
  have hR0 : oneF T op s = if op.data.toList = [45, 110] then (!s.toList.isEmpty, 0) else if op.data.toList = [45, 122] then (s.toList.isEmpty, 0) else if op.data.toList = [45, 101] then (pkF T s != 0, 0)
    else if op.data.toList = [45, 102] then (pkF T s == 1, 0) else if op.data.toList = [45, 100] then (pkF T s == 2, 0)
    else if op.data.toList = [45, 115] then (if pkF T s = 1 then decide (0 < readN T (absF s).1) else false, 0) else (false, 2) := rfl
  obtain ⟨r, hr⟩ : ∃ r, r = oneF T op s := ⟨_, rfl⟩
  rw [← hr] at hR0 ⊢
  clear hr
  have hb0 := (Below.refl w.heap.size w).alloc (Nat.le_refl _) (.cells #[.pointer (some ⟨fb, fo, none⟩), .string slB] 106)
  have hK : Hid (∀ w', Below w.heap.size w w' → Calls Tryz.prog 140 #[.agg #[.pointer (some ⟨fb, fo, none⟩), .string slB], .string s] w' fun e w'' => e = .returned (.int .i64 (pkF T s)) ∧ Below w'.heap.size w' w'') := fun w' hb => pk_any (h.below hb).env s hs
  have hA : Hid (∀ w', Below w.heap.size w w' → Calls Tryz.prog 141 #[.agg #[.pointer (some ⟨fb, fo, none⟩), .string slB], .string s] w' fun e w'' => e = .returned (.string (absF s).1) ∧ Below w'.heap.size w' w'') := fun w' hb => pabs_any fb fo s w' (h.below hb).env.mx hs
  have hD : Hid (∀ w', Below w.heap.size w w' → Calls Tryz.prog 45 #[.pointer (some ⟨fb, fo, none⟩), .string (absF s).1] w' fun e w'' => (∃ o c e0, e = .returned (.tuple #[.slice o (readN T (absF s).1) c, .int .i64 e0])) ∧ Below w'.heap.size w' w'') := fun w' hb => Read_any (h.below hb) _ (by have := absF_size s; omega)
  generalize readN T (absF s).1 = rn at hR0 hD
  generalize (absF s).1 = q at hA hD
  generalize pkF T s = k at hR0 hK
  clear h
  by_cases c0 : op.data.toList = [45, 110]
  · have e0 := eqB c0
    rw [if_pos c0] at hR0
    subst hR0
    clear hK hA hD
    by_cases z : s.data.toList = []
    · have ez := isE z
      rw [ez]
      go_enter Tryz.func111, Tryz.ntmps111
      go_wp2
      go_ret2
      exact ⟨rfl, hb0⟩
    · have ez := isE' z
      rw [ez]
      go_enter Tryz.func111, Tryz.ntmps111
      go_wp2
      go_ret2
      exact ⟨rfl, hb0⟩
  have e0 := neB c0
  by_cases c1 : op.data.toList = [45, 122]
  · have e1 := eqB c1
    rw [if_neg c0, if_pos c1] at hR0
    subst hR0
    clear hK hA hD
    by_cases z : s.data.toList = []
    · have ez := isE z
      rw [ez]
      go_enter Tryz.func111, Tryz.ntmps111
      go_wp2
      go_ret2
      exact ⟨rfl, hb0⟩
    · have ez := isE' z
      rw [ez]
      go_enter Tryz.func111, Tryz.ntmps111
      go_wp2
      go_ret2
      exact ⟨rfl, hb0⟩
  have e1 := neB c1
  by_cases c2 : op.data.toList = [45, 101]
  · have e2 := eqB c2
    rw [if_neg c0, if_neg c1, if_pos c2] at hR0
    subst hR0
    clear hA hD
    go_enter Tryz.func111, Tryz.ntmps111
    go_wp2_with fail
    go_at_call 140
    refine (hK.out _ hb0).mono ?_
    rintro e w1 ⟨rfl, hb1⟩
    go_wp2
    go_ret2
    exact ⟨rfl, hb0.trans (hb1.mono hb0.size)⟩
  have e2 := neB c2
  by_cases c3 : op.data.toList = [45, 102]
  · have e3 := eqB c3
    rw [if_neg c0, if_neg c1, if_neg c2, if_pos c3] at hR0
    subst hR0
    clear hA hD
    go_enter Tryz.func111, Tryz.ntmps111
    go_wp2_with fail
    go_at_call 140
    refine (hK.out _ hb0).mono ?_
    rintro e w1 ⟨rfl, hb1⟩
    go_wp2
    go_ret2
    exact ⟨rfl, hb0.trans (hb1.mono hb0.size)⟩
  have e3 := neB c3
  by_cases c4 : op.data.toList = [45, 100]
  · have e4 := eqB c4
    rw [if_neg c0, if_neg c1, if_neg c2, if_neg c3, if_pos c4] at hR0
    subst hR0
    clear hA hD
    go_enter Tryz.func111, Tryz.ntmps111
    go_wp2_with fail
    go_at_call 140
    refine (hK.out _ hb0).mono ?_
    rintro e w1 ⟨rfl, hb1⟩
    go_wp2
    go_ret2
    exact ⟨rfl, hb0.trans (hb1.mono hb0.size)⟩
  have e4 := neB c4
  by_cases c5 : op.data.toList = [45, 115]
  · have e5 := eqB c5
    rw [if_neg c0, if_neg c1, if_neg c2, if_neg c3, if_neg c4, if_pos c5] at hR0
    by_cases k1 : k = 1
    · rw [if_pos k1] at hR0
      subst k1
      subst hR0
      go_enter Tryz.func111, Tryz.ntmps111
      go_wp2_with fail
      go_at_call 140
      refine (hK.out _ hb0).mono ?_
      rintro e w1 ⟨rfl, hb1⟩
      have hb01 := hb0.trans (hb1.mono hb0.size)
      have hp0 : w1.cell? ⟨w.heap.size, 0, none⟩ = some (.pointer (some ⟨fb, fo, none⟩)) := by
        rw [hb1.cell (by simp)]
        exact World.cell?_alloc_at _ _ _ _ rfl
      have hp1 : w1.cell? ⟨w.heap.size, 1, none⟩ = some (.string slB) := by
        rw [hb1.cell (by simp)]
        exact World.cell?_alloc_at _ _ _ _ rfl
      have hA1 := hA.out w1 hb01
      have HA : Hid (∀ w', Below w1.heap.size w1 w' → Calls Tryz.prog 141 #[.agg #[.pointer (some ⟨fb, fo, none⟩), .string slB], .string s] w' fun e w'' => e = .returned (.string q) ∧ Below w'.heap.size w' w'') := fun w' hb => hA.out w' (hb01.trans (hb.mono hb01.size))
      have HD : Hid (∀ w', Below w1.heap.size w1 w' → Calls Tryz.prog 45 #[.pointer (some ⟨fb, fo, none⟩), .string q] w' fun e w'' => (∃ o c e0, e = .returned (.tuple #[.slice o rn c, .int .i64 e0])) ∧ Below w'.heap.size w' w'') := fun w' hb => hD.out w' (hb01.trans (hb.mono hb01.size))
      have hlt : w.heap.size < w1.heap.size := by have := hb1.size; simp at this; omega
      clear hK hA hD hA1
      go_wp2_with fail
      go_region_with (first
        | (go_at_call 141; refine (HA.out _ ?_).mono ?_; (first | exact Below.refl _ _ | exact Below.drew (Below.refl _ _)); rintro e w2 ⟨rfl, hb2⟩; have g0 : w2.cell? ⟨w.heap.size, 0, none⟩ = some (.pointer (some ⟨fb, fo, none⟩)) := (hb2.cell (by exact hlt)).trans hp0)
        | (go_at_call 45; refine (HD.out _ ?_).mono ?_; (first | exact hb2 | exact (Below.drew (Below.refl _ _)).trans hb2); rintro e w3 ⟨⟨o, c, e9, rfl⟩, hb3⟩))
      all_goals
        go_wp2
        go_ret2
        exact ⟨rfl, hb01.trans (((Below.drew (Below.refl _ _)).trans (hb2.trans (hb3.mono hb2.size))).mono hb01.size)⟩
    · rw [if_neg k1] at hR0
      have k1' : (k == 1) = false := beq_eq_false_iff_ne.2 k1
      subst hR0
      clear hA hD
      go_enter Tryz.func111, Tryz.ntmps111
      go_wp2_with fail
      go_at_call 140
      refine (hK.out _ hb0).mono ?_
      rintro e w1 ⟨rfl, hb1⟩
      go_wp2
      go_ret2
      exact ⟨rfl, hb0.trans (hb1.mono hb0.size)⟩
  have e5 := neB c5
  rw [if_neg c0, if_neg c1, if_neg c2, if_neg c3, if_neg c4, if_neg c5] at hR0
  subst hR0
  clear hK hA hD
  go_enter Tryz.func111, Tryz.ntmps111
  go_wp2
  go_ret2
  exact ⟨rfl, hb0⟩
end Go.Proofs.YtnafpdchpddloaaGreatDoor
