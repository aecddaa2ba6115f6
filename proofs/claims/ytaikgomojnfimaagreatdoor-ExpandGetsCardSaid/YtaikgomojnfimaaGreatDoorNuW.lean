/-
  What the library tells, by the shelf.
-/
import Derived.Test.YtaikgomojnfimaaGreatDoorRgX
import Derived.Shelf.Strings.SlTrimAscii
import Derived.Shelf.Strconv.AtoiAll
import Derived.Lib.AtoiErrMem
import Derived.Lib.AtoiAllCases
import Derived.Lib.LaidTab
import Derived.BigQuiet
import Derived.Deep.QuietTactic
import Derived.Deep.RegionLaw
import Derived.Deep.RegionWith
import Derived.Deep.RegionHeld3
import Derived.RegionTactic
import Derived.WalkKit
import Derived.WalkSpells
import Derived.StillTactics
import Derived.LoopIn
import Derived.RowKit3
import Derived.Below
import Derived.OwnWalk
import Derived.KernelRfl
open Go Go.Mx Go.RowKit
namespace Go.Proofs.YtaikgomojnfimaaGreatDoor
set_option maxRecDepth 100000
noncomputable section
/-! what the library tells -/
def cutC : ByteArray := ⟨#[48, 49, 50, 51, 52, 53, 54, 55, 56, 57]⟩
theorem cut_iff (c : UInt8) : cutC.data.toList.contains c = digF c.toNat := by
  have key : ∀ k : Fin 256, cutC.data.toList.contains (UInt8.ofNat k.val) = digF k.val := by decide +kernel
  have := key ⟨c.toNat, UInt8.toNat_lt c⟩
  rwa [show UInt8.ofNat c.toNat = c by simp] at this
theorem dropN_nil {α : Type} {p : α → Bool} : ∀ {l : List α}, l.dropWhile p = [] → ∀ x ∈ l, p x = true
  | [], _, x, h => by cases h
  | y :: l, h, x, hx => by
    rw [List.dropWhile_cons] at h
    split at h
    · rcases List.mem_cons.1 hx with rfl | hx
      · assumption
      · exact dropN_nil h x hx
    · cases h
theorem dropN_head {α : Type} {p : α → Bool} : ∀ {l : List α} {x : α} {r : List α}, l.dropWhile p = x :: r → p x = false
  | [], _, _, h => by cases h
  | y :: l, x, r, h => by
    rw [List.dropWhile_cons] at h
    split at h
    · exact dropN_head h
    · cases h
      rename_i hp
      simpa using hp
theorem dropN_all {α : Type} {p : α → Bool} : ∀ {l : List α}, (∀ x ∈ l, p x = true) → l.dropWhile p = []
  | [], _ => rfl
  | y :: l, h => by rw [List.dropWhile_cons, if_pos (h y (List.mem_cons_self ..))]; exact dropN_all fun x hx => h x (List.mem_cons_of_mem _ hx)
theorem trimN_nil {d cs : List UInt8} (h : Lib.trimS d cs = []) : ∀ x ∈ d, cs.contains x = true := by
  unfold Lib.trimS Lib.trimRightS Lib.trimLeftS at h
  have h2 := dropN_nil h
  cases e : d.reverse.dropWhile (cs.contains ·) with
  | nil => exact fun x hx => dropN_nil e x (List.mem_reverse.2 hx)
  | cons x r =>
    rw [e] at h2
    have h3 := dropN_head e
    rw [h2 x (by simp)] at h3
    cases h3
theorem trimN_all {d cs : List UInt8} (h : ∀ x ∈ d, cs.contains x = true) : Lib.trimS d cs = [] := by
  unfold Lib.trimS Lib.trimRightS Lib.trimLeftS
  rw [dropN_all (l := d.reverse) (fun x hx => h x (List.mem_reverse.1 hx))]
  rfl
theorem trim_dig (s : ByteArray) : (Lib.trimS s.data.toList cutC.data.toList = []) ↔ digAll s = true := by
  unfold digAll
  rw [List.all_eq_true]
  constructor
  · intro h c hc
    rw [← cut_iff]
    exact trimN_nil h c hc
  · intro h
    exact trimN_all fun c hc => by rw [cut_iff]; exact h c hc
theorem cutAscii : ∀ (j : Nat) b, cutC.data.toList[j]? = some b → b.toNat < 128 := fun j b h => by
  have hm := List.mem_of_getElem? h
  have key : ∀ b ∈ cutC.data.toList, b.toNat < 128 := by decide
  exact key b hm
theorem h116n : (Tryz.prog.info? (Tryz.lays160_ren.t 116)).map (fun i => (i.zero, i.size)) = some (some (.agg (Array.replicate 256 (.bool false))), 256) := by kernel_rfl
set_option maxHeartbeats 1600000 in
set_option maxRecDepth 100000 in
theorem numb_any (s : ByteArray) (hs : s.size ≤ 1100000) (w : World) : Calls Tryz.prog 19 #[.string s] w fun e w' => e = .returned (.bool (digB s)) ∧ Below w.heap.size w w' := by
  by_cases h0 : s.data.toList = []
  · have hb : digB s = false := by unfold digB; simp [h0]
    have e0 := eqB h0
    rw [hb]
    clear hb h0
    go_enter Tryz.func19, Tryz.ntmps19
    go_wp2
    go_ret
    exact ⟨rfl, Below.refl _ _⟩
  · have e0 := neB h0
    obtain ⟨t, ht⟩ : ∃ t : ByteArray, t = ⟨(Lib.trimS s.data.toList cutC.data.toList).toArray⟩ := ⟨_, rfl⟩
    have htl : Lib.trimS s.data.toList cutC.data.toList = t.data.toList := by rw [ht]
    have hT : Calls Tryz.prog 40 #[.string s, .string ⟨#[48, 49, 50, 51, 52, 53, 54, 55, 56, 57]⟩] w fun e w' => e = .returned (.string t) ∧ Below w.heap.size w w' := by rw [ht]; exact Any.strings_Trim_laid Tryz.lays160 h116n s cutC w (by omega) (by decide) cutAscii
    have hd := trim_dig s
    rw [htl] at hd
    have hB : digB s = digAll s := by
      unfold digB
      cases hh : s.data.toList with
      | nil => exact absurd hh h0
      | cons _ _ => rfl
    rw [hB]
    clear ht htl h0
    by_cases h1 : t.data.toList = []
    · rw [hd.1 h1]
      have e1 := eqB h1
      clear hd hB h1
      go_enter Tryz.func19, Tryz.ntmps19
      go_wp2_with fail
      go_at_call 40
      refine hT.mono ?_
      rintro e w1 ⟨rfl, hb1⟩
      go_wp2
      go_ret
      exact ⟨rfl, hb1⟩
    · have hf : digAll s = false := by
        cases hh : digAll s with
        | false => rfl
        | true => exact absurd (hd.2 hh) h1
      rw [hf]
      have e1 := neB h1
      clear hd hB h1 hf
      go_enter Tryz.func19, Tryz.ntmps19
      go_wp2_with fail
      go_at_call 40
      refine hT.mono ?_
      rintro e w1 ⟨rfl, hb1⟩
      go_wp2
      go_ret
      exact ⟨rfl, hb1⟩
theorem parse_num : ∀ (l : List UInt8) (k acc : Nat), acc < 10 ^ k → k + l.length ≤ 18 → (∀ c ∈ l, digF c.toNat = true) → Lib.parseUint10 acc l = .ok (l.foldl (fun n c => n * 10 + (c.toNat - 48)) acc) ∧ l.foldl (fun n c => n * 10 + (c.toNat - 48)) acc < 10 ^ 18
  | [], k, acc, ha, hk, _ => ⟨rfl, Nat.lt_of_lt_of_le ha (Nat.pow_le_pow_right (by omega) (by simpa using hk))⟩
  | c :: r, k, acc, ha, hk, hd => by
    have hc := dig_range (hd c (List.mem_cons_self ..))
    simp only [List.length_cons] at hk
    have h1 : acc < 10 ^ 17 := Nat.lt_of_lt_of_le ha (Nat.pow_le_pow_right (by omega) (by omega))
    have h2 : acc * 10 + (c.toNat - 48) < 10 ^ (k + 1) := by rw [Nat.pow_succ]; omega
    obtain ⟨g1, g2⟩ := parse_num r (k + 1) _ h2 (by omega) (fun d hdm => hd d (List.mem_cons_of_mem _ hdm))
    refine ⟨?_, g2⟩
    rw [Lib.parseUint10, if_pos hc, if_neg (by omega), if_neg (by omega)]
    exact g1
theorem parse_dig : ∀ (l : List UInt8) (acc : Nat), (∀ c ∈ l, digF c.toNat = true) → (∃ u, Lib.parseUint10 acc l = .ok u) ∨ Lib.parseUint10 acc l = .range
  | [], acc, _ => .inl ⟨acc, rfl⟩
  | c :: r, acc, hd => by
    have hc := dig_range (hd c (List.mem_cons_self ..))
    rw [Lib.parseUint10, if_pos hc]
    split
    · exact .inr rfl
    · split
      · exact .inr rfl
      · exact parse_dig r _ fun d hdm => hd d (List.mem_cons_of_mem _ hdm)
theorem atoi_plain {s : ByteArray} (h : digB s = true) : Lib.atoiAll s.data.toList = Lib.signless (Lib.parseUint10 0 s.data.toList) ∧ ∀ c ∈ s.data.toList, digF c.toNat = true := by
  unfold digB digAll at h
  cases e : s.data.toList with
  | nil => rw [e] at h; cases h
  | cons c r =>
    rw [e] at h
    have hall : ∀ d ∈ c :: r, digF d.toNat = true := by
      have h2 : ((c :: r).all fun c => digF c.toNat) = true := by simpa using h
      exact List.all_eq_true.1 h2
    have hc := dig_range (hall c (List.mem_cons_self ..))
    refine ⟨?_, hall⟩
    rw [Lib.atoiAll_plain c r (by omega) (by omega)]
    unfold Lib.parseMag
    rw [if_neg (by simp)]
theorem atoi_ends {s : ByteArray} (h : digB s = true) : (∃ v, Lib.atoiAll s.data.toList = .ok v) ∨ Lib.atoiAll s.data.toList = .range := by
  obtain ⟨hA, hall⟩ := atoi_plain h
  rw [hA]
  rcases parse_dig _ 0 hall with ⟨u, e⟩ | e
  · rw [e]
    show (∃ v, (if 9223372036854775808 ≤ u then _ else _) = _) ∨ _
    by_cases h9 : 9223372036854775808 ≤ u
    · exact .inr (if_pos h9)
    · exact .inl ⟨_, if_neg h9⟩
  · rw [e]
    exact .inr rfl
/-- what is laid -/
structure LaidW (w : World) : Prop where
  tab : ∃ arr ty, w.heap[3]? = some (.cells arr ty (0, 0)) ∧ arr.toList = Lib.pow10Tab.map fun n => Value.int .u64 n
  rng : ∃ u v, w.cell? ⟨1, 0, none⟩ = some (.iface u v)
theorem LaidW.below {w w' : World} (h : LaidW w) (hb : Below w.heap.size w w') : LaidW w' := by
  obtain ⟨arr, ty, h1, h2⟩ := h.tab
  obtain ⟨u, v, h3⟩ := h.rng
  exact ⟨⟨arr, ty, by rw [hb.block _ (Array.getElem?_eq_some_iff.1 h1).1]; exact h1, h2⟩, u, v, (hb.cell (by exact Lib.lt_of_cell h3)).trans h3⟩
theorem gPowN : Tryz.prog.globalNamed "internal/strconv.uint64pow10" = some 3 := by kernel_rfl
theorem LaidW.tabIs {w : World} (h : LaidW w) : Lib.TabIs Tryz.prog w "internal/strconv.uint64pow10" .u64 Lib.pow10Tab := by
  obtain ⟨arr, ty, h1, h2⟩ := h.tab
  unfold Lib.TabIs World.var?
  rw [gPowN]
  show (match w.heap[3]? with | some (.cells cs _ _) => some cs | _ => none) = _
  rw [h1]
  show some arr = _
  congr 1
  apply Array.toList_inj.1
  rw [h2]
theorem grow_below (w : World) (k : Nat) (os : Array Obj) : Below w.heap.size w (Go.Sort.grow (w.drewN k) os) :=
  ⟨rfl, rfl, rfl, by show w.heap.size ≤ (w.heap ++ os).size; simp, fun b hb => by show (w.heap ++ os)[b]? = _; rw [Array.getElem?_append_left hb]⟩
theorem libSaid {w : World} (h : LaidW w) : LibSaid w := by
  refine ⟨fun w' hb n h1 h2 => ?_, fun w' hb s hd hs => ?_, fun w' _ s hs => numb_any s hs w'⟩
  · refine (Tryz.strconv_Itoa n h1 h2 w' (h.below hb).tabIs).mono fun e w2 hh => ⟨hh.1, ?_⟩
    obtain ⟨k, os, rfl⟩ := hh.2
    exact grow_below _ _ _
  · obtain ⟨hA, hall⟩ := atoi_plain hd
    have hnum : s.size ≤ 4 → Lib.atoiAll s.data.toList = .ok (numN s) := fun h4 => by
      obtain ⟨g1, g2⟩ := parse_num s.data.toList 0 0 (by decide) (by have : s.data.toList.length = s.size := rfl; omega) hall
      rw [hA, g1]
      unfold Lib.signless
      simp only
      rw [if_neg (by omega)]
      rfl
    rcases atoi_ends hd with ⟨v, e⟩ | e
    · refine (Tryz.strconv_Atoi_ok s (by omega) v e w').mono fun e' w2 hh => ⟨v, _, hh.1, fun h6 => ?_, ?_⟩
      · rw [hnum h6] at e
        injection e with e
        exact e.symm
      · rcases hh.2 with rfl | ⟨t, rfl⟩
        · exact Below.refl _ _
        · exact Lib.bytesWorld_below _ _ _
    · obtain ⟨u, v, h3⟩ := (h.below hb).rng
      refine (Any.strconv_Atoi_range Tryz.laysC172 s (by omega) e (.iface u v) w' h3 (.inr ⟨u, v, rfl⟩)).mono fun e' w2 hh => ?_
      obtain ⟨N, h4, _, _, h5⟩ := hh
      refine ⟨_, _, h4, fun h6 => ?_, h5⟩
      rw [hnum h6] at e
      cases e
end
end Go.Proofs.YtaikgomojnfimaaGreatDoor
