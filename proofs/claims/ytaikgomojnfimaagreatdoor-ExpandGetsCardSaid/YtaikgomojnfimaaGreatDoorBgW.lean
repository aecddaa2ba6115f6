/-
  big, walked.
-/
import Derived.Test.YtaikgomojnfimaaGreatDoorSeW
import Derived.BigQuiet
import Derived.Deep.QuietTactic
import Derived.Deep.RegionLaw
import Derived.Deep.RegionWith
import Derived.Deep.RegionHeld3
import Derived.RegionTactic
import Derived.WalkKit
import Derived.WalkSpells
import Derived.StillTactics
import Derived.LoopIn
import Derived.RowKit3
import Derived.Below
import Derived.OwnWalk
import Derived.KernelRfl
open Go Go.Mx Go.RowKit
namespace Go.Proofs.YtaikgomojnfimaaGreatDoor
set_option maxRecDepth 100000
noncomputable section
/-! big: are there too many? -/
/-- texts in a row -/
def TextsAt (w : World) (o : Option Addr) (l : List ByteArray) : Prop := l = [] ∨ ∃ g off, o = some ⟨g, off, none⟩ ∧ g < w.heap.size ∧ ∀ i (h : i < l.length), w.cell? ⟨g, off + i, none⟩ = some (.string l[i])
theorem TextsAt.below {w w' : World} {o : Option Addr} {l : List ByteArray} (h : TextsAt w o l) (hb : Below w.heap.size w w') : TextsAt w' o l := by
  rcases h with h | ⟨g, off, h1, h2, h3⟩
  · exact .inl h
  · exact .inr ⟨g, off, h1, Nat.lt_of_lt_of_le h2 hb.size, fun i hi => (hb.cell (by exact h2)).trans (h3 i hi)⟩
/-- not too many: what big lets through -/
structure SmallB (Ll : ML) (al : List ByteArray) : Prop where
  n : Ll.length ≤ 40
  an : al.length ≤ 40
  l : ∀ x ∈ Ll, x.1.size ≤ 9000 ∧ x.2.size ≤ 9000
  a : ∀ x ∈ al, x.size ≤ 9000
/-- what big tells -/
def BigSaid (Ll : ML) (al : List ByteArray) (W : World) (e : Ending) (w' : World) : Prop := ∃ b, e = .returned (.bool b) ∧ (b = false → SmallB Ll al) ∧ Below W.heap.size W w'
theorem big_k {k n : Nat} (h : ¬ (k < n ∧ k < 50)) : ¬ (k : Int) < n ∨ ((k : Int) < n ∧ ¬ (k : Int) < 50) := by omega
/-- the texts of the first pairs are no longer than this -/
def LeL (Ll : ML) (k : Nat) (s : Int) : Prop := ∀ j (h : j < Ll.length), j < k → (Ll[j].1.size : Int) + Ll[j].2.size ≤ s
def LeA (al : List ByteArray) (k : Nat) (s : Int) : Prop := ∀ j (h : j < al.length), j < k → (al[j].size : Int) ≤ s
theorem LeL.next {Ll : ML} {k : Nat} {s : Int} (h : LeL Ll k s) (hk : k < Ll.length) (h0 : 0 ≤ s) : LeL Ll (k + 1) (s + (Ll[k].1.size : Int) + (Ll[k].2.size : Int)) := fun j hj hjk => by
  by_cases e : j = k
  · subst e; omega
  · have := h j hj (by omega); omega
theorem LeA.next {al : List ByteArray} {k : Nat} {s : Int} (h : LeA al k s) (hk : k < al.length) (h0 : 0 ≤ s) : LeA al (k + 1) (s + (al[k].size : Int)) := fun j hj hjk => by
  by_cases e : j = k
  · subst e; omega
  · have := h j hj (by omega); omega
theorem small_of {Ll : ML} {al : List ByteArray} {k k2 : Nat} {s s2 : Int} (h1 : LeL Ll k s) (h2 : LeA al k2 s2) (hs : s ≤ s2) (hn : Ll.length ≤ 40) (han : al.length ≤ 40) (hk : ¬ (k < Ll.length ∧ k < 50)) (hk2 : ¬ (k2 < al.length ∧ k2 < 50)) (h9 : ¬ (9000 : Int) < s2) : SmallB Ll al := by
  refine ⟨hn, han, fun x hx => ?_, fun x hx => ?_⟩
  · obtain ⟨j, hj, rfl⟩ := List.getElem_of_mem hx
    have := h1 j hj (by omega)
    omega
  · obtain ⟨j, hj, rfl⟩ := List.getElem_of_mem hx
    have := h2 j hj (by omega)
    omega
set_option maxHeartbeats 3200000 in
set_option maxRecDepth 100000 in
theorem big_any {W : World} (Ll : ML) (lo : Option Addr) (lc : Nat) (hP : PairsAt W lo Ll) (hz : ∀ x ∈ Ll, x.1.size ≤ 140737488355328 ∧ x.2.size ≤ 140737488355328) (al : List ByteArray) (ao : Option Addr) (ac : Nat) (hA : TextsAt W ao al) (ha : ∀ x ∈ al, x.size ≤ 140737488355328) :
    Calls Tryz.prog 5 #[.slice lo Ll.length lc, .slice ao al.length ac] W fun e w' => BigSaid Ll al W e w' := by
  have HP : Hid (∀ w, Below W.heap.size W w → PairsAt w lo Ll) := fun w hb => hP.below hb
  have HA : Hid (∀ w, Below W.heap.size W w → TextsAt w ao al) := fun w hb => hA.below hb
  have HZ : Hid ((∀ x ∈ Ll, x.1.size ≤ 140737488355328 ∧ x.2.size ≤ 140737488355328) ∧ ∀ x ∈ al, x.size ≤ 140737488355328) := ⟨hz, ha⟩
  obtain ⟨n, hn⟩ : ∃ n, n = Ll.length := ⟨_, rfl⟩
  obtain ⟨an, han⟩ : ∃ n, n = al.length := ⟨_, rfl⟩
  have HN : Hid (n = Ll.length ∧ an = al.length) := ⟨hn, han⟩
  rw [← hn, ← han]
  clear hn han hP hA hz ha
  go_enter Tryz.func5, Tryz.ntmps5
  go_wp2
  go_loopw [5, 6] (fun acc i wr => ∃ (k : Nat) (s : Int), k ≤ n ∧ k ≤ 50 ∧ i = .int .i64 k ∧ acc = .int .i64 s ∧ 0 ≤ s ∧ s ≤ 281474976710656 * k ∧ Below W.heap.size W wr ∧ LeL Ll k s) (fun _ i _ => n - (intOf i).toNat)
  case atStart => exact ⟨0, 0, Nat.zero_le _, Nat.zero_le _, rfl, rfl, Int.le_refl _, by omega, Below.refl _ _, fun _ _ h => absurd h (Nat.not_lt_zero _)⟩
  case round =>
    obtain ⟨k, s, hk, hk50, rfl, rfl, hs0, hs1, hb, hle⟩ := hrel
    by_cases hlt : k < n ∧ k < 50
    · obtain ⟨hlt, hl50⟩ := hlt
      have hkL : k < Ll.length := by rw [← HN.out.1]; exact hlt
      rcases HP.out wr hb with h0 | ⟨g, off, rfl, hg, hcells⟩
      · rw [h0] at hkL; exact absurd hkL (Nat.not_lt_zero _)
      obtain ⟨x1, x2⟩ := hcells k hkL
      obtain ⟨z1, z2⟩ := HZ.out.1 Ll[k] (List.getElem_mem hkL)
      have hle2 := hle.next hkL hs0
      clear hle hcells
      obtain ⟨s1, hs1⟩ : ∃ s, s = Ll[k].1 := ⟨_, rfl⟩
      obtain ⟨s2, hs2⟩ : ∃ s, s = Ll[k].2 := ⟨_, rfl⟩
      rw [← hs1] at x1 z1 hle2
      rw [← hs2] at x2 z2 hle2
      have HLE : Hid (LeL Ll (k + 1) (s + (s1.size : Int) + (s2.size : Int))) := hle2
      clear hle2 hs1 hs2
      have hlt' : (k : Int) < (n : Int) := by omega
      have h50' : (k : Int) < 50 := by omega
      have w1 : IntKind.i64.wrap (s + (s1.size : Int)) = s + (s1.size : Int) := by rw [IntKind.wrap_i64]; omega
      have w2 : IntKind.i64.wrap (s + (s1.size : Int) + (s2.size : Int)) = s + (s1.size : Int) + (s2.size : Int) := by rw [IntKind.wrap_i64]; omega
      go_wp2_with fail
      go_quiet (fail)
      go_wp2
      go_roundw
      case rel => exact ⟨k + 1, _, by omega, by omega, by go_num, rfl, by omega, by omega, ⟨hb.os, hb.tape, hb.output, hb.size, hb.block⟩, HLE.out⟩
      case measure => simp [intOf]; omega
    · have hcase := big_k hlt
      have HL : Hid (LeL Ll k s ∧ ¬ (k < Ll.length ∧ k < 50)) := ⟨hle, by rw [← HN.out.1]; exact hlt⟩
      clear hlt hle
      rcases hcase with hc | ⟨hc, hc2⟩
      all_goals
        go_wp2
        go_loopw [5, 7] (fun acc i wr2 => ∃ (k2 : Nat) (s2 : Int), k2 ≤ an ∧ k2 ≤ 50 ∧ i = .int .i64 k2 ∧ acc = .int .i64 s2 ∧ s ≤ s2 ∧ s2 ≤ 14073748835532800 + 140737488355328 * k2 ∧ Below W.heap.size W wr2 ∧ LeA al k2 s2) (fun _ i _ => an - (intOf i).toNat)
        case atStart => exact ⟨0, s, Nat.zero_le _, Nat.zero_le _, rfl, rfl, Int.le_refl _, by omega, hb, fun _ _ h => absurd h (Nat.not_lt_zero _)⟩
        case round =>
          obtain ⟨k2, s2, hj, hj50, rfl, rfl, ht0, ht1, hb2, hle⟩ := hrel
          by_cases hlt : k2 < an ∧ k2 < 50
          · obtain ⟨hlt, hl50⟩ := hlt
            have hkL : k2 < al.length := by rw [← HN.out.2]; exact hlt
            rcases HA.out _ hb2 with h0 | ⟨g, off, rfl, hg, hcells⟩
            · rw [h0] at hkL; exact absurd hkL (Nat.not_lt_zero _)
            have x1 := hcells k2 hkL
            have z1 := HZ.out.2 al[k2] (List.getElem_mem hkL)
            have hle2 := hle.next hkL (by omega)
            clear hle hcells
            obtain ⟨s1, hs1⟩ : ∃ s, s = al[k2] := ⟨_, rfl⟩
            rw [← hs1] at x1 z1 hle2
            have HLE : Hid (LeA al (k2 + 1) (s2 + (s1.size : Int))) := hle2
            clear hle2 hs1
            have hlt' : (k2 : Int) < (an : Int) := by omega
            have h50' : (k2 : Int) < 50 := by omega
            have w1 : IntKind.i64.wrap (s2 + (s1.size : Int)) = s2 + (s1.size : Int) := by rw [IntKind.wrap_i64]; omega
            go_wp2
            go_roundw
            case rel => exact ⟨k2 + 1, _, by omega, by omega, by go_num, rfl, by omega, by omega, hb2, HLE.out⟩
            case measure => simp [intOf]; omega
          · have hcase2 := big_k hlt
            have HE : Hid (¬ (40 : Int) < n → ¬ (40 : Int) < an → ¬ (9000 : Int) < s2 → SmallB Ll al) := fun h1 h2 h3 => small_of HL.out.1 hle ht0 (by rw [← HN.out.1]; omega) (by rw [← HN.out.2]; omega) HL.out.2 (by rw [← HN.out.2]; exact hlt) h3
            clear hlt hle
            by_cases q1 : (40 : Int) < n
            · rcases hcase2 with hd | ⟨hd, hd2⟩
              all_goals
                go_wp2
                go_ret
                exact ⟨_, rfl, fun h => by (first | (cases h; done) | (simp at h; omega)), hb2⟩
            · by_cases q2 : (40 : Int) < an
              · rcases hcase2 with hd | ⟨hd, hd2⟩
                all_goals
                  go_wp2
                  go_ret
                  exact ⟨_, rfl, fun h => by (first | (cases h; done) | (simp at h; omega)), hb2⟩
              · by_cases q3 : (9000 : Int) < s2
                · rcases hcase2 with hd | ⟨hd, hd2⟩
                  all_goals
                    go_wp2
                    go_ret
                    exact ⟨_, rfl, fun h => by (first | (cases h; done) | (simp at h; omega)), hb2⟩
                · rcases hcase2 with hd | ⟨hd, hd2⟩
                  all_goals
                    go_wp2
                    go_ret
                    exact ⟨_, rfl, fun _ => HE.out q1 q2 q3, hb2⟩
end
end Go.Proofs.YtaikgomojnfimaaGreatDoor
