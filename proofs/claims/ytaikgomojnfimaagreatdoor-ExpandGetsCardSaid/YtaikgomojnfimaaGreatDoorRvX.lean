/-
  Parameters in a list, walked.
-/
import Derived.Test.YtaikgomojnfimaaGreatDoorRvW
import Derived.BigQuiet
import Derived.Deep.QuietTactic
import Derived.Deep.RegionLaw
import Derived.Deep.RegionWith
import Derived.Deep.RegionHeld3
import Derived.RegionTactic
import Derived.WalkKit
import Derived.WalkSpells
import Derived.StillTactics
import Derived.LoopIn
import Derived.RowKit3
import Derived.Below
import Derived.OwnWalk
import Derived.KernelRfl
open Go Go.Mx Go.RowKit
namespace Go.Proofs.YtaikgomojnfimaaGreatDoor
set_option maxRecDepth 100000
noncomputable section
/-! the reference's parameters: a list -/
theorem ba_comm (a b : ByteArray) : (a == b) = (b == a) := by
  cases h : a == b with
  | true => rw [ba_of h]; exact (ba_refl b).symm
  | false =>
    cases h2 : b == a with
    | false => rfl
    | true => rw [ba_of h2, ba_refl] at h; cases h
theorem tl_eq (a b : ByteArray) : (a.toList == b.toList) = (a == b) := by
  rw [Lib.toList_data, Lib.toList_data]
  cases h : a == b with
  | true => rw [ba_of h]; exact beq_self_eq_true _
  | false =>
    refine beq_eq_false_iff_ne.2 fun e => ?_
    have e2 : a = b := by
      obtain ⟨⟨a⟩⟩ := a
      obtain ⟨⟨b⟩⟩ := b
      have e3 : a = b := e
      rw [e3]
    rw [e2, ba_refl] at h
    cases h
theorem look_at : ∀ {L : ML} {q : ByteArray} {k : Nat} (hk : k < L.length), (∀ j (h : j < L.length), j < k → (q == L[j].1) = false) → (q == L[k].1) = true → look L q = some L[k].2
  | [], _, _, hk, _, _ => absurd hk (Nat.not_lt_zero _)
  | x :: L, q, 0, _, _, h => by
    unfold look
    simp only [List.find?]
    have h2 : (q == x.1) = true := h
    rw [h2]
    rfl
  | x :: L, q, k + 1, hk, hn, h => by
    have h0 : (q == x.1) = false := hn 0 (by simp) (by omega)
    have ih := look_at (L := L) (q := q) (k := k) (by simpa using hk) (fun j hj h2 => hn (j + 1) (by simpa using hj) (by omega)) h
    unfold look at ih ⊢
    simp only [List.find?, h0]
    exact ih
theorem look_no : ∀ {L : ML} {q : ByteArray}, (∀ j (h : j < L.length), (q == L[j].1) = false) → look L q = none
  | [], _, _ => rfl
  | x :: L, q, hn => by
    have h0 : (q == x.1) = false := hn 0 (by simp)
    have ih := look_no (L := L) (q := q) fun j hj => hn (j + 1) (by simpa using hj)
    unfold look at ih ⊢
    simp only [List.find?, h0]
    exact ih
/-- pairs of texts in a row -/
def PairsAt (w : World) (o : Option Addr) (L : ML) : Prop := L = [] ∨ ∃ g off, o = some ⟨g, off, none⟩ ∧ g < w.heap.size ∧ ∀ i (h : i < L.length), w.cell? ⟨g, off + i * 2, none⟩ = some (.string L[i].1) ∧ w.cell? ⟨g, off + i * 2 + 1, none⟩ = some (.string L[i].2)
theorem PairsAt.below {w w' : World} {o : Option Addr} {L : ML} (h : PairsAt w o L) (hb : Below w.heap.size w w') : PairsAt w' o L := by
  rcases h with h | ⟨g, off, h1, h2, h3⟩
  · exact .inl h
  · exact .inr ⟨g, off, h1, Nat.lt_of_lt_of_le h2 hb.size, fun i hi => ⟨(hb.cell (by exact h2)).trans (h3 i hi).1, (hb.cell (by exact h2)).trans (h3 i hi).2⟩⟩
/-- the reference's parameters are these -/
structure RIs (w : World) (rb : Nat) (L : ML) (o : Option Addr) (cap : Nat) : Prop where
  r : w.heap[rb]? = some (.cells #[.slice o L.length cap] 51 (0, 0))
  rows : PairsAt w o L
  room : L.length ≤ cap
theorem RIs.below {w w' : World} {rb : Nat} {L : ML} {o : Option Addr} {cap : Nat} (h : RIs w rb L o cap) (hb : Below w.heap.size w w') : RIs w' rb L o cap :=
  ⟨by rw [hb.block rb (Array.getElem?_eq_some_iff.1 h.r).1]; exact h.r, h.rows.below hb, h.room⟩
set_option maxHeartbeats 3200000 in
set_option maxRecDepth 100000 in
theorem rget_any {w : World} {rb : Nat} {L : ML} {o : Option Addr} {cap : Nat} (h : RIs w rb L o cap) (hL : L.length ≤ 1000) (q : ByteArray) : Calls Tryz.prog 26 #[.pointer (some ⟨rb, 0, none⟩), .string q] w fun e w' => e = .returned (.tuple #[.string ((look L q).getD ⟨#[]⟩), .bool (look L q).isSome]) ∧ w' = w := by
  have c0 : w.cell? ⟨rb, 0, none⟩ = some (.slice o L.length cap) := by rw [cell_u h.r]; rfl
  have HR : Hid (PairsAt w o L) := h.rows
  have hroom := h.room
  obtain ⟨a, ha⟩ : ∃ a, a = (look L q).getD ⟨#[]⟩ := ⟨_, rfl⟩
  obtain ⟨b, hb⟩ : ∃ b, b = (look L q).isSome := ⟨_, rfl⟩
  have HA : Hid (a = (look L q).getD ⟨#[]⟩ ∧ b = (look L q).isSome) := ⟨ha, hb⟩
  rw [← ha, ← hb]
  clear h ha hb
  obtain ⟨n, hn⟩ : ∃ n, n = L.length := ⟨_, rfl⟩
  have HN : Hid (n = L.length) := hn
  rw [← hn] at c0 hroom hL
  clear hn
  go_enter Tryz.func26, Tryz.ntmps26
  go_wp2
  go_loopw [6] (fun i wr => wr = w ∧ ∃ k : Nat, k ≤ n ∧ i = .int .i64 k ∧ ∀ j (h : j < L.length), j < k → (q == L[j].1) = false) (fun i _ => n - (intOf i).toNat)
  case atStart => exact ⟨rfl, 0, Nat.zero_le _, rfl, fun _ _ h => absurd h (Nat.not_lt_zero _)⟩
  case round =>
    obtain ⟨rfl, k, hk, rfl, hno⟩ := hrel
    by_cases hlt : k < n
    · have hkL : k < L.length := by rw [← HN.out]; exact hlt
      rcases HR.out with h0 | ⟨g, off, rfl, hg, hcells⟩
      · rw [h0] at hkL; exact absurd hkL (Nat.not_lt_zero _)
      obtain ⟨x1, x2⟩ := hcells k hkL
      have hlt' : (k : Int) < (n : Int) := by omega
      obtain ⟨s1, hs1⟩ : ∃ s, s = L[k].1 := ⟨_, rfl⟩
      obtain ⟨s2, hs2⟩ : ∃ s, s = L[k].2 := ⟨_, rfl⟩
      rw [← hs1] at x1
      rw [← hs2] at x2
      have HS : Hid ((s1 == q) = true → a = s2 ∧ b = true) := fun he => by
        have := look_at hkL hno (by rw [ba_comm, ← hs1]; exact he)
        rw [HA.out.1, HA.out.2, this, hs2]
        exact ⟨rfl, rfl⟩
      have HO : Hid ((s1 == q) = false → ∀ j (h : j < L.length), j < k + 1 → (q == L[j].1) = false) := fun he j hj h1 => by
        by_cases e : j = k
        · subst e
          rw [ba_comm, ← hs1]
          exact he
        · exact hno j hj (by omega)
      clear hno hcells hs1 hs2
      cases he : s1 == q with
      | true =>
        obtain ⟨rfl, rfl⟩ := HS.out he
        have he' := (tl_eq s1 q).trans he
        clear HS HO HA he
        go_wp2
        go_ret2
        exact ⟨rfl, rfl⟩
      | false =>
        have hn2 : Hid (∀ j (h : j < L.length), j < k + 1 → (q == L[j].1) = false) := HO.out he
        have he' := (tl_eq s1 q).trans he
        clear HS HO he x2
        go_wp2
        go_roundw
        case rel => exact ⟨by first | trivial | rfl, k + 1, by omega, by go_num, hn2.out⟩
        case measure => simp [intOf]; omega
    · have hl0 : look L q = none := look_no fun j hj => hno j hj (by rw [← HN.out] at hj; omega)
      have ha := HA.out.1
      have hb := HA.out.2
      rw [hl0] at ha hb
      have hkn : k = n := by omega
      subst hkn
      clear HA hno hl0
      subst ha
      subst hb
      go_wp2
      go_ret2
      exact ⟨rfl, rfl⟩
end
end Go.Proofs.YtaikgomojnfimaaGreatDoor
