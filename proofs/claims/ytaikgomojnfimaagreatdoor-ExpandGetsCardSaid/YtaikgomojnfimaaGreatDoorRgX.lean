/-
  What the other scope tells, walked.
-/
import Derived.Test.YtaikgomojnfimaaGreatDoorRgW
import Derived.BigQuiet
import Derived.Deep.QuietTactic
import Derived.Deep.RegionLaw
import Derived.Deep.RegionWith
import Derived.Deep.RegionHeld3
import Derived.RegionTactic
import Derived.WalkKit
import Derived.WalkSpells
import Derived.StillTactics
import Derived.LoopIn
import Derived.RowKit3
import Derived.Below
import Derived.OwnWalk
import Derived.KernelRfl
open Go Go.Mx Go.RowKit
namespace Go.Proofs.YtaikgomojnfimaaGreatDoor
set_option maxRecDepth 100000
noncomputable section
/-! what the other scope tells -/
structure XIs (w : World) (sb rb : Nat) (L : ML) (o : Option Addr) (cap : Nat) (oa : Option Addr) (ca : Nat) (al : List ByteArray) (st : Int) : Prop where
  s : w.heap[sb]? = some (.cells #[.pointer (some ⟨rb, 0, none⟩), .slice oa al.length ca, .int .i64 st, .string ⟨#[]⟩] 36 (0, 0))
  v : RIs w rb L o cap
  a : TextsAt w oa al
  room : al.length ≤ ca
theorem itoaBS (n : Int) : itoaS n = itoaB n := rfl
theorem joinA_nil : joinA [] = ⟨#[]⟩ := rfl
theorem take_next {al : List ByteArray} {k : Nat} (h1 : 1 ≤ k) (h : k < al.length) : (al.drop 1).take (k + 1 - 1) = (al.drop 1).take (k - 1) ++ [al[k]] := by
  obtain ⟨j, rfl⟩ : ∃ j, k = j + 1 := ⟨k - 1, by omega⟩
  have hj : j < (al.drop 1).length := by rw [List.length_drop]; omega
  show (al.drop 1).take (j + 1) = (al.drop 1).take j ++ [al[j + 1]]
  rw [List.take_succ_eq_append_getElem hj, List.getElem_drop]
  congr 2
  simp [Nat.add_comm]
theorem app_size (a b : ByteArray) : (a ++ b).size = a.size + b.size := by
  simp
set_option maxHeartbeats 3200000 in
set_option maxRecDepth 100000 in
theorem xget_any {w : World} {sb rb : Nat} {L : ML} {o : Option Addr} {cap : Nat} {oa : Option Addr} {ca : Nat} {al : List ByteArray} {st : Int} (h : XIs w sb rb L o cap oa ca al st) (M : ML) (hlook : ∀ q, look M q = look L q) (hLl : L.length ≤ 400) (hal : al.length ≤ 40) (hsz : ∀ s ∈ al, s.size ≤ 1100000) (hst : -9223372036854775808 ≤ st ∧ st ≤ 9223372036854775807) (q : ByteArray) (hq : q.size ≤ 60) :
    Calls Tryz.prog 9 #[.pointer (some ⟨sb, 0, none⟩), .string q] w fun e w' => GetSaid w al st M q e w' := by
  have c0 : w.cell? ⟨sb, 0, none⟩ = some (.pointer (some ⟨rb, 0, none⟩)) := by rw [cell_u h.s]; rfl
  have c1 : w.cell? ⟨sb, 1, none⟩ = some (.slice oa al.length ca) := by rw [cell_u h.s]; rfl
  have c2 : w.cell? ⟨sb, 2, none⟩ = some (.int .i64 st) := by rw [cell_u h.s]; rfl
  have hV := rget_any h.v (by omega) q
  rw [← hlook q] at hV
  have hA := h.a
  have hroom := h.room
  clear h hlook
  by_cases q1 : q.data.toList = [63]
  · have hF : getF al st M q = (itoaB st, true) := if_pos q1
    have e1 := eqB q1
    unfold GetSaid
    rw [hF]
    have hI := int_any st hst.1 hst.2 w
    rw [itoaBS] at hI
    clear hF hV q1 hA
    go_enter Tryz.func9, Tryz.ntmps9
    go_wp2_with fail
    go_at_call 22
    refine hI.mono ?_
    rintro e w1 ⟨rfl, hw1⟩
    subst hw1
    go_wp2
    go_ret2
    exact ⟨rfl, ⟨rfl, rfl, rfl, Nat.le_refl _, fun _ _ => rfl⟩⟩
  have e1 := neB q1
  by_cases q2 : q.data.toList = [35]
  · have hF : getF al st M q = (itoaB ((al.length - 1 : Nat) : Int), true) := by unfold getF; rw [if_neg q1, if_pos q2]
    have e2 := eqB q2
    unfold GetSaid
    rw [hF]
    clear hF hV q1 q2 hA
    generalize al.length = n at *
    obtain ⟨k, hk⟩ : ∃ k, k = n - 1 := ⟨_, rfl⟩
    rw [← hk]
    have hI := digits_any k (by omega) w
    rw [← itoaS_pos, itoaBS] at hI
    by_cases hn : 0 < n
    · have hn' : (0 : Int) < (n : Int) := by omega
      have hkn : (n : Int) - 1 = (k : Int) := by omega
      have w1 : IntKind.i64.wrap ((n : Int) - 1) = (n : Int) - 1 := by rw [IntKind.wrap_i64]; omega
      generalize itoaB (k : Int) = r at *
      rw [← hkn] at hI
      clear hk hkn
      go_enter Tryz.func9, Tryz.ntmps9
      go_wp2_with fail
      go_at_call 23
      refine hI.mono ?_
      rintro e w1 ⟨rfl, hw1⟩
      subst hw1
      go_wp2
      go_ret2
      exact ⟨rfl, ⟨rfl, rfl, rfl, Nat.le_refl _, fun _ _ => rfl⟩⟩
    · have hn0 : n = 0 := by omega
      subst hn0
      have hk0 : k = 0 := hk
      subst hk0
      clear hk hn
      go_enter Tryz.func9, Tryz.ntmps9
      go_wp2_with fail
      go_at_call 23
      refine hI.mono ?_
      rintro e w1 ⟨rfl, hw1⟩
      subst hw1
      go_wp2
      go_ret2
      exact ⟨rfl, ⟨rfl, rfl, rfl, Nat.le_refl _, fun _ _ => rfl⟩⟩
  have e2 := neB q2
  by_cases q3 : q.data.toList = [64] ∨ q.data.toList = [42]
  · have hF : getF al st M q = (joinA (al.drop 1), true) := by unfold getF; rw [if_neg q1, if_neg q2, if_pos q3]
    unfold GetSaid
    rw [hF]
    have HA : Hid (TextsAt w oa al ∧ ∀ s ∈ al, s.size ≤ 1100000) := ⟨hA, hsz⟩
    obtain ⟨n, hn⟩ : ∃ n, n = al.length := ⟨_, rfl⟩
    have HN : Hid (n = al.length) := hn
    rw [← hn] at c1 hroom hal
    obtain ⟨r, hr⟩ : ∃ r, r = joinA (al.drop 1) := ⟨_, rfl⟩
    have HR : Hid (r = joinA (al.drop 1)) := hr
    rw [← hr]
    have hcase : (q.toList == [64]) = true ∨ ((q.toList == [64]) = false ∧ (q.toList == [42]) = true) := by
      rcases q3 with q3 | q3
      · exact .inl (eqB q3)
      · exact .inr ⟨neB (by rw [q3]; decide), eqB q3⟩
    clear hF hV q1 q2 q3 hA hsz hn hr
    rcases hcase with e3 | ⟨e3, e4⟩
    all_goals
      go_enter Tryz.func9, Tryz.ntmps9
      go_wp2_with fail
      go_loopw [7, 8] (fun t i wr => wr = w ∧ ∃ (k : Nat) (s : ByteArray), 1 ≤ k ∧ (k ≤ n ∨ k = 1) ∧ i = .int .i64 k ∧ t = .string s ∧ s.size ≤ 1100001 * k ∧ s = joinA ((al.drop 1).take (k - 1))) (fun _ i _ => n - (intOf i).toNat)
      case atStart => exact ⟨rfl, 1, ⟨#[]⟩, Nat.le_refl _, .inr rfl, rfl, rfl, Nat.zero_le _, rfl⟩
      case round =>
        obtain ⟨rfl, k, s, hk1, hk, rfl, rfl, hs, hsj⟩ := hrel
        by_cases hlt : k < n
        · have hkL : k < al.length := by rw [← HN.out]; exact hlt
          rcases HA.out.1 with h0 | ⟨g, off, rfl, hg, hcells⟩
          · rw [h0] at hkL; exact absurd hkL (Nat.not_lt_zero _)
          have x1 := hcells k hkL
          have z1 := HA.out.2 al[k] (List.getElem_mem hkL)
          have hT : (al.drop 1).take (k + 1 - 1) = (al.drop 1).take (k - 1) ++ [al[k]] := take_next hk1 hkL
          obtain ⟨y, hy⟩ : ∃ y, y = al[k] := ⟨_, rfl⟩
          rw [← hy] at x1 z1 hT
          have hlt' : (k : Int) < (n : Int) := by omega
          clear hcells hy hk
          by_cases h1 : 1 < k
          · have h1' : (1 : Int) < (k : Int) := by omega
            have hne : (al.drop 1).take (k - 1) ≠ [] := fun e => by
              have := congrArg List.length e
              rw [List.length_take, List.length_drop, ← HN.out] at this
              simp at this
              omega
            have HJ : Hid ((s ++ (⟨#[32]⟩ : ByteArray)) ++ y = joinA ((al.drop 1).take (k + 1 - 1)) ∧ ((s ++ (⟨#[32]⟩ : ByteArray)) ++ y).size ≤ 1100001 * (k + 1)) := by
              refine ⟨by rw [hT, hsj]; exact joinA_snoc _ _ hne, ?_⟩
              rw [app_size, app_size]
              have : (⟨#[32]⟩ : ByteArray).size = 1 := rfl
              omega
            have z2 : s.size + (⟨#[32]⟩ : ByteArray).size ≤ 9223372036854775807 := by
              have : (⟨#[32]⟩ : ByteArray).size = 1 := rfl
              omega
            have z3 : (s ++ (⟨#[32]⟩ : ByteArray)).size + y.size ≤ 9223372036854775807 := by
              rw [app_size]
              have : (⟨#[32]⟩ : ByteArray).size = 1 := rfl
              omega
            clear hT hsj hne
            go_wp2
            go_roundw
            case rel => exact ⟨by first | trivial | rfl, k + 1, _, by omega, .inl (by omega), by go_num, rfl, HJ.out.2, HJ.out.1⟩
            case measure => simp [intOf]; omega
          · have hk0 : k = 1 := by omega
            subst hk0
            have hs0 : s = ⟨#[]⟩ := by rw [hsj]; rfl
            subst hs0
            have HJ : Hid ((⟨#[]⟩ : ByteArray) ++ y = joinA ((al.drop 1).take (1 + 1 - 1)) ∧ ((⟨#[]⟩ : ByteArray) ++ y).size ≤ 1100001 * (1 + 1)) := by
              refine ⟨by rw [hT]; exact (by apply ByteArray.ext; simp : (⟨#[]⟩ : ByteArray) ++ y = y).trans (joinA_one y).symm, ?_⟩
              rw [app_size]
              have : (⟨#[]⟩ : ByteArray).size = 0 := rfl
              omega
            have z3 : (⟨#[]⟩ : ByteArray).size + y.size ≤ 9223372036854775807 := by
              have : (⟨#[]⟩ : ByteArray).size = 0 := rfl
              omega
            clear hT hsj
            go_wp2
            go_roundw
            case rel => exact ⟨by first | trivial | rfl, 1 + 1, _, by omega, .inl (by omega), by go_num, rfl, HJ.out.2, HJ.out.1⟩
            case measure => simp [intOf]; omega
        · have hrs : r = s := by
            rw [HR.out, hsj, List.take_of_length_le (by rw [List.length_drop, ← HN.out]; omega)]
          subst hrs
          clear hsj
          go_wp2
          go_ret2
          exact ⟨rfl, ⟨rfl, rfl, rfl, Nat.le_refl _, fun _ _ => rfl⟩⟩
  have e3 := neB (fun hh => q3 (.inl hh))
  have e4 := neB (fun hh => q3 (.inr hh))
  have hN := xdig_any q (by omega) w
  cases hd : digB q with
  | false =>
    have hF : getF al st M q = ((look M q).getD ⟨#[]⟩, (look M q).isSome) := by unfold getF; rw [if_neg q1, if_neg q2, if_neg q3, if_neg (by simp [hd])]
    unfold GetSaid
    rw [hF]
    rw [hd] at hN
    generalize (look M q).getD ⟨#[]⟩ = a at hV ⊢
    generalize (look M q).isSome = b at hV ⊢
    clear hF q1 q2 q3 hA
    go_enter Tryz.func9, Tryz.ntmps9
    go_wp2_with fail
    go_at_call 24
    refine hN.mono ?_
    rintro e w1 ⟨rfl, hw1⟩
    subst hw1
    go_wp2_with fail
    go_at_call 26
    refine hV.mono ?_
    rintro e w2 ⟨rfl, hw2⟩
    subst hw2
    go_wp2
    go_ret2
    exact ⟨rfl, ⟨rfl, rfl, rfl, Nat.le_refl _, fun _ _ => rfl⟩⟩
  | true =>
    rw [hd] at hN
    have hF : getF al st M q = if 4 < q.size ∨ al.length ≤ numN q then (⟨#[]⟩, false) else (al.getD (numN q) ⟨#[]⟩, true) := by unfold getF; rw [if_neg q1, if_neg q2, if_neg q3, if_pos hd]
    have hdA : digAll q = true := by
      unfold digB at hd
      simp at hd
      exact hd.2
    clear hV q1 q2 q3
    by_cases h4 : (4 : Int) < q.size
    · rw [if_pos (.inl (by omega))] at hF
      unfold GetSaid
      rw [hF]
      clear hF
      go_enter Tryz.func9, Tryz.ntmps9
      go_wp2_with fail
      go_at_call 24
      refine hN.mono ?_
      rintro e w1 ⟨rfl, hw1⟩
      subst hw1
      go_wp2
      go_ret2
      exact ⟨rfl, ⟨rfl, rfl, rfl, Nat.le_refl _, fun _ _ => rfl⟩⟩
    · have hO : Hid (∀ w', Calls Tryz.prog 25 #[.string q] w' fun e w'' => e = .returned (.int .i64 (numN q)) ∧ w'' = w') := fun w' => xnum_any q (by omega) hdA w'
      by_cases hc : al.length ≤ numN q
      · rw [if_pos (.inr hc)] at hF
        unfold GetSaid
        rw [hF]
        clear hF hA
        generalize al.length = an at *
        generalize numN q = k at *
        have hc2 : (an : Int) ≤ (k : Int) := by omega
        go_enter Tryz.func9, Tryz.ntmps9
        go_wp2_with fail
        go_at_call 24
        refine hN.mono ?_
        rintro e w1 ⟨rfl, hw1⟩
        subst hw1
        go_wp2_with fail
        go_at_call 25
        refine (hO.out w1).mono ?_
        rintro e w1 ⟨rfl, hw1⟩
        subst hw1
        go_wp2
        go_ret2
        exact ⟨rfl, ⟨rfl, rfl, rfl, Nat.le_refl _, fun _ _ => rfl⟩⟩
      · rw [if_neg (by omega)] at hF
        unfold GetSaid
        rw [hF]
        have hk : numN q < al.length := by omega
        rcases hA with h0 | ⟨g, off, rfl, hg, hcells⟩
        · rw [h0] at hk; exact absurd hk (Nat.not_lt_zero _)
        have x1 : w.cell? ⟨g, off + numN q, none⟩ = some (.string (al.getD (numN q) ⟨#[]⟩)) := by
          rw [hcells _ hk]
          simp [List.getD, List.getElem?_eq_getElem hk]
        clear hF hcells
        generalize al.getD (numN q) ⟨#[]⟩ = a at *
        generalize al.length = an at *
        generalize numN q = k at *
        have hc2 : ¬ (an : Int) ≤ (k : Int) := by omega
        have hki : (k : Int) < (an : Int) := by omega
        go_enter Tryz.func9, Tryz.ntmps9
        go_wp2_with fail
        go_at_call 24
        refine hN.mono ?_
        rintro e w1 ⟨rfl, hw1⟩
        subst hw1
        go_wp2_with fail
        go_at_call 25
        refine (hO.out w1).mono ?_
        rintro e w1 ⟨rfl, hw1⟩
        subst hw1
        go_wp2_with fail
        go_region_law
          (first
            | (go_simp; go_at_call 25; refine (hO.out _).mono ?_; rintro e w2 ⟨rfl, hw2⟩; subst hw2; dsimp only))
        all_goals
          go_wp2
          go_ret2
          exact ⟨rfl, ⟨rfl, rfl, rfl, Nat.le_refl _, fun _ _ => rfl⟩⟩
end
end Go.Proofs.YtaikgomojnfimaaGreatDoor
