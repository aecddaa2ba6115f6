/-
  What a scope tells, walked.
-/
import Derived.Test.YtaikgomojnfimaaGreatDoorNgW
import Derived.Test.YtaikgomojnfimaaGreatDoorShW
import Derived.Lib.Join
import Derived.BigQuiet
import Derived.Deep.QuietTactic
import Derived.Deep.RegionLaw
import Derived.Deep.RegionWith
import Derived.Deep.RegionHeld3
import Derived.RegionTactic
import Derived.WalkKit
import Derived.WalkSpells
import Derived.StillTactics
import Derived.LoopIn
import Derived.RowKit3
import Derived.Below
import Derived.OwnWalk
import Derived.KernelRfl
open Go Go.Mx Go.RowKit
namespace Go.Proofs.YtaikgomojnfimaaGreatDoor
set_option maxRecDepth 100000
noncomputable section
/-! what a scope tells -/
def digAll (s : ByteArray) : Bool := s.data.toList.all fun c => digF c.toNat
def digB (s : ByteArray) : Bool := !s.data.toList.isEmpty && digAll s
def numN (s : ByteArray) : Nat := s.data.toList.foldl (fun n c => n * 10 + (c.toNat - 48)) 0
def itoaB (n : Int) : ByteArray := ⟨(Lib.itoa n).toArray⟩
def joinA (l : List ByteArray) : ByteArray := ⟨(Lib.join (l.map (·.data.toList)) [32]).toArray⟩
/-- what a parameter is -/
def getF (al : List ByteArray) (st : Int) (M : ML) (q : ByteArray) : ByteArray × Bool :=
  if q.data.toList = [63] then (itoaB st, true)
  else if q.data.toList = [35] then (itoaB ((al.length - 1 : Nat) : Int), true)
  else if q.data.toList = [64] ∨ q.data.toList = [42] then (joinA (al.drop 1), true)
  else if digB q = true then (if 4 < q.size ∨ al.length ≤ numN q then (⟨#[]⟩, false) else (al.getD (numN q) ⟨#[]⟩, true))
  else ((look M q).getD ⟨#[]⟩, (look M q).isSome)
/-- what Itoa, Atoi, Join and number are held to tell -/
structure LibSaid (w : World) : Prop where
  itoa : ∀ w', Below w.heap.size w w' → ∀ n : Int, -9223372036854775808 ≤ n → n ≤ 9223372036854775807 → Calls Tryz.prog 16 #[.int .i64 n] w' fun e w'' => e = .returned (.string (itoaB n)) ∧ Below w'.heap.size w' w''
  atoi : ∀ w', Below w.heap.size w w' → ∀ s : ByteArray, digB s = true → s.size ≤ 60 → Calls Tryz.prog 20 #[.string s] w' fun e w'' => ∃ (n : Int) (ev : Value), e = .returned (.tuple #[.int .i64 n, ev]) ∧ (s.size ≤ 4 → n = numN s) ∧ Below w'.heap.size w' w''
  num : ∀ w', Below w.heap.size w w' → ∀ s : ByteArray, s.size ≤ 1100000 → Calls Tryz.prog 19 #[.string s] w' fun e w'' => e = .returned (.bool (digB s)) ∧ Below w'.heap.size w' w''
theorem LibSaid.below {w w' : World} (h : LibSaid w) (hb : Below w.heap.size w w') : LibSaid w' :=
  ⟨fun w2 h2 => h.itoa w2 (hb.trans (h2.mono hb.size)), fun w2 h2 => h.atoi w2 (hb.trans (h2.mono hb.size)), fun w2 h2 => h.num w2 (hb.trans (h2.mono hb.size))⟩
def BehindSaid (w : World) (al : List ByteArray) (k : Nat) (e : Ending) (w' : World) : Prop := ∃ o c, e = .returned (.slice o k c) ∧ TextsAt w' o (al.drop 1) ∧ k ≤ c ∧ Below w.heap.size w w'
set_option maxHeartbeats 1600000 in
set_option maxRecDepth 100000 in
theorem behind_any {w : World} {sb vb : Nat} {m : Option Nat} {M : ML} {oa : Option Addr} {ca : Nat} {al : List ByteArray} {st : Int} (h : ScopeIs w sb vb m M oa ca al st) : Calls Tryz.prog 17 #[.pointer (some ⟨sb, 0, none⟩)] w fun e w' => BehindSaid w al (al.length - 1) e w' := by
  have c1 : w.cell? ⟨sb, 1, none⟩ = some (.slice oa al.length ca) := by rw [cell_u h.s]; rfl
  have hroom := h.room
  have HA : Hid (TextsAt w oa al) := h.a
  clear h
  obtain ⟨n, hn⟩ : ∃ n, n = al.length := ⟨_, rfl⟩
  have HN : Hid (n = al.length) := hn
  rw [← hn] at c1 hroom ⊢
  clear hn
  by_cases hn0 : n = 0
  · subst hn0
    have h0 : al = [] := List.eq_nil_of_length_eq_zero HN.out.symm
    have HE : Hid (∀ w', Below w.heap.size w w' → BehindSaid w al 0 (.returned (.slice oa 0 ca)) w') := fun w' hb => ⟨oa, ca, rfl, .inl (by rw [h0]; rfl), Nat.zero_le _, hb⟩
    have hmin : min (1 : Int) 0 = 0 := by decide
    cases oa
    all_goals
      go_enter Tryz.func17, Tryz.ntmps17
      go_wp2_with fail
      go_quiet (fail)
      all_goals
        go_wp2
        go_ret
        exact HE.out _ ⟨rfl, rfl, rfl, Nat.le_refl _, fun _ _ => rfl⟩
  · rcases HA.out with h0 | ⟨g, off, rfl, hg, hcells⟩
    · exact absurd (by rw [HN.out, h0]; rfl) hn0
    have HE : Hid (∀ w' o' c', Below w.heap.size w w' → (o' = some ⟨g, off + 1, none⟩ ∨ n ≤ 1) → n - 1 ≤ c' → BehindSaid w al (n - 1) (.returned (.slice o' (n - 1) c')) w') := fun w' o' c' hb ho hc => by
      refine ⟨o', c', rfl, ?_, hc, hb⟩
      rcases ho with rfl | ho
      · refine .inr ⟨g, off + 1, rfl, Nat.lt_of_lt_of_le hg hb.size, fun i hi => ?_⟩
        rw [List.length_drop] at hi
        rw [List.getElem_drop, show off + 1 + i = off + (1 + i) by omega]
        exact (hb.cell (by exact hg)).trans (hcells (1 + i) (by omega))
      · exact .inl (List.drop_eq_nil_of_le (by rw [← HN.out]; exact ho))
    have hmin : min (1 : Int) (n : Int) = 1 := by omega
    have h1 : 1 ≤ n := by omega
    have h2 : 1 ≤ ca := by omega
    clear hcells
    go_enter Tryz.func17, Tryz.ntmps17
    go_wp2_with fail
    go_quiet (fail)
    all_goals
      go_wp2
      all_goals
        go_ret
        first
          | exact HE.out _ _ _ ⟨rfl, rfl, rfl, Nat.le_refl _, fun _ _ => rfl⟩ (.inl rfl) (by omega)
          | exact HE.out _ _ _ ⟨rfl, rfl, rfl, Nat.le_refl _, fun _ _ => rfl⟩ (.inr (by omega)) (by omega)
/-- what Get tells -/
def GetSaid (w : World) (al : List ByteArray) (st : Int) (M : ML) (q : ByteArray) (e : Ending) (w' : World) : Prop := e = .returned (.tuple #[.string (getF al st M q).1, .bool (getF al st M q).2]) ∧ Below w.heap.size w w'
theorem lens_le : ∀ l : List ByteArray, (∀ s ∈ l, s.size ≤ 1100000) → Lib.lens (l.map (·.data.toList)) ≤ 1100000 * l.length := by
  intro l
  induction l with
  | nil => intro _; exact Nat.le_refl _
  | cons x r ih =>
    intro h
    have h1 := ih fun s hs => h s (List.mem_cons_of_mem _ hs)
    have h2 : x.data.toList.length ≤ 1100000 := h x (List.mem_cons_self ..)
    unfold Lib.lens at h1 ⊢
    rw [List.map_cons, List.map_cons, List.sum_cons, List.length_cons]
    omega
theorem join_len (l : List ByteArray) (h : ∀ s ∈ l, s.size ≤ 1100000) (hl : l.length ≤ 40) : (Lib.join (l.map (·.data.toList)) [32]).length ≤ 140737488355328 := by
  have hh := lens_le l h
  cases l with
  | nil => exact Nat.zero_le _
  | cons x r =>
    rw [List.map_cons] at hh ⊢
    rw [Lib.join_length, List.length_map]
    have : [(32 : UInt8)].length = 1 := rfl
    rw [this]
    have : (x :: r).length = r.length + 1 := rfl
    omega
set_option maxHeartbeats 3200000 in
set_option maxRecDepth 100000 in
theorem eget_any {w : World} {sb vb : Nat} {m : Option Nat} {M : ML} {oa : Option Addr} {ca : Nat} {al : List ByteArray} {st : Int} (h : ScopeIs w sb vb m M oa ca al st) (hL : LibSaid w) (hal : al.length ≤ 40) (hsz : ∀ s ∈ al, s.size ≤ 1100000) (hst : -9223372036854775808 ≤ st ∧ st ≤ 9223372036854775807) (q : ByteArray) (hq : q.size ≤ 60) :
    Calls Tryz.prog 8 #[.pointer (some ⟨sb, 0, none⟩), .string q] w fun e w' => GetSaid w al st M q e w' := by
  have c0 : w.cell? ⟨sb, 0, none⟩ = some (.pointer (some ⟨vb, 0, none⟩)) := by rw [cell_u h.s]; rfl
  have c1 : w.cell? ⟨sb, 1, none⟩ = some (.slice oa al.length ca) := by rw [cell_u h.s]; rfl
  have c2 : w.cell? ⟨sb, 2, none⟩ = some (.int .i64 st) := by rw [cell_u h.s]; rfl
  have hlt : sb < w.heap.size := (Array.getElem?_eq_some_iff.1 h.s).1
  have HB : Hid (Calls Tryz.prog 17 #[.pointer (some ⟨sb, 0, none⟩)] w fun e w' => BehindSaid w al (al.length - 1) e w') := behind_any h
  have HV : Hid (∀ w', Below w.heap.size w w' → Calls Tryz.prog 21 #[.pointer (some ⟨vb, 0, none⟩), .string q] w' fun e w'' => e = .returned (.tuple #[.string ((look M q).getD ⟨#[]⟩), .bool (look M q).isSome]) ∧ w'' = w') := fun w' hb => vget_any (h.v.below hb) q
  have HL : Hid (LibSaid w) := hL
  have HA : Hid (TextsAt w oa al ∧ al.length ≤ ca ∧ ∀ s ∈ al, s.size ≤ 1100000) := ⟨h.a, h.room, hsz⟩
  clear h hL hsz
  by_cases q1 : q.data.toList = [63]
  · have hF : getF al st M q = (itoaB st, true) := if_pos q1
    have e1 := eqB q1
    unfold GetSaid
    rw [hF]
    have hI := HL.out.itoa w (Below.refl _ _) st hst.1 hst.2
    clear HL hF HV HB q1
    go_enter Tryz.func8, Tryz.ntmps8
    go_wp2_with fail
    go_at_call 16
    refine hI.mono ?_
    rintro e w1 ⟨rfl, hb1⟩
    go_wp2
    go_ret2
    exact ⟨rfl, hb1⟩
  have e1 := neB q1
  by_cases q2 : q.data.toList = [35]
  · have hF : getF al st M q = (itoaB ((al.length - 1 : Nat) : Int), true) := by unfold getF; rw [if_neg q1, if_pos q2]
    have e2 := eqB q2
    unfold GetSaid
    rw [hF]
    obtain ⟨k, hk⟩ : ∃ k, k = al.length - 1 := ⟨_, rfl⟩
    rw [← hk] at HB ⊢
    have hI : Hid (∀ w', Below w.heap.size w w' → Calls Tryz.prog 16 #[.int .i64 k] w' fun e w'' => e = .returned (.string (itoaB k)) ∧ Below w'.heap.size w' w'') := fun w' hb => HL.out.itoa w' hb k (by omega) (by omega)
    clear HL hF HV q1 q2 hk
    go_enter Tryz.func8, Tryz.ntmps8
    go_wp2_with fail
    go_at_call 17
    refine HB.out.mono ?_
    rintro e w1 ⟨o, c, rfl, _, _, hb1⟩
    go_wp2_with fail
    go_at_call 16
    refine (hI.out w1 hb1).mono ?_
    rintro e w2 ⟨rfl, hb2⟩
    go_wp2
    go_ret2
    exact ⟨rfl, hb1.trans (hb2.mono hb1.size)⟩
  have e2 := neB q2
  by_cases q3 : q.data.toList = [64] ∨ q.data.toList = [42]
  · have hF : getF al st M q = (joinA (al.drop 1), true) := by unfold getF; rw [if_neg q1, if_neg q2, if_pos q3]
    unfold GetSaid
    rw [hF]
    have HJ : Hid (∀ w' o c, Below w.heap.size w w' → TextsAt w' o (al.drop 1) → al.length - 1 ≤ c → Calls Tryz.prog 18 #[.slice o (al.length - 1) c, .string ⟨#[32]⟩] w' fun e w'' => e = .returned (.string (joinA (al.drop 1))) ∧ Below w'.heap.size w' w'') := fun w' o c hb ht hc => by
      have hdl : (al.drop 1).length = al.length - 1 := List.length_drop
      rcases ht with h0 | ⟨g, off, rfl, hg, hcells⟩
      · rw [← hdl, h0]
        refine (Tryz.strings_Join_none o c ⟨#[32]⟩ w').mono ?_
        rintro e w'' ⟨rfl, rfl⟩
        exact ⟨rfl, Below.refl _ _⟩
      · have := Tryz.strings_Join g off c (al.drop 1) ⟨#[32]⟩ w' (fun j x hj => by
          obtain ⟨hj2, rfl⟩ := List.getElem?_eq_some_iff.1 hj
          exact hcells j hj2) hg (by omega) (by omega) (join_len _ (fun s hs => HA.out.2.2 s (List.mem_of_mem_drop hs)) (by omega))
        rw [hdl] at this
        exact this
    obtain ⟨k, hk⟩ : ∃ k, k = al.length - 1 := ⟨_, rfl⟩
    rw [← hk] at HB HJ
    obtain ⟨ja, hja⟩ : ∃ x, x = joinA (al.drop 1) := ⟨_, rfl⟩
    rw [← hja] at HJ ⊢
    clear HL hF HV hk hja
    rcases q3 with q3 | q3
    · have e3 := eqB q3
      clear q1 q2 q3
      go_enter Tryz.func8, Tryz.ntmps8
      go_wp2_with fail
      go_at_call 17
      refine HB.out.mono ?_
      rintro e w1 ⟨o, c, rfl, ht, hc, hb1⟩
      have hJ := HJ.out w1 o c hb1 ht hc
      clear ht HJ
      go_wp2_with fail
      go_at_call 18
      refine hJ.mono ?_
      rintro e w2 ⟨rfl, hb2⟩
      go_wp2
      go_ret2
      exact ⟨rfl, hb1.trans (hb2.mono hb1.size)⟩
    · have e3 := eqB q3
      have e4 : (q.toList == [64]) = false := neB (by rw [q3]; decide)
      clear q1 q2 q3
      go_enter Tryz.func8, Tryz.ntmps8
      go_wp2_with fail
      go_at_call 17
      refine HB.out.mono ?_
      rintro e w1 ⟨o, c, rfl, ht, hc, hb1⟩
      have hJ := HJ.out w1 o c hb1 ht hc
      clear ht HJ
      go_wp2_with fail
      go_at_call 18
      refine hJ.mono ?_
      rintro e w2 ⟨rfl, hb2⟩
      go_wp2
      go_ret2
      exact ⟨rfl, hb1.trans (hb2.mono hb1.size)⟩
  have e3 := neB (fun hh => q3 (.inl hh))
  have e4 := neB (fun hh => q3 (.inr hh))
  have hN := HL.out.num w (Below.refl _ _) q (by omega)
  cases hd : digB q with
  | false =>
    have hF : getF al st M q = ((look M q).getD ⟨#[]⟩, (look M q).isSome) := by unfold getF; rw [if_neg q1, if_neg q2, if_neg q3, if_neg (by simp [hd])]
    unfold GetSaid
    rw [hF]
    rw [hd] at hN
    generalize (look M q).getD ⟨#[]⟩ = a at HV ⊢
    generalize (look M q).isSome = b at HV ⊢
    clear HL hF HB q1 q2 q3
    go_enter Tryz.func8, Tryz.ntmps8
    go_wp2_with fail
    go_at_call 19
    refine hN.mono ?_
    rintro e w1 ⟨rfl, hb1⟩
    have d0 := (hb1.cell (p := ⟨sb, 0, none⟩) (by exact hlt)).trans c0
    have hV := HV.out w1 hb1
    clear c0 c1 c2 HV
    go_wp2_with fail
    go_at_call 21
    refine hV.mono ?_
    rintro e w2 ⟨rfl, hw2⟩
    subst hw2
    go_wp2
    go_ret2
    exact ⟨rfl, hb1⟩
  | true =>
    rw [hd] at hN
    have hF : getF al st M q = if 4 < q.size ∨ al.length ≤ numN q then (⟨#[]⟩, false) else (al.getD (numN q) ⟨#[]⟩, true) := by unfold getF; rw [if_neg q1, if_neg q2, if_neg q3, if_pos hd]
    have hO : Hid (∀ w', Below w.heap.size w w' → Calls Tryz.prog 20 #[.string q] w' fun e w'' => ∃ (n : Int) (ev : Value), e = .returned (.tuple #[.int .i64 n, ev]) ∧ (q.size ≤ 4 → n = numN q) ∧ Below w'.heap.size w' w'') := fun w' hb => HL.out.atoi w' hb q hd hq
    clear HL HB HV q1 q2 q3
    by_cases hc : 4 < q.size ∨ al.length ≤ numN q
    · rw [if_pos hc] at hF
      unfold GetSaid
      rw [hF]
      clear hF
      by_cases h4 : (4 : Int) < q.size
      · clear hc
        go_enter Tryz.func8, Tryz.ntmps8
        go_wp2_with fail
        go_at_call 19
        refine hN.mono ?_
        rintro e w1 ⟨rfl, hb1⟩
        go_wp2_with fail
        go_at_call 20
        refine (hO.out w1 hb1).mono ?_
        rintro e w2 ⟨n, ev, rfl, _, hb2⟩
        go_wp2
        go_ret2
        exact ⟨rfl, hb1.trans (hb2.mono hb1.size)⟩
      · have hc2 : (al.length : Int) ≤ numN q := by omega
        have h44 : q.size ≤ 4 := by omega
        generalize al.length = an at c1 hc2
        clear hc
        go_enter Tryz.func8, Tryz.ntmps8
        go_wp2_with fail
        go_at_call 19
        refine hN.mono ?_
        rintro e w1 ⟨rfl, hb1⟩
        go_wp2_with fail
        go_at_call 20
        refine (hO.out w1 hb1).mono ?_
        rintro e w2 ⟨n, ev, rfl, hn, hb2⟩
        have hn2 := hn h44
        subst hn2
        have hb12 := hb1.trans (hb2.mono hb1.size)
        have d1 := (hb12.cell (p := ⟨sb, 1, none⟩) (by exact hlt)).trans c1
        clear hn
        generalize numN q = k at *
        go_wp2
        go_ret2
        exact ⟨rfl, hb12⟩
    · rw [if_neg hc] at hF
      unfold GetSaid
      rw [hF]
      have h4 : ¬ (4 : Int) < q.size := by omega
      have h44 : q.size ≤ 4 := by omega
      have hk : numN q < al.length := by omega
      have HA2 : Hid (∀ w', Below w.heap.size w w' → ∃ g off, oa = some ⟨g, off, none⟩ ∧ w'.cell? ⟨g, off + numN q, none⟩ = some (.string (al.getD (numN q) ⟨#[]⟩))) := fun w' hb => by
        rcases HA.out.1 with h0 | ⟨g, off, e, hg, hcells⟩
        · rw [h0] at hk; exact absurd hk (Nat.not_lt_zero _)
        · refine ⟨g, off, e, (hb.cell (by exact hg)).trans ?_⟩
          rw [hcells _ hk]
          simp [List.getD, List.getElem?_eq_getElem hk]
      have hroom : al.length ≤ ca := HA.out.2.1
      clear hF hc HA
      generalize al.getD (numN q) ⟨#[]⟩ = a at HA2 ⊢
      generalize al.length = an at *
      go_enter Tryz.func8, Tryz.ntmps8
      go_wp2_with fail
      go_at_call 19
      refine hN.mono ?_
      rintro e w1 ⟨rfl, hb1⟩
      go_wp2_with fail
      go_at_call 20
      refine (hO.out w1 hb1).mono ?_
      rintro e w2 ⟨n, ev, rfl, hn, hb2⟩
      have hn2 := hn h44
      subst hn2
      have hb12 := hb1.trans (hb2.mono hb1.size)
      obtain ⟨g, off, rfl, hcell⟩ := HA2.out w2 hb12
      have d1 := (hb12.cell (p := ⟨sb, 1, none⟩) (by exact hlt)).trans c1
      have hki : (numN q : Int) < (an : Int) := by omega
      clear hn HA2 hO
      generalize numN q = k at *
      go_wp2
      go_ret2
      exact ⟨rfl, hb12⟩
end
end Go.Proofs.YtaikgomojnfimaaGreatDoor
