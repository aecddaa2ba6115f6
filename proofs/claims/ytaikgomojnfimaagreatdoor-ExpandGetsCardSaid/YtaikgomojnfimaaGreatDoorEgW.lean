/-
  The law, walked.
-/
import Derived.Test.YtaikgomojnfimaaGreatDoorNuW
import Derived.Test.YtaikgomojnfimaaGreatDoorHk
import Derived.Test.YtaikgomojnfimaaGreatDoorXMxBB
import Derived.Test.YtaikgomojnfimaaGreatDoorXMxQ
import Derived.Test.YtaikgomojnfimaaGreatDoorXMxAL
import Derived.BigQuiet
import Derived.Deep.QuietTactic
import Derived.Deep.RegionLaw
import Derived.Deep.RegionWith
import Derived.Deep.RegionHeld3
import Derived.RegionTactic
import Derived.WalkKit
import Derived.WalkSpells
import Derived.StillTactics
import Derived.LoopIn
import Derived.RowKit3
import Derived.Below
import Derived.OwnWalk
import Derived.KernelRfl
open Go Go.Mx Go.RowKit
namespace Go.Proofs.YtaikgomojnfimaaGreatDoor
set_option maxRecDepth 100000
noncomputable section
/-! the law -/
def nameX : ByteArray := ⟨#[120]⟩
theorem getF_x (al : List ByteArray) (st : Int) : getF al st [] nameX = (⟨#[]⟩, false) := by
  unfold getF
  rw [if_neg (by decide), if_neg (by decide), if_neg (by decide), if_neg (by decide)]
  rfl
theorem bigNo {k : Nat} (h : ¬ k ≤ 60) : (60 : Int) < k := by omega
set_option maxHeartbeats 3200000 in
set_option maxRecDepth 100000 in
theorem gets_any {W : World} (hLW : LaidW W) (Ll : ML) (lo : Option Addr) (lc : Nat) (hP : PairsAt W lo Ll) (hz : ∀ x ∈ Ll, x.1.size ≤ 140737488355328 ∧ x.2.size ≤ 140737488355328) (al : List ByteArray) (ao : Option Addr) (ac : Nat) (hA : TextsAt W ao al) (ha : ∀ x ∈ al, x.size ≤ 140737488355328) (hac : al.length ≤ ac) (st : Int) (hst : -9223372036854775808 ≤ st ∧ st ≤ 9223372036854775807) (q : ByteArray)
    (hal : Calls Tryz.prog 4 #[] W fun e w' => e = .returned (.bool true) ∧ Below W.heap.size W w') :
    Calls Tryz.prog 3 #[.slice lo Ll.length lc, .slice ao al.length ac, .int .i64 st, .string q] W fun e w' => e = .returned (.bool true) ∧ Below W.heap.size W w' := by
  have HB : Hid (∀ w', Below W.heap.size W w' → Calls Tryz.prog 5 #[.slice lo Ll.length lc, .slice ao al.length ac] w' fun e w'' => BigSaid Ll al w' e w'') := fun w' hb => big_any Ll lo lc (hP.below hb) hz al ao ac (hA.below hb) ha
  have HS : Hid (SmallB Ll al → ∀ w', Below W.heap.size W w' → Calls Tryz.prog 6 #[.slice lo Ll.length lc] w' fun e w'' => ∃ vb rb, e = .returned (.tuple #[.pointer (some ⟨vb, 0, none⟩), .pointer (some ⟨rb, 0, none⟩)]) ∧ SS w' w'' vb rb Ll.length) := fun hl w' hb => lset_any Ll lo lc (hP.below hb) hl.n (fun x hx => by have := hl.l x hx; omega)
  have HN : Hid (SmallB Ll al → ∀ w', Below W.heap.size W w' → ∀ vb m M, VIs w' vb m M → Calls Tryz.prog 7 #[.pointer (some ⟨vb, 0, none⟩), .slice ao al.length ac, .int .i64 st] w' fun e w'' => NewSaid w' M al st e w'') := fun hl w' hb vb m M hv => new_some hv al ao ac (hA.below hb) hl.an st
  have HN0 : Hid (SmallB Ll al → ∀ w', Below W.heap.size W w' → Calls Tryz.prog 7 #[.pointer none, .slice ao al.length ac, .int .i64 st] w' fun e w'' => NewSaid w' [] al st e w'') := fun hl w' hb => new_nil al ao ac (hA.below hb) hl.an st
  have HG : Hid (SmallB Ll al → ∀ w', Below W.heap.size W w' → ∀ sb vb m M oa ca, ScopeIs w' sb vb m M oa ca al st → ∀ p : ByteArray, p.size ≤ 60 → Calls Tryz.prog 8 #[.pointer (some ⟨sb, 0, none⟩), .string p] w' fun e w'' => GetSaid w' al st M p e w'') := fun hl w' hb sb vb m M oa ca hs p hp => eget_any hs (libSaid (hLW.below hb)) hl.an (fun x hx => by have := hl.a x hx; omega) hst p hp
  have HX : Hid (SmallB Ll al → ∀ w', Below W.heap.size W w' → ∀ sb rb (L M : ML) o cap, w'.heap[sb]? = some (.cells #[.pointer (some ⟨rb, 0, none⟩), .slice ao al.length ac, .int .i64 st, .string ⟨#[]⟩] 36 (0, 0)) → RIs w' rb L o cap → (∀ q, look M q = look L q) → L.length ≤ Ll.length → ∀ p : ByteArray, p.size ≤ 60 → Calls Tryz.prog 9 #[.pointer (some ⟨sb, 0, none⟩), .string p] w' fun e w'' => GetSaid w' al st M p e w'') := fun hl w' hb sb rb L M o cap h1 h2 h3 h4 p hp => xget_any ⟨h1, h2, hA.below hb, hac⟩ M h3 (by have := hl.n; omega) hl.an (fun x hx => by have := hl.a x hx; omega) hst p hp
  clear hLW hP hz hA ha
  obtain ⟨n, hn⟩ : ∃ n, n = Ll.length := ⟨_, rfl⟩
  obtain ⟨an, han⟩ : ∃ n, n = al.length := ⟨_, rfl⟩
  rw [← hn, ← han] at HB
  rw [← hn] at HS HX
  rw [← han] at HN HN0 HX hac
  rw [← hn, ← han]
  clear hn han
  by_cases hq : q.size ≤ 60
  · have hq' : ¬ (60 : Int) < q.size := by omega
    go_enter Tryz.func3, Tryz.ntmps3
    go_wp2_with fail
    go_at_call 4
    refine hal.mono ?_
    rintro e w1 ⟨rfl, hb1⟩
    clear hal
    go_wp2_with fail
    go_at_call 5
    refine (HB.out w1 hb1).mono ?_
    rintro e w2 ⟨b, rfl, hsm, hb2⟩
    have hb2 := hb1.trans (hb2.mono hb1.size)
    clear HB hb1
    cases b with
    | true =>
      clear hsm
      go_wp2
      go_ret
      exact ⟨rfl, hb2⟩
    | false =>
      have hsb := hsm rfl
      clear hsm
      go_wp2_with fail
      go_at_call 6
      refine (HS.out hsb w2 hb2).mono ?_
      rintro e w3 ⟨vb, rb, rfl, hss⟩
      have hb3 := hb2.trans (hss.below.mono hb2.size)
      obtain ⟨m, M, L, o, cap, q1, q2, q3, q4, q5, q6, q7⟩ := hss.ex
      have hN := HN.out hsb w3 hb3 vb m M q1
      have HL : Hid ((∀ q, look M q = look L q) ∧ L.length ≤ n) := ⟨q4, q6⟩
      have HR : Hid (RIs w3 rb L o cap) := q2
      clear hss q1 q2 q3 q4 q5 q6 q7 HS HN hb2
      go_wp2_with fail
      go_at_call 7
      refine hN.mono ?_
      rintro e w4 ⟨sb, vb2, m2, oa, ca, rfl, hsc, hb4⟩
      have hR4 : Hid (RIs w4 rb L o cap) := HR.out.below hb4
      have hb4 := hb3.trans (hb4.mono hb3.size)
      have hG := HG.out hsb w4 hb4 sb vb2 m2 M oa ca hsc q hq
      clear hN hsc HR hb3
      go_wp2_with fail
      go_at_call 8
      refine hG.mono ?_
      rintro e w5 ⟨rfl, hb5⟩
      have HXX : Hid (∀ w', w' = w5.alloc (.cells #[.pointer (some ⟨rb, 0, none⟩), .slice ao an ac, .int .i64 st, .string ⟨#[]⟩] 36) → Below W.heap.size W w' ∧ Calls Tryz.prog 9 #[.pointer (some ⟨w5.heap.size, 0, none⟩), .string q] w' fun e w'' => GetSaid w' al st M q e w'') := fun w' e => by
        subst e
        have h6 := (Below.refl w5.heap.size w5).alloc (Nat.le_refl _) (.cells #[.pointer (some ⟨rb, 0, none⟩), .slice ao an ac, .int .i64 st, .string ⟨#[]⟩] 36)
        have h5 := hb4.trans (hb5.mono hb4.size)
        have h56 := h5.trans (h6.mono h5.size)
        exact ⟨h56, HX.out hsb _ h56 w5.heap.size rb L M o cap (heap_alloc_new _ _) ((hR4.out.below hb5).below h6) HL.out.1 HL.out.2 q hq⟩
      obtain ⟨w6, hw6⟩ : ∃ w6, w6 = w5.alloc (.cells #[.pointer (some ⟨rb, 0, none⟩), .slice ao an ac, .int .i64 st, .string ⟨#[]⟩] 36) := ⟨_, rfl⟩
      obtain ⟨hb6, hX⟩ := HXX.out w6 hw6
      obtain ⟨a, haa⟩ : ∃ a, a = (getF al st M q).1 := ⟨_, rfl⟩
      obtain ⟨b, hbb⟩ : ∃ b, b = (getF al st M q).2 := ⟨_, rfl⟩
      unfold GetSaid at hX
      rw [← haa, ← hbb] at hX ⊢
      clear haa hbb HXX hG HX hb4 hb5 hR4
      go_wp2_with fail
      rw [← hw6]
      clear hw6
      go_at_call 9
      refine hX.mono ?_
      rintro e w7 ⟨rfl, hb7⟩
      have hb7 := hb6.trans (hb7.mono hb6.size)
      have hN0 := HN0.out hsb w7 hb7
      clear hX HN0 hb6
      go_wp2_with fail
      go_at_call 7
      refine hN0.mono ?_
      rintro e w8 ⟨sb2, vb3, m3, oa3, ca3, rfl, hsc, hb8⟩
      have hb8 := hb7.trans (hb8.mono hb7.size)
      have hG := HG.out hsb w8 hb8 sb2 vb3 m3 [] oa3 ca3 hsc nameX (by decide)
      unfold GetSaid at hG
      rw [getF_x] at hG
      have hG : Calls Tryz.prog 8 #[.pointer (some ⟨sb2, 0, none⟩), .string ⟨#[120]⟩] w8 fun e w' => e = .returned (.tuple #[.string ⟨#[]⟩, .bool false]) ∧ Below w8.heap.size w8 w' := hG
      clear hN0 hsc HG hb7
      go_wp2_with fail
      go_at_call 8
      refine hG.mono ?_
      rintro e w9 ⟨rfl, hb9⟩
      have hb9 := hb8.trans (hb9.mono hb8.size)
      have h1 : (a.toList == a.toList) = true := by simp
      clear hG hb8
      cases b
      all_goals
        go_wp2
        go_ret
        exact ⟨rfl, hb9⟩
  · have hq' := bigNo hq
    go_enter Tryz.func3, Tryz.ntmps3
    go_wp2_with fail
    go_at_call 4
    refine hal.mono ?_
    rintro e w1 ⟨rfl, hb1⟩
    clear hal
    go_wp2_with fail
    go_at_call 5
    refine (HB.out w1 hb1).mono ?_
    rintro e w2 ⟨b, rfl, _, hb2⟩
    have hb2 := hb1.trans (hb2.mono hb1.size)
    clear HB
    cases b
    all_goals
      go_wp2
      go_ret
      exact ⟨rfl, hb2⟩
end
end Go.Proofs.YtaikgomojnfimaaGreatDoor
