/-
  test and its bracket, walked.
-/
import Derived.Test.YtnafpdchpddloaaGreatDoorToW
import Derived.Test.YtnafpdchpddloaaGreatDoorXMx16
import Derived.Deep.RegionWith
import Derived.Deep.RegionHeld3
import Derived.RegionTactic
import Derived.WalkKit
import Derived.WalkSpells
import Derived.StillTactics
import Derived.LoopIn
import Derived.RowKit3
import Derived.Below
import Derived.OwnWalk
import Derived.KernelRfl
open Go Go.Mx Go.RowKit
namespace Go.Proofs.YtnafpdchpddloaaGreatDoor
set_option maxRecDepth 100000
noncomputable section
/-! the errno of test -/
theorem cmpE (T : TT) (a op b : ByteArray) : (twoF T a op b).2.1 = 0 ∨ (twoF T a op b).2.1 = 2 := by
  unfold twoF
  repeat' split
  all_goals first | exact .inl rfl | exact .inr rfl
theorem oneE (T : TT) (a b : ByteArray) : (oneF T a b).2 = 0 ∨ (oneF T a b).2 = 2 := by
  unfold oneF
  repeat' split
  all_goals first | exact .inl rfl | exact .inr rfl
theorem notE {x : Bool × Int} (h : x.2 = 0 ∨ x.2 = 2) : (notP x).2 = 0 ∨ (notP x).2 = 2 := h
theorem errF (T : TT) : ∀ l : List ByteArray, (testF T l).2 = 0 ∨ (testF T l).2 = 2
  | [] => .inl (by rw [testF])
  | [s] => .inl (by rw [testF])
  | [a, b] => by
    have h1 : (testF T [b]).2 = 0 ∨ (testF T [b]).2 = 2 := .inl (by rw [testF])
    rw [testF]
    split
    · exact notE h1
    · exact oneE T a b
  | [a, b, c] => by
    have h1 : (testF T [c]).2 = 0 ∨ (testF T [c]).2 = 2 := .inl (by rw [testF])
    have h2 : (testF T [b, c]).2 = 0 ∨ (testF T [b, c]).2 = 2 := by
      rw [testF]
      split
      · exact notE h1
      · exact oneE T b c
    rw [testF]
    split
    · exact cmpE T a b c
    · split
      · exact notE h2
      · exact .inr rfl
  | [a, b, c, d] => by
    have h1 : (testF T [d]).2 = 0 ∨ (testF T [d]).2 = 2 := .inl (by rw [testF])
    have h2 : (testF T [c, d]).2 = 0 ∨ (testF T [c, d]).2 = 2 := by
      rw [testF]
      split
      · exact notE h1
      · exact oneE T c d
    have h3 : (testF T [b, c, d]).2 = 0 ∨ (testF T [b, c, d]).2 = 2 := by
      rw [testF]
      split
      · exact cmpE T b c d
      · split
        · exact notE h2
        · exact .inr rfl
    rw [testF]
    split
    · exact notE h3
    · exact .inr rfl
  | _ :: _ :: _ :: _ :: _ :: _ => .inr (by rw [testF]; all_goals simp)
/-! the walks -/
theorem below_stays {w w' : World} (h : Stays w w') : Below w.heap.size w w' := ⟨h.os, h.tape, h.output, h.size, h.heap⟩
theorem set_same {w : World} {b o : Nat} {v : Value} {arr : Array Value} {ty : TypeId} {fz : Nat × Nat} (hh : w.heap[b]? = some (.cells arr ty fz)) : (w.setCell ⟨b, o, none⟩ v).heap[b]? = some (.cells (arr.setIfInBounds o v) ty fz) := by
  unfold World.setCell
  show (w.heap.modify b _)[b]? = _
  rw [Array.getElem?_modify, if_pos rfl, hh]
  rfl
theorem set_other {w : World} {b o j : Nat} {v : Value} (h : j ≠ b) : (w.setCell ⟨b, o, none⟩ v).heap[j]? = w.heap[j]? := by
  unfold World.setCell
  show (w.heap.modify b _)[j]? = _
  rw [Array.getElem?_modify, if_neg (Ne.symm h)]
theorem set_size {w : World} {b o : Nat} {v : Value} : (w.setCell ⟨b, o, none⟩ v).heap.size = w.heap.size := by
  unfold World.setCell
  show (w.heap.modify b _).size = _
  simp
theorem nf_free {w : World} {b i n : Nat} {arr : Array Value} {ty : TypeId} {fz : Nat × Nat} (hh : w.heap[b]? = some (.cells arr ty fz)) (hf : free n fz) (hi : i < n) : w.frozen? ⟨b, i, none⟩ = false := by
  have h1 := hf i hi
  unfold World.frozen?
  simp only [hh]
  cases e1 : decide (fz.1 ≤ i) with
  | false => rfl
  | true =>
    rw [Bool.true_and]
    exact decide_eq_false fun h2 => h1 ⟨of_decide_eq_true e1, .inl h2⟩
/-- a slice of these texts -/
def ArgV (w : World) (o : Option Addr) (cap : Nat) (l : List ByteArray) : Prop := l = [] ∨ ∃ g off, o = some ⟨g, off, none⟩ ∧ l.length ≤ cap ∧ ArgsAt w g off l
theorem ArgV.below {w w' : World} {o : Option Addr} {cap : Nat} {l : List ByteArray} (h : ArgV w o cap l) (hb : Below w.heap.size w w') : ArgV w' o cap l := by
  rcases h with h | ⟨g, off, h1, h2, h3⟩
  · exact .inl h
  · exact .inr ⟨g, off, h1, h2, h3.below hb⟩
/-- a utility at its beginning -/
def uArr (fb fo : Nat) (nm : ByteArray) (o : Option Addr) (n cap : Nat) (S : Value) : Array Value := #[.pointer (some ⟨fb, fo, none⟩), .string slB, .string nm, .slice o n cap, .slice none 0 0, S, .slice none 0 0, .slice none 0 0]
theorem cell_u {w : World} {b i : Nat} {a : Array Value} {ty : TypeId} {fz : Nat × Nat} (hh : w.heap[b]? = some (.cells a ty fz)) : w.cell? ⟨b, i, none⟩ = a[i]? := by
  unfold World.cell?
  simp [hh]
set_option maxHeartbeats 800000 in
theorem truth_any (b : Bool) {w : World} {ub : Nat} {arr : Array Value} {fz : Nat × Nat} (hh : w.heap[ub]? = some (.cells arr 52 fz)) (hf : free 8 fz) {k : Int} (h5 : arr[5]? = some (.int .i64 k)) :
    Calls Tryz.prog 61 #[.pointer (some ⟨ub, 0, none⟩), .bool b] w fun e w' => e = .returned (.tuple #[]) ∧ w' = if b = true then w else w.setCell ⟨ub, 5, none⟩ (.int .i64 1) := by
  have hc : w.cell? ⟨ub, 5, none⟩ = some (.int .i64 k) := by rw [cell_u hh]; exact h5
  have hn : w.frozen? ⟨ub, 5, none⟩ = false := nf_free hh hf (by omega)
  clear hh h5
  cases b with
  | true =>
    go_enter Tryz.func61, Tryz.ntmps61
    go_wp2
    go_end0
    exact ⟨rfl, by simp⟩
  | false =>
    go_enter Tryz.func61, Tryz.ntmps61
    go_wp2
    go_end0
    exact ⟨rfl, by simp⟩
/-- a utility's end behind a change of its status alone -/
theorem uend_of {w w1 w2 : World} {ub : Nat} {s : Int} {txt : List Nat} (hb : Below w.heap.size w w1) (hs : w1.heap.size ≤ w2.heap.size) (ho : w2.os = w1.os) (ht : w2.tape = w1.tape) (hout : w2.output = w1.output) (hk : ∀ b, b < w1.heap.size → b ≠ ub → w2.heap[b]? = w1.heap[b]?)
    (he : ∃ arr fz lg, w2.heap[ub]? = some (.cells arr 52 fz) ∧ arr.size = 8 ∧ free 8 fz ∧ arr[5]? = some (.int .i64 s) ∧ arr[6]? = some (.slice none 0 0) ∧ arr[7]? = some lg ∧ LogIs w2 lg txt) : UEnd w w2 ub s txt :=
  ⟨Nat.le_trans hb.size hs, ho.trans hb.os, ht.trans hb.tape, hout.trans hb.output, fun b h1 h2 => (hk b (Nat.lt_of_lt_of_le h1 hb.size) h2).trans (hb.block b h1), he⟩
def stF (x : Bool × Int) : Int := if x.2 = 2 then 2 else if x.1 = true then 0 else 1
def logF (x : Bool × Int) (log : List Nat) : List Nat := if x.2 = 2 then log else []
/-- what a complaint of this name does -/
def BadSaid (nm : ByteArray) (txt : List Nat) : Prop := ∀ (w : World) (ub : Nat) (F C A I S : Value) (fz : Nat × Nat), w.heap[ub]? = some (.cells #[F, C, .string nm, A, I, S, .slice none 0 0, .slice none 0 0] 52 fz) → free 8 fz →
  Calls Tryz.prog 62 #[.pointer (some ⟨ub, 0, none⟩), .string ⟨#[]⟩, .int .i64 2] w fun e w' => (∃ v, e = .returned v) ∧ UEnd w w' ub 2 txt
theorem badS : BadSaid ⟨#[91]⟩ logS := fun _ _ _ _ _ _ _ _ hh hf => bad_gen [91] logS (by decide) (by decide) runBadS (by exact hh) hf
theorem badT : BadSaid ⟨#[116, 101, 115, 116]⟩ logT := fun _ _ _ _ _ _ _ _ hh hf => bad_gen [116, 101, 115, 116] logT (by decide) (by decide) runBadT (by exact hh) hf
set_option maxHeartbeats 1600000 in
set_option maxRecDepth 100000 in
theorem tool_test {nm : ByteArray} {txt : List Nat} (hbad : BadSaid nm txt) {w : World} {ub fb fo : Nat} {T : TT} {l : List ByteArray} {o : Option Addr} {cap : Nat} {k : Int} {fz : Nat × Nat} (hE : EnvD w fb fo T) (hs : ∀ s ∈ l, s.size ≤ 1100000) (hl2 : l.length ≤ 2000000) (hA : ArgV w o cap l)
    (hh : w.heap[ub]? = some (.cells (uArr fb fo nm o l.length cap (.int .i64 k)) 52 fz)) (hf : free 8 fz) (hk : k = 0) :
    Calls Tryz.prog 30 #[.pointer (some ⟨ub, 0, none⟩)] w fun e w' => e = .returned (.tuple #[]) ∧ UEnd w w' ub (stF (testF T l)) (logF (testF T l) txt) := by
  have HB : Hid (BadSaid nm txt) := hbad
  have hlt : ub < w.heap.size := (Array.getElem?_eq_some_iff.1 hh).1
  have c0 : w.cell? ⟨ub, 0, none⟩ = some (.pointer (some ⟨fb, fo, none⟩)) := by rw [cell_u hh]; rfl
  have c1 : w.cell? ⟨ub, 1, none⟩ = some (.string slB) := by rw [cell_u hh]; rfl
  have c3 : w.cell? ⟨ub, 3, none⟩ = some (.slice o l.length cap) := by rw [cell_u hh]; rfl
  have HT : Hid (∀ w', Below w.heap.size w w' → Calls Tryz.prog 60 #[.pointer (some ⟨fb, fo, none⟩), .string slB, .slice o l.length cap] w' fun e w'' => e = .returned (.tuple #[.bool (testF T l).1, .int .i64 (testF T l).2]) ∧ Below w'.heap.size w' w'') := fun w' hb => Test_any (hE.below hb) l hs hl2 o cap (hA.below hb)
  have he := errF T l
  have HH : Hid (∀ w', Below w.heap.size w w' → w'.heap[ub]? = some (.cells (uArr fb fo nm o l.length cap (.int .i64 k)) 52 fz)) := fun w' hb => (hb.block ub hlt).trans hh
  generalize testF T l = x at HT he
  obtain ⟨x1, x2⟩ := x
  simp only at HT he
  clear hE hs hA hh hbad
  generalize l.length = n at c3 HT HH
  go_enter Tryz.func30, Tryz.ntmps30
  go_wp2_with fail
  go_region_held3 (fun w' => w'.cell? ⟨ub, 0, none⟩ = some (.pointer (some ⟨fb, fo, none⟩)) ∧ w'.cell? ⟨ub, 1, none⟩ = some (.string slB) ∧ w'.cell? ⟨ub, 3, none⟩ = some (.slice o n cap))
    (first | exact ⟨c0, c1, c3⟩ | exact ⟨g0, g1, g3⟩)
    (first
      | (go_at_call 60; refine (HT.out _ ?_).mono ?_; (first | exact Below.refl _ _ | exact Below.drew (Below.refl _ _)); rintro e w2 ⟨rfl, hb2⟩; have g0 := (hb2.cell (by exact hlt)).trans c0; have g1 := (hb2.cell (by exact hlt)).trans c1; have g3 := (hb2.cell (by exact hlt)).trans c3))
  all_goals
    have hbw : Below w.heap.size w w2 := (Below.drew (Below.refl w.heap.size w)).trans hb2
    have hh2 := HH.out w2 hbw
    clear HT HH hb2 c0 c1 c3 g0 g1 g3
    go_wp2_with fail
    go_at_call 61
    refine (truth_any x1 hh2 hf rfl).mono ?_
    rintro e w3 ⟨rfl, hw3⟩
    have hu3 : ∃ S, w3.heap[ub]? = some (.cells (uArr fb fo nm o n cap S) 52 fz) ∧ (x1 = true → S = .int .i64 k) ∧ (x1 ≠ true → S = .int .i64 1) := by
      rw [hw3]
      by_cases hx : x1 = true
      · rw [if_pos hx]
        exact ⟨_, hh2, fun _ => rfl, fun h => absurd hx h⟩
      · rw [if_neg hx]
        exact ⟨_, set_same hh2, fun h => absurd h hx, fun _ => rfl⟩
    have hk3 : w3.heap.size = w2.heap.size ∧ w3.os = w2.os ∧ w3.tape = w2.tape ∧ w3.output = w2.output ∧ ∀ b, b ≠ ub → w3.heap[b]? = w2.heap[b]? := by
      rw [hw3]
      by_cases hx : x1 = true
      · rw [if_pos hx]
        exact ⟨rfl, rfl, rfl, rfl, fun _ _ => rfl⟩
      · rw [if_neg hx]
        exact ⟨set_size, rfl, rfl, rfl, fun b h => set_other h⟩
    obtain ⟨S, hh3, hS1, hS2⟩ := hu3
    obtain ⟨k1, k2, k3, k4, k5⟩ := hk3
    clear hw3 hh2
    have HH3 : Hid (w3.heap[ub]? = some (.cells (uArr fb fo nm o n cap S) 52 fz)) := hh3
    clear hh3
    rcases he with rfl | rfl
    · go_wp2
      go_end0
      refine ⟨rfl, uend_of hbw (Nat.le_of_eq k1.symm) k2 k3 k4 (fun b _ hne => k5 b hne) ⟨_, fz, _, HH3.out, rfl, hf, ?_, rfl, rfl, .inl ⟨rfl, rfl⟩⟩⟩
      show some S = _
      by_cases hx : x1 = true
      · rw [hS1 hx, hk]
        simp [stF, hx]
      · rw [hS2 hx]
        simp [stF, hx]
    · go_wp2_with fail
      go_at_call 62
      refine (HB.out _ _ _ _ _ _ _ _ HH3.out hf).mono ?_
      rintro e w4 ⟨⟨v4, rfl⟩, hu4⟩
      go_wp2
      go_end0
      exact ⟨rfl, uend_of hbw (by rw [← k1]; exact hu4.size) (hu4.os.trans k2) (hu4.tape.trans k3) (hu4.output.trans k4) (fun b h hne => (hu4.kept b (by rw [k1]; exact h) hne).trans (k5 b hne)) hu4.ends⟩
set_option maxHeartbeats 1600000 in
set_option maxRecDepth 100000 in
theorem tool_brk_good {w : World} {ub fb fo g off : Nat} {T : TT} {l : List ByteArray} {cap : Nat} {fz : Nat × Nat} (hs : ∀ s ∈ l, s.size ≤ 1100000) (hl2 : l.length ≤ 100) (hcap : l.length + 1 ≤ cap) (hA : ArgsAt w g off l) (hlast : w.cell? ⟨g, off + l.length, none⟩ = some (.string ⟨#[93]⟩))
    (hh : w.heap[ub]? = some (.cells (uArr fb fo ⟨#[91]⟩ (some ⟨g, off, none⟩) (l.length + 1) cap (.int .i64 0)) 52 fz)) (hf : free 8 fz) (hne : g ≠ ub) (hT : EnvD (w.setCell ⟨ub, 3, none⟩ (.slice (some ⟨g, off, none⟩) l.length cap)) fb fo T) :
    Calls Tryz.prog 31 #[.pointer (some ⟨ub, 0, none⟩)] w fun e w' => e = .returned (.tuple #[]) ∧ UEnd w w' ub (stF (testF T l)) (logF (testF T l) logS) := by
  have c3 : w.cell? ⟨ub, 3, none⟩ = some (.slice (some ⟨g, off, none⟩) (l.length + 1) cap) := by rw [cell_u hh]; rfl
  have n3 : w.frozen? ⟨ub, 3, none⟩ = false := nf_free hh hf (by omega)
  have HQ : Hid (Calls Tryz.prog 30 #[.pointer (some ⟨ub, 0, none⟩)] (w.setCell ⟨ub, 3, none⟩ (.slice (some ⟨g, off, none⟩) l.length cap)) fun e w' => e = .returned (.tuple #[]) ∧ UEnd (w.setCell ⟨ub, 3, none⟩ (.slice (some ⟨g, off, none⟩) l.length cap)) w' ub (stF (testF T l)) (logF (testF T l) logS)) :=
    tool_test badS hT hs (by omega) (.inr ⟨g, off, rfl, by omega, ⟨by rw [set_size]; exact hA.lt, fun k hk => by
      have := hA.cells k hk
      unfold World.cell? at this ⊢
      rw [set_other (by exact hne)]
      exact this⟩⟩) (set_same hh) hf rfl
  clear hs hA hT hh
  generalize stF (testF T l) = s at HQ
  generalize logF (testF T l) logS = txt at HQ
  generalize l.length = n at *
  go_enter Tryz.func31, Tryz.ntmps31
  go_wp2_with fail
  go_at_call 30
  refine HQ.out.mono ?_
  rintro e w2 ⟨rfl, hu⟩
  go_wp2
  go_end0
  exact ⟨rfl, by have := hu.size; rw [set_size] at this; exact this, hu.os, hu.tape, hu.output, fun b h hb => (hu.kept b (by rw [set_size]; exact h) hb).trans (set_other hb), hu.ends⟩
set_option maxHeartbeats 1600000 in
set_option maxRecDepth 100000 in
theorem tool_brk_bad {w : World} {ub fb fo g off n : Nat} {cap : Nat} {fz : Nat × Nat} (hl2 : n ≤ 100) (_hcap : n + 1 ≤ cap) (hlast : w.cell? ⟨g, off + n, none⟩ = some (.string ⟨#[120]⟩))
    (hh : w.heap[ub]? = some (.cells (uArr fb fo ⟨#[91]⟩ (some ⟨g, off, none⟩) (n + 1) cap (.int .i64 0)) 52 fz)) (hf : free 8 fz) :
    Calls Tryz.prog 31 #[.pointer (some ⟨ub, 0, none⟩)] w fun e w' => e = .returned (.tuple #[]) ∧ UEnd w w' ub 2 logS := by
  have c3 : w.cell? ⟨ub, 3, none⟩ = some (.slice (some ⟨g, off, none⟩) (n + 1) cap) := by rw [cell_u hh]; rfl
  have HB : Hid (Calls Tryz.prog 62 #[.pointer (some ⟨ub, 0, none⟩), .string ⟨#[]⟩, .int .i64 2] w fun e w' => (∃ v, e = .returned v) ∧ UEnd w w' ub 2 logS) := badS _ _ _ _ _ _ _ _ hh hf
  clear hh
  go_enter Tryz.func31, Tryz.ntmps31
  go_wp2_with fail
  go_at_call 62
  refine HB.out.mono ?_
  rintro e w2 ⟨⟨v, rfl⟩, hu⟩
  go_wp2
  (try simp only [Exit.inBlock, Exit.then])
  refine bodyPost_ret (results_none rfl _ _ _) rfl ?_
  exact ⟨rfl, hu⟩
end
end Go.Proofs.YtnafpdchpddloaaGreatDoor
