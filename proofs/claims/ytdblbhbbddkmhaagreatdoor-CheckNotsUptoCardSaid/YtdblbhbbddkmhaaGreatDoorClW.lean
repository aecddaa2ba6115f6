/-
  The file system that the law makes, by runs.
-/
import Derived.Test.YtdblbhbbddkmhaaGreatDoorChY
import Derived.Test.YtdblbhbbddkmhaaGreatDoorHk
import Derived.Test.YtdblbhbbddkmhaaGreatDoorXMxBB
import Derived.Test.YtdblbhbbddkmhaaGreatDoorXMxAD
import Derived.Test.YtdblbhbbddkmhaaGreatDoorXMxQ
import Derived.WalkKit
import Derived.WalkSpells
import Derived.StillTactics
import Derived.LoopIn
import Derived.RowKit3
import Derived.Below
import Derived.OwnWalk
import Derived.KernelRfl
open Go Go.Mx Go.RowKit
namespace Go.Proofs.YtdblbhbbddkmhaaGreatDoor
set_option maxRecDepth 100000
noncomputable section
def R0 : CK := run Tryz.prog 8 (hkL hk0) 100000
theorem r0 : CKok Tryz.prog 8 R0 := run_sound follows nameOK hk0ok 100000
/-- behind Mkdir -/
def kEnd (id off : Nat) : KV := fsK id off (fun h es => fileK [47, 97] 120 1 (dirK [47, 100] 2 entN) h es)
def goMk (id off : Nat) (h : T O) (nx : Nat) : Bool := R0 7 (.cons (.p id off) (.cons (.s [47, 100]) .nil)) h nx (kEnd id off) (fun _ _ _ => false)
def goWr (id off : Nat) (h : T O) (nx : Nat) : Bool := R0 6 (.cons (.p id off) (.cons (.s [47, 97]) (.cons (.sl nx 0 1 1) (.cons (.b false) .nil)))) (st O.none (.c (.cons (.i .u8 120) .nil) 5 true) nx h) (Nat.succ nx) (fun _ h nx => goMk id off h nx) (fun _ _ _ => false)
theorem runNew : R0 5 (.cons (.i .i64 (Int.ofNat 3)) (.cons (.i .i64 (Int.ofNat 10)) .nil)) .leaf 8 (fun y h nx => vP y fun id off => goWr id off h nx) (fun _ _ _ => false) = true := by kernel_rfl
theorem nwBody : ∃ c, Tryz.f5.body = some c := ⟨_, rfl⟩
theorem wrBody : ∃ c, Tryz.f6.body = some c := ⟨_, rfl⟩
theorem mkBody : ∃ c, Tryz.f7.body = some c := ⟨_, rfl⟩
/-- a file system stands there, of which the executor knows so much -/
structure FsAt (W w : World) (fb fo : Nat) (go : Nat → Nat → T O → Nat → Bool) : Prop where
  ex : ∃ ρ0 ρ h nx id off, Ext ρ0 (.leaf : T O) W ρ h w ∧ St ρ h nx w ∧ RG 8 ρ ∧ VR ρ (.p id off) (.pointer (some ⟨fb, fo, none⟩)) ∧ go id off h nx = true
theorem new_st (W : World) : Calls Tryz.prog 5 #[.int .i64 3, .int .i64 10] W fun e w => ∃ fb fo, e = .returned (.pointer (some ⟨fb, fo, none⟩)) ∧ FsAt W w fb fo goWr := by
  obtain ⟨c, hb⟩ := nwBody
  obtain ⟨ρ0, s0, g0⟩ := st_leaf (ng := 8) W
  refine (calls_st nameOK r0 (fn := Tryz.f5) (by kernel_rfl) hb s0 g0 (vs := [.int .i64 3, .int .i64 10]) (by simp only [VRs]; exact ⟨_, _, rfl, VRi _ _ _, _, _, rfl, VRi _ _ _, rfl⟩) runNew).mono ?_
  rintro e w ⟨ρ, y, v, h, nx, rfl, hv, s, hk, x⟩
  obtain ⟨id, off, hy, hk2⟩ := vP_spec hk
  rw [hy] at hv
  have hv' := hv
  simp only [VR] at hv'
  obtain ⟨L, _, rfl⟩ := hv'
  exact ⟨_, _, rfl, ⟨ρ0, ρ, h, nx, id, off, x, s, g0.mono x.le, hv, hk2⟩⟩
theorem wr_st {W w : World} {fb fo : Nat} (hf : FsAt W w fb fo goWr) : Calls Tryz.prog 6 #[.pointer (some ⟨fb, fo, none⟩), .string ⟨#[47, 97]⟩, .slice (some ⟨w.heap.size, 0, none⟩) 1 1, .bool false] (w.alloc (.cells #[.int .u8 120] 5 (1, 2))) fun e w' => (∃ v, e = .returned v) ∧ FsAt W w' fb fo goMk := by
  obtain ⟨c, hb⟩ := wrBody
  obtain ⟨ρ0, ρ, h, nx, id, off, x, s, g, hv, hk⟩ := hf.ex
  obtain ⟨s1, x1⟩ := s.alloc (o := .c (.cons (.i .u8 120) .nil) 5 true) (ob := .cells #[.int .u8 120] 5 (1, 2)) (n := 1) ⟨#[.int .u8 120], (1, 2), rfl, rfl, fun _ q hq hc => by have := hc.1; have hq : q < 1 := hq; simp at this; omega, Nat.zero_le _, by
    show CR _ _ [.int .u8 120]
    simp only [CR]
    exact ⟨_, _, rfl, VRi _ _ _, trivial⟩⟩
  have hv1 := hv.mono x1.le
  have hd : VR (upd ρ nx ⟨w.heap.size, 0, 1⟩) (.sl nx 0 1 1) (.slice (some ⟨w.heap.size, 0, none⟩) 1 1) := by
    simp only [VR]
    exact ⟨_, 1, upd_same _ _ _, by omega, by show 0 + 0 + 1 * 1 ≤ 1; omega, rfl⟩
  refine (calls_st nameOK r0 (fn := Tryz.f6) (by kernel_rfl) hb s1 (g.mono x1.le) (args := .cons (.p id off) (.cons (.s [47, 97]) (.cons (.sl nx 0 1 1) (.cons (.b false) .nil)))) (vs := [.pointer (some ⟨fb, fo, none⟩), .string ⟨#[47, 97]⟩, .slice (some ⟨w.heap.size, 0, none⟩) 1 1, .bool false]) ⟨_, _, rfl, hv1, _, _, rfl, ⟨rfl, by decide⟩, _, _, rfl, hd, _, _, rfl, VRb _ _, rfl⟩ hk).mono ?_
  rintro e w' ⟨ρ', y, v, h', nx', rfl, _, s', hk', x'⟩
  exact ⟨⟨_, rfl⟩, ⟨ρ0, ρ', h', nx', id, off, (x.trans x1).trans x', s', (g.mono x1.le).mono x'.le, hv1.mono x'.le, hk'⟩⟩
theorem mk_st {W w : World} {fb fo : Nat} (hm : MaxIs W) (hf : FsAt W w fb fo goMk) : Calls Tryz.prog 7 #[.pointer (some ⟨fb, fo, none⟩), .string ⟨#[47, 100]⟩] w fun e w' => (∃ v, e = .returned v) ∧ Stays W w' ∧ ∃ T, EnvD w' fb fo T := by
  obtain ⟨c, hb⟩ := mkBody
  obtain ⟨ρ0, ρ, h, nx, id, off, x, s, g, hv, hk⟩ := hf.ex
  refine (calls_st nameOK r0 (fn := Tryz.f7) (by kernel_rfl) hb s g (args := .cons (.p id off) (.cons (.s [47, 100]) .nil)) (vs := [.pointer (some ⟨fb, fo, none⟩), .string ⟨#[47, 100]⟩]) ⟨_, _, rfl, hv, _, _, rfl, ⟨rfl, by decide⟩, rfl⟩ hk).mono ?_
  rintro e w' ⟨ρ', y, v, h', nx', rfl, _, s', hk', x'⟩
  have hst := stays_leaf (x.trans x')
  obtain ⟨fb', fo', mb, es, clock, E, h1, h2, h3, h4, h5, h6⟩ := fs_out hk' s' (hv.mono x'.le)
  obtain ⟨rfl, rfl⟩ : fb' = fb ∧ fo' = fo := by
    injection h1 with h1
    injection h1 with h1
    injection h1 with h1 h7
    exact ⟨h1.symm, h7.symm⟩
  obtain ⟨n1, r1, E1, a, cap, q1, q2, q3, q4, q5, q6, q7⟩ := file_out h6 s' h5
  obtain ⟨n2, r2, E2, p1, p2, p3, p4, p5⟩ := dir_out q7 q6
  have p6 := none_out p5 p4
  refine ⟨⟨_, rfl⟩, hst, [(⟨#[47, 97]⟩, (false, (some a, 1, cap), 1)), (⟨#[47, 100]⟩, (true, (none, 0, 0), 2))], ⟨⟨⟨h2, mb, es, clock, h3, h4, ?_⟩, ?_⟩, ?_⟩⟩
  · rw [q1, p1, p6]
    simp only [List.map_cons, List.map_nil, q2, q3, p2, p3]
    rfl
  · exact hm.below hm.lt ⟨hst.os, hst.tape, hst.output, hst.size, hst.heap⟩
  · intro k z hz
    unfold findT at hz
    simp only [List.find?] at hz
    split at hz
    · cases hz
      exact .inr ⟨a, [120], rfl, rfl, by show 1 ≤ 1000000; omega, q4, fun i hi => by
        have hi : i < 1 := hi
        have : i = 0 := by omega
        subst this
        exact q5⟩
    · split at hz
      · cases hz
        exact .inl ⟨rfl, rfl, rfl⟩
      · cases hz
end
end Go.Proofs.YtdblbhbbddkmhaaGreatDoor
