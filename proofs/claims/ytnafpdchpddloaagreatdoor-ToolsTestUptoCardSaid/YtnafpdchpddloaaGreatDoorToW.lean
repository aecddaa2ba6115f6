/-
  The file system that the law makes, the map of tools and a complaint, by runs.
-/
import Derived.Test.YtnafpdchpddloaaGreatDoorChY
import Derived.Test.YtnafpdchpddloaaGreatDoorHk
import Derived.Test.YtnafpdchpddloaaGreatDoorXMxBB
import Derived.Test.YtnafpdchpddloaaGreatDoorXMxAD
import Derived.Test.YtnafpdchpddloaaGreatDoorXMxQ
import Derived.WalkKit
import Derived.WalkSpells
import Derived.StillTactics
import Derived.LoopIn
import Derived.RowKit3
import Derived.Below
import Derived.OwnWalk
import Derived.KernelRfl
open Go Go.Mx Go.RowKit
namespace Go.Proofs.YtnafpdchpddloaaGreatDoor
set_option maxRecDepth 100000
noncomputable section
/-! the file system that the law makes -/
def R0 : CK := run Tryz.prog 9 (hkL hk0) 100000
theorem r0 : CKok Tryz.prog 9 R0 := run_sound follows nameOK hk0ok 100000
def kEnd (id off : Nat) : KV := fsK id off (fun h es => fileK [47, 97] 120 1 entN h es)
def goWr (id off : Nat) (h : T O) (nx : Nat) : Bool := R0 6 (.cons (.p id off) (.cons (.s [47, 97]) (.cons (.sl nx 0 1 1) (.cons (.b false) .nil)))) (st O.none (.c (.cons (.i .u8 120) .nil) 5 true) nx h) (Nat.succ nx) (kEnd id off) (fun _ _ _ => false)
theorem runNew : R0 5 (.cons (.i .i64 (Int.ofNat 3)) (.cons (.i .i64 (Int.ofNat 10)) .nil)) .leaf 9 (fun y h nx => vP y fun id off => goWr id off h nx) (fun _ _ _ => false) = true := by kernel_rfl
theorem nwBody : ∃ c, Tryz.f5.body = some c := ⟨_, rfl⟩
theorem wrBody : ∃ c, Tryz.f6.body = some c := ⟨_, rfl⟩
/-- a file system stands there, of which the executor knows so much -/
structure FsAt (W w : World) (fb fo : Nat) (go : Nat → Nat → T O → Nat → Bool) : Prop where
  ex : ∃ ρ0 ρ h nx id off, Ext ρ0 (.leaf : T O) W ρ h w ∧ St ρ h nx w ∧ RG 9 ρ ∧ VR ρ (.p id off) (.pointer (some ⟨fb, fo, none⟩)) ∧ go id off h nx = true
theorem new_st (W : World) : Calls Tryz.prog 5 #[.int .i64 3, .int .i64 10] W fun e w => ∃ fb fo, e = .returned (.pointer (some ⟨fb, fo, none⟩)) ∧ FsAt W w fb fo goWr := by
  obtain ⟨c, hb⟩ := nwBody
  obtain ⟨ρ0, s0, g0⟩ := st_leaf (ng := 9) W
  refine (calls_st nameOK r0 (fn := Tryz.f5) (by kernel_rfl) hb s0 g0 (vs := [.int .i64 3, .int .i64 10]) (by simp only [VRs]; exact ⟨_, _, rfl, VRi _ _ _, _, _, rfl, VRi _ _ _, rfl⟩) runNew).mono ?_
  rintro e w ⟨ρ, y, v, h, nx, rfl, hv, s, hk, x⟩
  obtain ⟨id, off, hy, hk2⟩ := vP_spec hk
  rw [hy] at hv
  have hv' := hv
  simp only [VR] at hv'
  obtain ⟨L, _, rfl⟩ := hv'
  exact ⟨_, _, rfl, ⟨ρ0, ρ, h, nx, id, off, x, s, g0.mono x.le, hv, hk2⟩⟩
theorem wr_st {W w : World} {fb fo : Nat} (hm : MaxIs W) (hf : FsAt W w fb fo goWr) : Calls Tryz.prog 6 #[.pointer (some ⟨fb, fo, none⟩), .string ⟨#[47, 97]⟩, .slice (some ⟨w.heap.size, 0, none⟩) 1 1, .bool false] (w.alloc (.cells #[.int .u8 120] 5 (1, 2))) fun e w' => (∃ v, e = .returned v) ∧ Stays W w' ∧ ∃ T, EnvD w' fb fo T := by
  obtain ⟨c, hb⟩ := wrBody
  obtain ⟨ρ0, ρ, h, nx, id, off, x, s, g, hv, hk⟩ := hf.ex
  obtain ⟨s1, x1⟩ := s.alloc (o := .c (.cons (.i .u8 120) .nil) 5 true) (ob := .cells #[.int .u8 120] 5 (1, 2)) (n := 1) ⟨#[.int .u8 120], (1, 2), rfl, rfl, fun _ q hq hc => by have := hc.1; have hq : q < 1 := hq; simp at this; omega, Nat.zero_le _, by
    show CR _ _ [.int .u8 120]
    simp only [CR]
    exact ⟨_, _, rfl, VRi _ _ _, trivial⟩⟩
  have hv1 := hv.mono x1.le
  have hd : VR (upd ρ nx ⟨w.heap.size, 0, 1⟩) (.sl nx 0 1 1) (.slice (some ⟨w.heap.size, 0, none⟩) 1 1) := by
    simp only [VR]
    exact ⟨_, 1, upd_same _ _ _, by omega, by show 0 + 0 + 1 * 1 ≤ 1; omega, rfl⟩
  refine (calls_st nameOK r0 (fn := Tryz.f6) (by kernel_rfl) hb s1 (g.mono x1.le) (args := .cons (.p id off) (.cons (.s [47, 97]) (.cons (.sl nx 0 1 1) (.cons (.b false) .nil)))) (vs := [.pointer (some ⟨fb, fo, none⟩), .string ⟨#[47, 97]⟩, .slice (some ⟨w.heap.size, 0, none⟩) 1 1, .bool false]) ⟨_, _, rfl, hv1, _, _, rfl, ⟨rfl, by decide⟩, _, _, rfl, hd, _, _, rfl, VRb _ _, rfl⟩ hk).mono ?_
  rintro e w' ⟨ρ', y, v, h', nx', rfl, _, s', hk', x'⟩
  have hst := stays_leaf ((x.trans x1).trans x')
  obtain ⟨fb', fo', mb, es, clock, E, h1, h2, h3, h4, h5, h6⟩ := fs_out hk' s' (hv1.mono x'.le)
  obtain ⟨rfl, rfl⟩ : fb' = fb ∧ fo' = fo := by
    injection h1 with h1
    injection h1 with h1
    injection h1 with h1 h7
    exact ⟨h1.symm, h7.symm⟩
  obtain ⟨n1, r1, E1, a, cap, q1, q2, q3, q4, q5, q6, q7⟩ := file_out h6 s' h5
  have p6 := none_out q7 q6
  refine ⟨⟨_, rfl⟩, hst, [(⟨#[47, 97]⟩, (false, (some a, 1, cap), 1))], ⟨⟨⟨h2, mb, es, clock, h3, h4, ?_⟩, ?_⟩, ?_⟩⟩
  · rw [q1, p6]
    simp only [List.map_cons, List.map_nil, q2, q3]
    rfl
  · exact hm.below hm.lt ⟨hst.os, hst.tape, hst.output, hst.size, hst.heap⟩
  · intro k z hz
    unfold findT at hz
    simp only [List.find?] at hz
    split at hz
    · cases hz
      exact .inr ⟨a, [120], rfl, rfl, by show 1 ≤ 1000000; omega, q4, fun i hi => by
        have hi : i < 1 := hi
        have : i = 0 := by omega
        subst this
        exact q5⟩
    · cases hz
/-! a state of which one block is known -/
theorem st_own {W : World} {ub n : Nat} {o : O} {ob : Obj} (hh : W.heap[ub]? = some ob) (ho : ∀ ρ : Ren, ρ 9 = some ⟨ub, 0, n⟩ → OR ρ ⟨ub, 0, n⟩ o ob) :
    ∃ ρ : Ren, St ρ (st O.none o 9 .leaf) (9 + 1) W ∧ RG 9 ρ ∧ ρ 9 = some ⟨ub, 0, n⟩ := by
  obtain ⟨ρ0, s0, g0⟩ := st_leaf (ng := 9) W
  have hf : ρ0 9 = none := s0.fresh 9 (Nat.le_refl _)
  have only : ∀ i, (gt O.none i (st O.none o 9 .leaf)).live → i = 9 := fun i hi => by
    by_cases e : i = 9
    · exact e
    · rw [gt_st_ne _ _ (Ne.symm e), gt_leaf] at hi
      exact hi.elim
  refine ⟨upd ρ0 9 ⟨ub, 0, n⟩, ⟨fun id L hl hL => ?_, fun i j L M hi hj _ _ _ => (only i (O.live_of_wr hi)).trans (only j hj).symm, fun i hi => ?_, fun i hi hl => ?_⟩, g0.mono (upd_le hf), upd_same _ _ _⟩
  · have e := only id hl
    subst e
    rw [gt_st_same]
    rw [upd_same] at hL
    cases hL
    exact ⟨ob, hh, ho _ (upd_same _ _ _)⟩
  · rw [upd_ne _ _ (by omega)]
    exact s0.fresh i (by omega)
  · have := only i hl
    omega
/-! the tools -/
def namesL : List (List Nat × Nat) := [([116, 114, 117, 101], 19), ([102, 97, 108, 115, 101], 20), ([101, 99, 104, 111], 21), ([112, 114, 105, 110, 116, 102], 22), ([99, 97, 116], 23), ([99, 112], 24), ([109, 118], 25), ([114, 109], 26), ([109, 107, 100, 105, 114], 27), ([114, 109, 100, 105, 114], 28), ([116, 111, 117, 99, 104], 29), ([116, 101, 115, 116], 30), ([91], 31), ([99, 97, 108, 99], 32)]
def namesK : List (List Nat × Nat) → E → Bool
  | [], es => entN es
  | (nm, g) :: r, es => Mx.entK es fun x v rr => ite1 (sameV x (.s nm)) <| ite1 (sameV v (.f g .nil)) (namesK r rr)
def namV (x : List Nat × Nat) : Value × Value := (.string (bs x.1), .func (.func x.2) #[] #[])
theorem names_out {ρ : Ren} : ∀ (L : List (List Nat × Nat)) (es : E) (l : List MapEntry), namesK L es = true → ER ρ es l → l.map (fun e => (e.key, e.val)) = L.map namV
  | [], es, l, hk, her => by rw [none_out hk her]; rfl
  | (nm, g) :: r, es, l, hk, her => by
    obtain ⟨x, v, b, rr, hE, hk1⟩ := entK_spec (show Mx.entK es _ = true from hk)
    obtain ⟨e1, hk2⟩ := ite1_spec hk1
    obtain ⟨e2, hk3⟩ := ite1_spec hk2
    have e1' := sameV_eq e1
    have e2' := sameV_eq e2
    rw [hE, e1', e2'] at her
    simp only [ER] at her
    obtain ⟨y, ys, rfl, g1, g2, _, g4⟩ := her
    simp only [VR] at g1
    simp only [VR, VRs] at g2
    obtain ⟨vs, rfl, gv⟩ := g2
    rw [List.map_cons, List.map_cons, names_out r rr ys hk3 g4, g1.1, gv]
    rfl
def allK : KV := fun y h _ => vM y fun id => oM (gt O.none id h) fun es _ => namesK namesL es
theorem runAll : R0 14 .nil .leaf 9 allK (fun _ _ _ => false) = true := by kernel_rfl
theorem aaBody : ∃ c, Tryz.f14.body = some c := ⟨_, rfl⟩
theorem t_tM : Tryz.prog.underlying 48 = some (.map 9 46) := by kernel_rfl
theorem find_nam {k : ByteArray} : ∀ (L : List (List Nat × Nat)) (es : List MapEntry) (i : Nat), es.map (fun e => (e.key, e.val)) = L.map namV → ∃ r, Instr.findNow .string (.string k) es i = some r ∧ r.map (·.2) = (L.find? fun x => k == bs x.1).map fun x => .func (.func x.2) #[] #[]
  | [], [], _, _ => ⟨none, rfl, rfl⟩
  | [], _ :: _, _, h => by cases h
  | _ :: _, [], _, h => by cases h
  | x :: L, e :: es, i, h => by
    simp only [List.map_cons, List.cons.injEq] at h
    obtain ⟨h1, h2⟩ := h
    have hk : e.key = .string (bs x.1) := congrArg Prod.fst h1
    have hv : e.val = .func (.func x.2) #[] #[] := congrArg Prod.snd h1
    unfold Instr.findNow
    rw [hk]
    simp only [Instr.sameNow]
    cases hc : k == bs x.1 with
    | true =>
      refine ⟨some (i, e.val), rfl, ?_⟩
      simp [hc, hv]
    | false =>
      obtain ⟨r, g1, g2⟩ := find_nam L es (i + 1) h2
      refine ⟨r, g1, ?_⟩
      rw [g2]
      simp [hc]
/-- the tools' map, and what a name finds in it -/
theorem all_st (W : World) : Calls Tryz.prog 14 #[] W fun e w => ∃ mb, e = .returned (.map (some mb)) ∧ Below W.heap.size W w ∧
    ∀ (k : ByteArray) (g : Nat), ((namesL.find? fun x => k == bs x.1).map fun x => Value.func (.func x.2) #[] #[]) = some (.func (.func g) #[] #[]) → (Instr.lookup 48 (.map (some mb)) (.string k) true).run Tryz.prog w = .ok (.tuple #[.func (.func g) #[] #[], .bool true]) w := by
  obtain ⟨c, hb⟩ := aaBody
  obtain ⟨ρ0, s0, g0⟩ := st_leaf (ng := 9) W
  refine (calls_st nameOK r0 (fn := Tryz.f14) (by kernel_rfl) hb s0 g0 (vs := []) (by simp only [VRs]) runAll).mono ?_
  rintro e w ⟨ρ, y, v, h, nx, rfl, hv, s, hk, x⟩
  have hst := stays_leaf x
  obtain ⟨mid, hy, hk2⟩ := vM_spec (show vM y _ = true from hk)
  obtain ⟨E, cl, hoM, hk3⟩ := oM_spec hk2
  rw [hy] at hv
  obtain ⟨M, es, hM, rfl, hhm, her⟩ := s.map hoM hv
  have hL := names_out _ _ _ hk3 her
  refine ⟨M.blk, rfl, ⟨hst.os, hst.tape, hst.output, hst.size, hst.heap⟩, fun k g hg => ?_⟩
  obtain ⟨r, g1, g2⟩ := find_nam (k := k) namesL es.toList 0 hL
  rw [hg] at g2
  have hck : ∀ b, (Instr.checkKey b 10000 9 (.string k)).run Tryz.prog w = .ok () w := fun b => by
    unfold Instr.checkKey
    simp only [Sem.run_bind, Mx.run_und v_tS, Result.andThen_ok, Sem.run_pure]
  have hfk := Mx.findKey_of (P := Tryz.prog) (w := w) v_tS g1
  cases r with
  | none => cases g2
  | some q =>
    have hq : q.2 = .func (.func g) #[] #[] := Option.some.inj g2
    rw [← hq]
    simp only [Instr.lookup, Sem.run_bind, Mx.run_und t_tM, Result.andThen_ok, Mx.run_getMap hhm, Sem.run_pure, hck, hfk]
    rfl
/-! bad, by runs -/
def vSlN (v : V) (k : Nat → Nat → Nat → Bool) : Bool := match v with
  | .sl id off ln _ => k id off ln
  | _ => false
theorem vSlN_spec {v : V} {k : Nat → Nat → Nat → Bool} (h : vSlN v k = true) : ∃ id off ln sz, v = .sl id off ln sz ∧ k id off ln = true := by
  cases v <;> first | exact Bool.noConfusion h | exact ⟨_, _, _, _, rfl, h⟩
def bytesK : List Nat → V → Nat → Bool
  | [], _, _ => true
  | b :: r, c, off => nthK c off fun y => ite1 (sameV y (.i .u8 (Int.ofNat b))) (bytesK r c (off + 1))
theorem bytes_out {ρ : Ren} {c : V} {vs : List Value} (hc : CR ρ c vs) : ∀ (txt : List Nat) (off : Nat), bytesK txt c off = true → ∀ i (h : i < txt.length), vs[off + i]? = some (.int .u8 (txt[i] : Int))
  | [], _, _, i, h => absurd h (Nat.not_lt_zero _)
  | b :: r, off, hk, i, h => by
    obtain ⟨y, hk1, hy⟩ := nthK_spec (show nthK c off _ = true from hk)
    obtain ⟨e1, hk2⟩ := ite1_spec hk1
    have e1' := sameV_eq e1
    cases i with
    | zero =>
      obtain ⟨yv, h8, h9⟩ := hy ρ _ hc
      rw [e1'] at h9
      simp only [VR] at h9
      subst h9
      exact h8
    | succ i =>
      have := bytes_out hc r (off + 1) hk2 i (by simpa using h)
      rw [show off + (i + 1) = off + 1 + i by omega]
      exact this
def uO (nm : List Nat) : O := .c (.cons .nil (.cons .nil (.cons (.s nm) (.cons .nil (.cons .nil (.cons .nil (.cons .sn (.cons .sn .nil)))))))) 52 true
def badK (txt : List Nat) : KV := fun _ h _ => oC (gt O.none 9 h) fun l ty wr => ite1 wr <| ite1 (Nat.beq ty 52) <| nthK l 5 fun a => ite1 (sameV a (.i .i64 (Int.ofNat 2))) <| nthK l 6 fun b => ite1 (sameV b .sn) <| nthK l 7 fun c => vSlN c fun id off ln => ite1 (Nat.beq ln txt.length) <| oC (gt O.none id h) fun bytes ty _ => ite1 (Nat.beq ty 5) (bytesK txt bytes off)
def logS : List Nat := [91, 58, 32, 58, 32, 101, 114, 114, 111, 114, 32, 50, 10]
def logT : List Nat := [116, 101, 115, 116, 58, 32, 58, 32, 101, 114, 114, 111, 114, 32, 50, 10]
theorem runBadS : R0 62 (.cons (.p 9 0) (.cons (.s []) (.cons (.i .i64 (Int.ofNat 2)) .nil))) (st O.none (uO [91]) 9 .leaf) (9 + 1) (badK logS) (fun _ _ _ => false) = true := by kernel_rfl
theorem runBadT : R0 62 (.cons (.p 9 0) (.cons (.s []) (.cons (.i .i64 (Int.ofNat 2)) .nil))) (st O.none (uO [116, 101, 115, 116]) 9 .leaf) (9 + 1) (badK logT) (fun _ _ _ => false) = true := by kernel_rfl
theorem qdBody : ∃ c, Tryz.f62.body = some c := ⟨_, rfl⟩
/-- what a log reads -/
def LogIs (w : World) (lg : Value) (txt : List Nat) : Prop := (txt = [] ∧ lg = .slice none 0 0) ∨ (txt ≠ [] ∧ ∃ g off cap arr fz, lg = .slice (some ⟨g, off, none⟩) txt.length cap ∧ txt.length ≤ cap ∧ w.heap[g]? = some (.cells arr 5 fz) ∧ ∀ i (_ : i < txt.length), arr[off + i]? = some (.int .u8 (txt[i] : Int)))
/-- a utility at its end -/
structure UEnd (w w' : World) (ub : Nat) (s : Int) (txt : List Nat) : Prop where
  size : w.heap.size ≤ w'.heap.size
  os : w'.os = w.os
  tape : w'.tape = w.tape
  output : w'.output = w.output
  kept : ∀ b, b < w.heap.size → b ≠ ub → w'.heap[b]? = w.heap[b]?
  ends : ∃ arr fz lg, w'.heap[ub]? = some (.cells arr 52 fz) ∧ arr.size = 8 ∧ free 8 fz ∧ arr[5]? = some (.int .i64 s) ∧ arr[6]? = some (.slice none 0 0) ∧ arr[7]? = some lg ∧ LogIs w' lg txt
theorem bad_gen (nm txt : List Nat) (hn : ∀ n ∈ nm, n < 256) (ht : txt ≠ []) (hrun : R0 62 (.cons (.p 9 0) (.cons (.s []) (.cons (.i .i64 (Int.ofNat 2)) .nil))) (st O.none (uO nm) 9 .leaf) (9 + 1) (badK txt) (fun _ _ _ => false) = true)
    {w : World} {ub : Nat} {F C A I S : Value} {fz : Nat × Nat} (hh : w.heap[ub]? = some (.cells #[F, C, .string (bs nm), A, I, S, .slice none 0 0, .slice none 0 0] 52 fz)) (hfz : free 8 fz) :
    Calls Tryz.prog 62 #[.pointer (some ⟨ub, 0, none⟩), .string ⟨#[]⟩, .int .i64 2] w fun e w' => (∃ v, e = .returned v) ∧ UEnd w w' ub 2 txt := by
  obtain ⟨c, hb⟩ := qdBody
  obtain ⟨ρ, s, g, hρ⟩ := st_own (o := uO nm) (n := 8) hh (fun ρ _ => ⟨_, fz, rfl, rfl, fun _ => hfz, Nat.zero_le _, by
    show CR _ _ [F, C, .string (bs nm), A, I, S, .slice none 0 0, .slice none 0 0]
    simp only [CR, VR]
    exact ⟨_, _, rfl, trivial, _, _, rfl, trivial, _, _, rfl, ⟨rfl, hn⟩, _, _, rfl, trivial, _, _, rfl, trivial, _, _, rfl, trivial, _, _, rfl, rfl, _, _, rfl, rfl, trivial⟩⟩)
  have hv : VR ρ (.p 9 0) (.pointer (some ⟨ub, 0, none⟩)) := by
    simp only [VR]
    exact ⟨_, hρ, rfl⟩
  refine (calls_st nameOK r0 (fn := Tryz.f62) (by kernel_rfl) hb s g (args := .cons (.p 9 0) (.cons (.s []) (.cons (.i .i64 (Int.ofNat 2)) .nil))) (vs := [.pointer (some ⟨ub, 0, none⟩), .string ⟨#[]⟩, .int .i64 2]) ⟨_, _, rfl, hv, _, _, rfl, ⟨rfl, by simp⟩, _, _, rfl, VRi _ _ _, rfl⟩ hrun).mono ?_
  rintro e w' ⟨ρ', y, v, h', nx', rfl, _, s', hk, x⟩
  refine ⟨⟨_, rfl⟩, x.size, x.os, x.tape, x.output, fun b hb hne => (x.kept b hb fun id L hw hL => ?_).1, ?_⟩
  · have e : id = 9 := by
      by_cases e : id = 9
      · exact e
      · rw [gt_st_ne _ _ (Ne.symm e), gt_leaf] at hw
        exact hw.elim
    subst e
    rw [hρ] at hL
    cases hL
    exact Ne.symm hne
  · obtain ⟨l, ty, wr, ho, hk1⟩ := oC_spec (show oC (gt O.none 9 h') _ = true from hk)
    obtain ⟨ew, hk1⟩ := ite1_spec hk1
    obtain ⟨e0, hk1⟩ := ite1_spec hk1
    have e0' := Nat.eq_of_beq_eq_true e0
    subst e0'
    obtain ⟨a5, hk2, h5⟩ := nthK_spec hk1
    obtain ⟨e5, hk3⟩ := ite1_spec hk2
    have e5' := sameV_eq e5
    obtain ⟨a6, hk4, h6⟩ := nthK_spec hk3
    obtain ⟨e6, hk5⟩ := ite1_spec hk4
    have e6' := sameV_eq e6
    obtain ⟨a7, hk6, h7⟩ := nthK_spec hk5
    obtain ⟨id, off, ln, sz, e7, hk7⟩ := vSlN_spec hk6
    obtain ⟨e8, hk8⟩ := ite1_spec hk7
    have e8' := Nat.eq_of_beq_eq_true e8
    obtain ⟨c2, ty2, wr2, ho2, hk9⟩ := oC_spec hk8
    obtain ⟨e9, hk10⟩ := ite1_spec hk9
    have e9' := Nat.eq_of_beq_eq_true e9
    subst e9'
    have hρ' := x.le _ _ hρ
    obtain ⟨o, hb2, harr⟩ := s'.relC ho hρ'
    obtain ⟨arr, fz', rfl, z1, z2, _, hcr⟩ := harr
    have hcr : CR ρ' l arr.toList := hcr
    obtain ⟨v5, p5, r5⟩ := h5 ρ' _ hcr
    obtain ⟨v6, p6, r6⟩ := h6 ρ' _ hcr
    obtain ⟨v7, p7, r7⟩ := h7 ρ' _ hcr
    rw [e5'] at r5
    rw [e6'] at r6
    rw [e7, e8'] at r7
    simp only [VR] at r5 r6 r7
    obtain ⟨L, cap, hL, hc1, hc2, rfl⟩ := r7
    obtain ⟨o2, hg, harr2⟩ := s'.relC ho2 hL
    obtain ⟨arr2, fz2, rfl, _, _, _, hcr2⟩ := harr2
    have hbo := bytes_out hcr2 txt off hk10
    rw [Array.getElem?_toList] at p5 p6 p7
    subst r5 r6
    refine ⟨arr, fz', _, hb2, z1, ?_, p5, p6, p7, .inr ⟨ht, L.blk, L.base + off, cap, arr2, fz2, rfl, hc1, hg, fun i hi => ?_⟩⟩
    · exact z2 ew
    · have := hbo i hi
      rw [List.getElem?_drop, Array.getElem?_toList] at this
      rw [show L.base + off + i = L.base + (off + i) by omega]
      exact this
end
end Go.Proofs.YtnafpdchpddloaaGreatDoor
