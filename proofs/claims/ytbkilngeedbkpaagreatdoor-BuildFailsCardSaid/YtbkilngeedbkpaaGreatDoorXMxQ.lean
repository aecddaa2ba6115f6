/-
  A part of a small executor of the model, proved sound (19 of 33). No condition.
-/
import Derived.Test.YtbkilngeedbkpaaGreatDoorXMxK
namespace Go.Mx
noncomputable section
variable {P : Program} {ρ : Ren} {h : T O} {nx : Nat} {w : World} {ng : Nat}
def cloneK (x : V) (h : T O) (nx : Nat) (K : KV) : Bool := match x with
  | .e t (.m id) => oM (gt O.none id h) fun es clock => newO (.mp es clock) h nx fun id' h' nx' => K (.e t (.m id')) h' nx'
  | _ => false
def hkMapClone : HookF := fun args h nx K => arg0 args fun x r => chain (cloneK x h nx K) (fun _ _ _ => false) r
theorem run_mapClone {t : TypeId} {r : Nat} {es : Array MapEntry} {clock : Nat} (hb : w.heap[r]? = some (.map es clock)) :
    (Extern.MapsClone.clone #[.iface t (.map (some r))]).run P w = .ok (.iface t (.map (some w.heap.size))) (w.alloc (.map es clock)) := by
  have e : Extern.MapsClone.clone #[.iface t (.map (some r))] = (getObj r >>= fun o => match o with
      | .map entries clock => (newObj (.map entries clock) >>= fun n => pure (.iface t (.map (some n))))
      | _ => stuck "maps.clone: a map expected") := rfl
  have g : (getObj r).run P w = .ok (.map es clock) w := by simp [getObj, Sem.run, hb]
  rw [e]
  simp [g, Result.andThen]
theorem hkMapClone_ok {g : Nat} {fn : Func} (hf : P.funcs[g]? = some fn) (hname : (fn.name == "runtime.NumGoroutine") = false) (hb : fn.body.isNone = true) (hn : Extern.findNext fn = none) (he : Extern.find fn = some Extern.MapsClone.clone) : HookOk P ng g hkMapClone := by
  intro args h nx K Kp hk ρ w vs s _ hv
  obtain ⟨x, r, rfl, hk2⟩ := arg0_spec (show arg0 args (fun x r => chain (cloneK x h nx K) (fun _ _ _ => false) r) = true from hk)
  simp only [VRs] at hv
  obtain ⟨v1, l1, rfl, h1, h2⟩ := hv
  cases r <;> first | (simp only [VRs] at h2; done) | exact Bool.noConfusion hk2 | skip
  simp only [VRs] at h2
  subst h2
  have hk3 : cloneK x h nx K = true := hk2
  unfold cloneK at hk3
  split at hk3
  · rename_i t id
    obtain ⟨es, clock, ho, hk4⟩ := oM_spec hk3
    simp only [VR] at h1
    obtain ⟨y, hy, rfl⟩ := h1
    obtain ⟨L, es', hL, rfl, hh, her⟩ := s.map ho (by simpa only [VR] using hy)
    obtain ⟨h', g1, g2, g3⟩ := newO_sound (ob := .map es' clock) (K := fun id' h' nx' => K (.e t (.m id')) h' nx') hk4 s fun ρ' hle => ⟨es', rfl, her.mono hle⟩
    refine UponOK.val (upon_extern hf hname hb hn he (run_mapClone hh)) ?_ g2 g3 g1
    simp only [VR]
    exact ⟨_, ⟨_, upd_same _ _ _, rfl⟩, rfl⟩
  · cases hk3
theorem St.atom (s : St ρ h nx w) (L : Loc) : St (upd ρ nx L) h (nx + 1) w ∧ Ext ρ h w (upd ρ nx L) h w := by
  have ne : ∀ {id}, (gt O.none id h).live → id ≠ nx := fun hl e => s.dead _ (Nat.le_of_eq e.symm) hl
  refine ⟨⟨fun id M hi hM => ?_, fun i j M N hi hj hM hN => ?_, fun i hi => ?_, fun i hi => s.dead i (by omega)⟩, ⟨upd_le (s.fresh nx (Nat.le_refl _)), Nat.le_refl _, rfl, rfl, rfl, fun b _ k => ⟨rfl, fun id M hi hM => ?_⟩, fun id hl hn => ⟨?_, rfl⟩⟩⟩
  · rw [upd_ne _ _ (ne hi)] at hM
    obtain ⟨o, h1, h2⟩ := s.rel id M hi hM
    exact ⟨o, h1, h2.mono (upd_le (s.fresh nx (Nat.le_refl _)))⟩
  · rw [upd_ne _ _ (ne (O.live_of_wr hi))] at hM
    rw [upd_ne _ _ (ne hj)] at hN
    exact s.inj i j M N hi hj hM hN
  · rw [upd_ne _ _ (by omega)]
    exact s.fresh i (by omega)
  · rw [upd_ne _ _ (ne (O.live_of_wr hi))] at hM
    exact k id M hi hM
  · rw [upd_ne _ _ (ne hl)]
    exact hn
def freeV (i : Nat) : V := .x i .u64 0 18446744073709551615
def single4 (x : V) (nx : Nat) : V := .a (.cons (.b false) (.cons (freeV nx) (.cons (freeV (nx + 1)) (.cons (freeV (nx + 2)) (.cons (freeV (nx + 3)) (.cons (.b true) (.cons x (.cons (.b false) .nil))))))))
def hkSingle2 : HookF := fun args h nx K => arg0 args fun x r => chain (rngK x fun kd _ hi _ => ite1 (keq kd .u8) <| ite1 (Nat.ble hi 255) <| K (single4 x nx) h (nx + 4)) (fun _ _ _ => false) r
def isU64 (v : V) : Bool := vI v fun k m => ite1 (keq k .u64) <| Int.rec (motive := fun _ => Bool) (fun n => Nat.ble n 18446744073709551615) (fun _ => false) m
theorem isU64_spec {v : V} (h : isU64 v = true) : ∃ n : Nat, v = .i .u64 (n : Int) ∧ n ≤ 18446744073709551615 := by
  obtain ⟨k, m, rfl, h2⟩ := vI_spec h
  obtain ⟨e, h3⟩ := ite1_spec h2
  obtain rfl := keq_eq e
  cases m with
  | negSucc n => exact Bool.noConfusion h3
  | ofNat n => exact ⟨n, rfl, Nat.le_of_ble_eq_true h3⟩
def isSingle4 (n : Nat) (v : V) : Bool := vA v fun l => arg0 l fun a r => ite1 (eqB false a) <| arg0 r fun a1 r => ite1 (isU64 a1) <| arg0 r fun a2 r => ite1 (isU64 a2) <| arg0 r fun a3 r => ite1 (isU64 a3) <| arg0 r fun a4 r => ite1 (isU64 a4) <| arg0 r fun b r => ite1 (eqB true b) <| arg0 r fun c r => ite1 (vI c fun k m => ite1 (keq k .u8) (ieq m (Int.ofNat n))) <| arg0 r fun d r => ite1 (eqB false d) <| chain true (fun _ _ _ => false) r
theorem isSingle4_spec {n : Nat} {v : V} {y : Value} {ρ' : Ren} (hs : isSingle4 n v = true) (hv : VR ρ' v y) :
    ∃ c1 c2 c3 c4 : Nat, c1 ≤ 18446744073709551615 ∧ c2 ≤ 18446744073709551615 ∧ c3 ≤ 18446744073709551615 ∧ c4 ≤ 18446744073709551615 ∧
      y = .agg ⟨[.bool false, .int .u64 (c1 : Int), .int .u64 (c2 : Int), .int .u64 (c3 : Int), .int .u64 (c4 : Int), .bool true, .int .u8 (n : Int), .bool false]⟩ := by
  obtain ⟨l, rfl, q0⟩ := vA_spec hs
  clear hs
  obtain ⟨a, r0, rfl, q1⟩ := arg0_spec q0
  clear q0
  obtain ⟨ea, q2⟩ := ite1_spec q1
  clear q1
  obtain rfl := eqB_spec ea
  obtain ⟨a1, r1, rfl, p1⟩ := arg0_spec q2
  clear q2
  obtain ⟨u1, q3⟩ := ite1_spec p1
  clear p1
  obtain ⟨c1, rfl, b1⟩ := isU64_spec u1
  obtain ⟨a2, r2, rfl, p2⟩ := arg0_spec q3
  clear q3
  obtain ⟨u2, q4⟩ := ite1_spec p2
  clear p2
  obtain ⟨c2, rfl, b2⟩ := isU64_spec u2
  obtain ⟨a3, r3, rfl, p3⟩ := arg0_spec q4
  clear q4
  obtain ⟨u3, q5⟩ := ite1_spec p3
  clear p3
  obtain ⟨c3, rfl, b3⟩ := isU64_spec u3
  obtain ⟨a4, r4, rfl, p4⟩ := arg0_spec q5
  clear q5
  obtain ⟨u4, q6⟩ := ite1_spec p4
  clear p4
  obtain ⟨c4, rfl, b4⟩ := isU64_spec u4
  obtain ⟨b, r5, rfl, q7⟩ := arg0_spec q6
  clear q6
  obtain ⟨eb, q8⟩ := ite1_spec q7
  clear q7
  obtain rfl := eqB_spec eb
  obtain ⟨c, r6, rfl, q9⟩ := arg0_spec q8
  clear q8
  obtain ⟨ec, q10⟩ := ite1_spec q9
  clear q9
  obtain ⟨k, m, rfl, ed⟩ := vI_spec ec
  clear ec
  obtain ⟨e1, e2⟩ := ite1_spec ed
  clear ed
  obtain rfl := keq_eq e1
  rw [ieq_eq] at e2
  obtain rfl := of_decide_eq_true e2
  clear e2
  obtain ⟨d, r, rfl, q11⟩ := arg0_spec q10
  clear q10
  obtain ⟨ee, h⟩ := ite1_spec q11
  clear q11
  obtain rfl := eqB_spec ee
  simp only [VR, VRs] at hv
  obtain ⟨_, ⟨_, _, rfl, rfl, _, _, rfl, rfl, _, _, rfl, rfl, _, _, rfl, rfl, _, _, rfl, rfl, _, _, rfl, rfl, _, _, rfl, rfl, _, _, rfl, rfl, hr⟩, rfl⟩ := hv
  cases r <;> first | (simp only [VRs] at hr; done) | exact Bool.noConfusion h | skip
  simp only [VRs] at hr
  subst hr
  exact ⟨c1, c2, c3, c4, b1, b2, b3, b4, rfl⟩
theorem hkSingle2_ok (hm : P.follows .mixedOrders = true) (hn : NameOK P) {hk : Nat → Option HookF} (hh : HKok P ng hk) {N g : Nat}
    (hrun : allN 256 (fun n => run P ng hk N g (.cons (.i .u8 (Int.ofNat n)) .nil) .leaf ng (fun v _ _ => isSingle4 n v) (fun _ _ _ => false)) = true) : HookOk P ng g hkSingle2 := by
  intro args h nx K Kp hk1 ρ w vs s gr hv
  obtain ⟨x, r, rfl, hk2⟩ := arg0_spec hk1
  simp only [VRs] at hv
  obtain ⟨v1, l1, rfl, h1, h2⟩ := hv
  cases r <;> first | (simp only [VRs] at h2; done) | exact Bool.noConfusion hk2 | skip
  simp only [VRs] at h2
  subst h2
  obtain ⟨kd, lo, hi, i, hk3, hr⟩ := rngK_spec (show (rngK x fun kd _ hi _ => ite1 (keq kd .u8) <| ite1 (Nat.ble hi 255) <| K (single4 x nx) h (nx + 4)) = true from hk2)
  obtain ⟨e1, hk4⟩ := ite1_spec hk3
  have e1 := keq_eq e1
  subst e1
  obtain ⟨e2, hk5⟩ := ite1_spec hk4
  have e2 := Nat.le_of_ble_eq_true e2
  obtain ⟨n, rfl, hin⟩ := hr ρ _ h1
  have hlt : n < 256 := by have := hin.2.1; omega
  intro o a next Q g1 _
  refine small_run hm hn hh (allN_spec hrun n hlt) (vs := [.int .u8 (n : Int)]) (by simp only [VRs]; exact ⟨_, _, rfl, by simp only [VR]; rfl, rfl⟩) gr (fun ρ' y v w' hR hv' st => ?_)
  obtain ⟨c1, c2, c3, c4, b1, b2, b3, b4, rfl⟩ := isSingle4_spec hR hv'
  have s0 : St ρ h nx w' := ⟨fun id L hi hL => by
    obtain ⟨o', q1, q2⟩ := s.rel id L hi hL
    exact ⟨o', by rw [st.heap L.blk (Array.getElem?_eq_some_iff.1 q1).1]; exact q1, q2⟩, s.inj, s.fresh, s.dead⟩
  have x0 : Ext ρ h w ρ h w' := ⟨Ren.le.refl _, st.size, st.os, st.tape, st.output, fun b hb hk => ⟨st.heap b hb, hk⟩, fun _ _ k => ⟨k, rfl⟩⟩
  obtain ⟨s1, x1⟩ := s0.atom ⟨0, c1, 0⟩
  obtain ⟨s2, x2⟩ := s1.atom ⟨0, c2, 0⟩
  obtain ⟨s3, x3⟩ := s2.atom ⟨0, c3, 0⟩
  obtain ⟨s4, x4⟩ := s3.atom ⟨0, c4, 0⟩
  have xa := x1.trans (x2.trans (x3.trans x4))
  refine g1 _ (single4 x nx) h (nx + 4) _ w' ?_ s4 (x0.trans xa) hk5
  simp only [single4, freeV, VR, VRs]
  refine ⟨_, ⟨_, _, rfl, rfl, _, _, rfl, ⟨⟨0, c1, 0⟩, ?_, Nat.zero_le _, b1, rfl⟩, _, _, rfl, ⟨⟨0, c2, 0⟩, ?_, Nat.zero_le _, b2, rfl⟩, _, _, rfl, ⟨⟨0, c3, 0⟩, ?_, Nat.zero_le _, b3, rfl⟩, _, _, rfl, ⟨_, upd_same _ _ _, Nat.zero_le _, b4, rfl⟩, _, _, rfl, rfl, _, _, rfl, h1.mono xa.le, _, _, rfl, rfl, rfl⟩, rfl⟩
  · exact (x2.trans (x3.trans x4)).le _ _ (upd_same _ _ _)
  · exact (x3.trans x4).le _ _ (upd_same _ _ _)
  · exact x4.le _ _ (upd_same _ _ _)
end
end Go.Mx
namespace Go.Mx
open Instr Builtin
noncomputable section
variable {P : Program} {ρ : Ren} {h : T O} {nx : Nat} {w : World} {ng : Nat}
def fstO (args : V) : Bool := arg0 args fun x _ => isO x
def hkO (f g : HookF) : HookF := fun args h nx K => Bool.rec (f args h nx K) (g args h nx K) (fstO args)
theorem hkO_ok {g : Nat} {a b : HookF} (ha : HookOk P ng g a) (hb : HookOk P ng g b) : HookOk P ng g (hkO a b) := by
  intro args h nx K Kp hk
  unfold hkO at hk
  cases e : fstO args with
  | true => rw [e] at hk; exact hb args h nx K Kp hk
  | false => rw [e] at hk; exact ha args h nx K Kp hk
def hkMakeNoZeroO (e : Nat) : HookF := fun args h nx K => arg0 args fun x r => chain (linK x fun kd l => ite1 (Nat.beq kd 3) <| rgK l fun lo hi => ite1 (ile (Int.ofNat 0) lo) <| ite1 (ile hi (Int.ofNat 281474976710656)) <| stK O.none (O.c .nil e true) nx h fun h' => K (.o 3 l nx 0 0) h' (Nat.succ nx)) (fun _ _ _ => false) r
theorem hkMakeNoZeroO_ok {g : Nat} {fn : Func} {ps : Array TypeId} {t e : TypeId} (hf : P.funcs[g]? = some fn) (hname : (fn.name == "runtime.NumGoroutine") = false) (hb : fn.body.isNone = true) (hn : Extern.findNext fn = none)
    (he : Extern.find fn = some (Extern.BytealgMakeNoZero.makeNoZero ps #[t])) (ht : P.underlying t = some (.slice e)) : HookOk P ng g (hkMakeNoZeroO e) := by
  intro args h nx K Kp hk ρ w vs s _ hv
  obtain ⟨x, r, rfl, hk2⟩ := arg0_spec (show arg0 args (fun x r => chain (linK x fun kd l => ite1 (Nat.beq kd 3) <| rgK l fun lo hi => ite1 (ile (Int.ofNat 0) lo) <| ite1 (ile hi (Int.ofNat 281474976710656)) <| stK O.none (O.c .nil e true) nx h fun h' => K (.o 3 l nx 0 0) h' (Nat.succ nx)) (fun _ _ _ => false) r) = true from hk)
  simp only [VRs] at hv
  obtain ⟨v1, l1, rfl, h1, h2⟩ := hv
  cases r <;> first | (simp only [VRs] at h2; done) | exact Bool.noConfusion hk2 | skip
  simp only [VRs] at h2
  subst h2
  obtain ⟨kd, l, hk3, hl⟩ := linK_spec (show linK x (fun kd l => ite1 (Nat.beq kd 3) <| rgK l fun lo hi => ite1 (ile (Int.ofNat 0) lo) <| ite1 (ile hi (Int.ofNat 281474976710656)) <| stK O.none (O.c .nil e true) nx h fun h' => K (.o 3 l nx 0 0) h' (Nat.succ nx)) = true from hk2)
  obtain ⟨e1, hk4⟩ := ite1_spec hk3
  have e1 := beq_spec e1
  subst e1
  obtain ⟨lo, hi, hk5, hr⟩ := rgK_spec hk4
  obtain ⟨q1, hk6⟩ := ite1_spec hk5
  obtain ⟨q2, hk7⟩ := ite1_spec hk6
  have q1 := ile_spec q1
  have q2 := ile_spec q2
  obtain ⟨n0, hn0, rfl⟩ := hl ρ _ h1
  have hb2 := hr ρ _ hn0
  have z : ∀ n : Nat, Int.ofNat n = (n : Int) := fun _ => rfl
  rw [z] at q1 q2
  obtain ⟨n, rfl⟩ : ∃ n : Nat, n0 = (n : Int) := ⟨n0.toNat, by omega⟩
  have e2 : n ≤ 281474976710656 := by omega
  obtain ⟨cs, hr2, hle, _⟩ := Lib.run_makeNoZero (P := P) w ps t e ht n e2
  rw [stK_eq] at hk7
  have s2 : St ρ h nx w.drew.drew := s.heap rfl
  obtain ⟨g3, g4⟩ := s2.alloc (o := .c .nil e true) (ob := .cells cs e) (n := cs.size)
    ⟨cs, (0, 0), rfl, rfl, by intro _ q _; simp, Nat.zero_le _, by simp [CR]⟩
  refine UponOK.val (upon_extern hf hname hb hn he hr2) (x := .o 3 l nx 0 0) ?_ g3 (Ext.trans (Ext.same (w' := w.drew.drew) rfl rfl rfl rfl) g4) hk7
  exact VR_o3 (upd_same _ _ _) (hn0.mono (upd_le (s2.fresh nx (Nat.le_refl _)))) hle (by show 0 + cs.size ≤ cs.size; omega)
def pieceNo (n : Nat) (x : V) : Bool := V.rec (motive := fun _ => Bool) false (fun _ _ _ _ => false) (fun _ => false) (fun _ k => inot (ieq k (Int.ofNat n))) (fun _ => false) (fun _ _ => false) false (fun _ _ _ _ => false) false false false (fun _ => false) false (fun _ _ _ => false) false (fun _ _ _ => false) false (fun _ _ => false) (fun _ _ => false)
  (fun _ _ lo hi => disj lo hi n n) (fun _ _ => false) (fun _ _ _ _ _ => false) (fun t l _ _ _ _ => ite1 (Nat.beq t 1) (tbN (mskV l) n)) x
theorem pieceNo_spec {n : Nat} {x : V} {s : List UInt8} (hk : pieceNo n x = true) (hs : PR ρ x s) : ∀ c ∈ s, c.toNat ≠ n := by
  cases x <;> first | exact Bool.noConfusion hk | skip
  case i kd k =>
    have hk2 : inot (ieq k (Int.ofNat n)) = true := hk
    rw [inot_eq, ieq_eq] at hk2
    simp only [PR] at hs
    obtain ⟨_, c, rfl, rfl⟩ := hs
    intro d hd
    rw [List.mem_singleton] at hd
    subst hd
    intro e
    subst e
    simp at hk2
  case x a kd lo hi =>
    have hk2 : disj lo hi n n = true := hk
    simp only [PR] at hs
    obtain ⟨_, c, L, rfl, _, h1, h2, h3⟩ := hs
    intro d hd
    rw [List.mem_singleton] at hd
    subst hd
    unfold disj at hk2
    rw [ior_eq, Bool.or_eq_true] at hk2
    rcases hk2 with h | h <;> (have := Nat.blt_eq.mp h; omega)
  case o t l a lo hi =>
    obtain ⟨e, hk2⟩ := ite1_spec (show ite1 (Nat.beq t 1) (tbN (mskV l) n) = true from hk)
    have e := beq_spec e
    simp only [PR] at hs
    rcases hs with ⟨_, L, _, _, _, _, h⟩ | ⟨h, _⟩
    · intro c hc e2
      have := h c hc
      rw [e2, hk2] at this
      cases this
    · omega
end
end Go.Mx
namespace Go.Mx
noncomputable section
variable {P : Program}
def putO : List (Nat × O) → T O → T O
  | [], t => t
  | p :: l, t => st O.none p.2 p.1 (putO l t)
end
end Go.Mx
namespace Go.Mx
open Instr Builtin
noncomputable section
variable {P : Program} {ρ : Ren} {h : T O} {nx : Nat} {w : World} {ng : Nat}
end
end Go.Mx
