/-
  A part of a small executor of the model, proved sound (19 of 29). No condition.
-/
import Derived.Test.YtpodnhoafbbkkaaGreatDoorXMxK
namespace Go.Mx
noncomputable section
variable {P : Program} {ρ : Ren} {h : T O} {nx : Nat} {w : World} {ng : Nat}
def cloneK (x : V) (h : T O) (nx : Nat) (K : KV) : Bool := match x with
  | .e t (.m id) => oM (gt O.none id h) fun es clock => newO (.mp es clock) h nx fun id' h' nx' => K (.e t (.m id')) h' nx'
  | _ => false
def hkMapClone : HookF := fun args h nx K => arg0 args fun x r => chain (cloneK x h nx K) (fun _ _ _ => false) r
theorem run_mapClone {t : TypeId} {r : Nat} {es : Array MapEntry} {clock : Nat} (hb : w.heap[r]? = some (.map es clock)) :
    (Extern.MapsClone.clone #[.iface t (.map (some r))]).run P w = .ok (.iface t (.map (some w.heap.size))) (w.alloc (.map es clock)) := by
  have e : Extern.MapsClone.clone #[.iface t (.map (some r))] = (getObj r >>= fun o => match o with
      | .map entries clock => (newObj (.map entries clock) >>= fun n => pure (.iface t (.map (some n))))
      | _ => stuck "maps.clone: a map expected") := rfl
  have g : (getObj r).run P w = .ok (.map es clock) w := by simp [getObj, Sem.run, hb]
  rw [e]
  simp [g, Result.andThen]
theorem hkMapClone_ok {g : Nat} {fn : Func} (hf : P.funcs[g]? = some fn) (hname : (fn.name == "runtime.NumGoroutine") = false) (hb : fn.body.isNone = true) (hn : Extern.findNext fn = none) (he : Extern.find fn = some Extern.MapsClone.clone) : HookOk P ng g hkMapClone := by
  intro args h nx K Kp hk ρ w vs s _ hv
  obtain ⟨x, r, rfl, hk2⟩ := arg0_spec (show arg0 args (fun x r => chain (cloneK x h nx K) (fun _ _ _ => false) r) = true from hk)
  simp only [VRs] at hv
  obtain ⟨v1, l1, rfl, h1, h2⟩ := hv
  cases r <;> first | (simp only [VRs] at h2; done) | exact Bool.noConfusion hk2 | skip
  simp only [VRs] at h2
  subst h2
  have hk3 : cloneK x h nx K = true := hk2
  unfold cloneK at hk3
  split at hk3
  · rename_i t id
    obtain ⟨es, clock, ho, hk4⟩ := oM_spec hk3
    simp only [VR] at h1
    obtain ⟨y, hy, rfl⟩ := h1
    obtain ⟨L, es', hL, rfl, hh, her⟩ := s.map ho (by simpa only [VR] using hy)
    obtain ⟨h', g1, g2, g3⟩ := newO_sound (ob := .map es' clock) (K := fun id' h' nx' => K (.e t (.m id')) h' nx') hk4 s fun ρ' hle => ⟨es', rfl, her.mono hle⟩
    refine UponOK.val (upon_extern hf hname hb hn he (run_mapClone hh)) ?_ g2 g3 g1
    simp only [VR]
    exact ⟨_, ⟨_, upd_same _ _ _, rfl⟩, rfl⟩
  · cases hk3
theorem St.atom (s : St ρ h nx w) (L : Loc) : St (upd ρ nx L) h (nx + 1) w ∧ Ext ρ h w (upd ρ nx L) h w := by
  have ne : ∀ {id}, (gt O.none id h).live → id ≠ nx := fun hl e => s.dead _ (Nat.le_of_eq e.symm) hl
  refine ⟨⟨fun id M hi hM => ?_, fun i j M N hi hj hM hN => ?_, fun i hi => ?_, fun i hi => s.dead i (by omega)⟩, ⟨upd_le (s.fresh nx (Nat.le_refl _)), Nat.le_refl _, rfl, rfl, rfl, fun b _ k => ⟨rfl, fun id M hi hM => ?_⟩, fun id hl hn => ⟨?_, rfl⟩⟩⟩
  · rw [upd_ne _ _ (ne hi)] at hM
    obtain ⟨o, h1, h2⟩ := s.rel id M hi hM
    exact ⟨o, h1, h2.mono (upd_le (s.fresh nx (Nat.le_refl _)))⟩
  · rw [upd_ne _ _ (ne (O.live_of_wr hi))] at hM
    rw [upd_ne _ _ (ne hj)] at hN
    exact s.inj i j M N hi hj hM hN
  · rw [upd_ne _ _ (by omega)]
    exact s.fresh i (by omega)
  · rw [upd_ne _ _ (ne (O.live_of_wr hi))] at hM
    exact k id M hi hM
  · rw [upd_ne _ _ (ne hl)]
    exact hn
def freeV (i : Nat) : V := .x i .u64 0 18446744073709551615
def single4 (x : V) (nx : Nat) : V := .a (.cons (.b false) (.cons (freeV nx) (.cons (freeV (nx + 1)) (.cons (freeV (nx + 2)) (.cons (freeV (nx + 3)) (.cons (.b true) (.cons x (.cons (.b false) .nil))))))))
def hkSingle2 : HookF := fun args h nx K => arg0 args fun x r => chain (rngK x fun kd _ hi _ => ite1 (keq kd .u8) <| ite1 (Nat.ble hi 255) <| K (single4 x nx) h (nx + 4)) (fun _ _ _ => false) r
def isU64 (v : V) : Bool := vI v fun k m => ite1 (keq k .u64) <| Int.rec (motive := fun _ => Bool) (fun n => Nat.ble n 18446744073709551615) (fun _ => false) m
theorem isU64_spec {v : V} (h : isU64 v = true) : ∃ n : Nat, v = .i .u64 (n : Int) ∧ n ≤ 18446744073709551615 := by
  obtain ⟨k, m, rfl, h2⟩ := vI_spec h
  obtain ⟨e, h3⟩ := ite1_spec h2
  obtain rfl := keq_eq e
  cases m with
  | negSucc n => exact Bool.noConfusion h3
  | ofNat n => exact ⟨n, rfl, Nat.le_of_ble_eq_true h3⟩
def isSingle4 (n : Nat) (v : V) : Bool := vA v fun l => arg0 l fun a r => ite1 (eqB false a) <| arg0 r fun a1 r => ite1 (isU64 a1) <| arg0 r fun a2 r => ite1 (isU64 a2) <| arg0 r fun a3 r => ite1 (isU64 a3) <| arg0 r fun a4 r => ite1 (isU64 a4) <| arg0 r fun b r => ite1 (eqB true b) <| arg0 r fun c r => ite1 (vI c fun k m => ite1 (keq k .u8) (ieq m (Int.ofNat n))) <| arg0 r fun d r => ite1 (eqB false d) <| chain true (fun _ _ _ => false) r
theorem isSingle4_spec {n : Nat} {v : V} {y : Value} {ρ' : Ren} (hs : isSingle4 n v = true) (hv : VR ρ' v y) :
    ∃ c1 c2 c3 c4 : Nat, c1 ≤ 18446744073709551615 ∧ c2 ≤ 18446744073709551615 ∧ c3 ≤ 18446744073709551615 ∧ c4 ≤ 18446744073709551615 ∧
      y = .agg ⟨[.bool false, .int .u64 (c1 : Int), .int .u64 (c2 : Int), .int .u64 (c3 : Int), .int .u64 (c4 : Int), .bool true, .int .u8 (n : Int), .bool false]⟩ := by
  obtain ⟨l, rfl, q0⟩ := vA_spec hs
  clear hs
  obtain ⟨a, r0, rfl, q1⟩ := arg0_spec q0
  clear q0
  obtain ⟨ea, q2⟩ := ite1_spec q1
  clear q1
  obtain rfl := eqB_spec ea
  obtain ⟨a1, r1, rfl, p1⟩ := arg0_spec q2
  clear q2
  obtain ⟨u1, q3⟩ := ite1_spec p1
  clear p1
  obtain ⟨c1, rfl, b1⟩ := isU64_spec u1
  obtain ⟨a2, r2, rfl, p2⟩ := arg0_spec q3
  clear q3
  obtain ⟨u2, q4⟩ := ite1_spec p2
  clear p2
  obtain ⟨c2, rfl, b2⟩ := isU64_spec u2
  obtain ⟨a3, r3, rfl, p3⟩ := arg0_spec q4
  clear q4
  obtain ⟨u3, q5⟩ := ite1_spec p3
  clear p3
  obtain ⟨c3, rfl, b3⟩ := isU64_spec u3
  obtain ⟨a4, r4, rfl, p4⟩ := arg0_spec q5
  clear q5
  obtain ⟨u4, q6⟩ := ite1_spec p4
  clear p4
  obtain ⟨c4, rfl, b4⟩ := isU64_spec u4
  obtain ⟨b, r5, rfl, q7⟩ := arg0_spec q6
  clear q6
  obtain ⟨eb, q8⟩ := ite1_spec q7
  clear q7
  obtain rfl := eqB_spec eb
  obtain ⟨c, r6, rfl, q9⟩ := arg0_spec q8
  clear q8
  obtain ⟨ec, q10⟩ := ite1_spec q9
  clear q9
  obtain ⟨k, m, rfl, ed⟩ := vI_spec ec
  clear ec
  obtain ⟨e1, e2⟩ := ite1_spec ed
  clear ed
  obtain rfl := keq_eq e1
  rw [ieq_eq] at e2
  obtain rfl := of_decide_eq_true e2
  clear e2
  obtain ⟨d, r, rfl, q11⟩ := arg0_spec q10
  clear q10
  obtain ⟨ee, h⟩ := ite1_spec q11
  clear q11
  obtain rfl := eqB_spec ee
  simp only [VR, VRs] at hv
  obtain ⟨_, ⟨_, _, rfl, rfl, _, _, rfl, rfl, _, _, rfl, rfl, _, _, rfl, rfl, _, _, rfl, rfl, _, _, rfl, rfl, _, _, rfl, rfl, _, _, rfl, rfl, hr⟩, rfl⟩ := hv
  cases r <;> first | (simp only [VRs] at hr; done) | exact Bool.noConfusion h | skip
  simp only [VRs] at hr
  subst hr
  exact ⟨c1, c2, c3, c4, b1, b2, b3, b4, rfl⟩
theorem hkSingle2_ok (hm : P.follows .mixedOrders = true) (hn : NameOK P) {hk : Nat → Option HookF} (hh : HKok P ng hk) {N g : Nat}
    (hrun : allN 256 (fun n => run P ng hk N g (.cons (.i .u8 (Int.ofNat n)) .nil) .leaf ng (fun v _ _ => isSingle4 n v) (fun _ _ _ => false)) = true) : HookOk P ng g hkSingle2 := by
  intro args h nx K Kp hk1 ρ w vs s gr hv
  obtain ⟨x, r, rfl, hk2⟩ := arg0_spec hk1
  simp only [VRs] at hv
  obtain ⟨v1, l1, rfl, h1, h2⟩ := hv
  cases r <;> first | (simp only [VRs] at h2; done) | exact Bool.noConfusion hk2 | skip
  simp only [VRs] at h2
  subst h2
  obtain ⟨kd, lo, hi, i, hk3, hr⟩ := rngK_spec (show (rngK x fun kd _ hi _ => ite1 (keq kd .u8) <| ite1 (Nat.ble hi 255) <| K (single4 x nx) h (nx + 4)) = true from hk2)
  obtain ⟨e1, hk4⟩ := ite1_spec hk3
  have e1 := keq_eq e1
  subst e1
  obtain ⟨e2, hk5⟩ := ite1_spec hk4
  have e2 := Nat.le_of_ble_eq_true e2
  obtain ⟨n, rfl, hin⟩ := hr ρ _ h1
  have hlt : n < 256 := by have := hin.2.1; omega
  intro o a next Q g1 _
  refine small_run hm hn hh (allN_spec hrun n hlt) (vs := [.int .u8 (n : Int)]) (by simp only [VRs]; exact ⟨_, _, rfl, by simp only [VR]; rfl, rfl⟩) gr (fun ρ' y v w' hR hv' st => ?_)
  obtain ⟨c1, c2, c3, c4, b1, b2, b3, b4, rfl⟩ := isSingle4_spec hR hv'
  have s0 : St ρ h nx w' := ⟨fun id L hi hL => by
    obtain ⟨o', q1, q2⟩ := s.rel id L hi hL
    exact ⟨o', by rw [st.heap L.blk (Array.getElem?_eq_some_iff.1 q1).1]; exact q1, q2⟩, s.inj, s.fresh, s.dead⟩
  have x0 : Ext ρ h w ρ h w' := ⟨Ren.le.refl _, st.size, st.os, st.tape, st.output, fun b hb hk => ⟨st.heap b hb, hk⟩, fun _ _ k => ⟨k, rfl⟩⟩
  obtain ⟨s1, x1⟩ := s0.atom ⟨0, c1, 0⟩
  obtain ⟨s2, x2⟩ := s1.atom ⟨0, c2, 0⟩
  obtain ⟨s3, x3⟩ := s2.atom ⟨0, c3, 0⟩
  obtain ⟨s4, x4⟩ := s3.atom ⟨0, c4, 0⟩
  have xa := x1.trans (x2.trans (x3.trans x4))
  refine g1 _ (single4 x nx) h (nx + 4) _ w' ?_ s4 (x0.trans xa) hk5
  simp only [single4, freeV, VR, VRs]
  refine ⟨_, ⟨_, _, rfl, rfl, _, _, rfl, ⟨⟨0, c1, 0⟩, ?_, Nat.zero_le _, b1, rfl⟩, _, _, rfl, ⟨⟨0, c2, 0⟩, ?_, Nat.zero_le _, b2, rfl⟩, _, _, rfl, ⟨⟨0, c3, 0⟩, ?_, Nat.zero_le _, b3, rfl⟩, _, _, rfl, ⟨_, upd_same _ _ _, Nat.zero_le _, b4, rfl⟩, _, _, rfl, rfl, _, _, rfl, h1.mono xa.le, _, _, rfl, rfl, rfl⟩, rfl⟩
  · exact (x2.trans (x3.trans x4)).le _ _ (upd_same _ _ _)
  · exact (x3.trans x4).le _ _ (upd_same _ _ _)
  · exact x4.le _ _ (upd_same _ _ _)
end
end Go.Mx
namespace Go.Mx
open Instr Builtin
noncomputable section
variable {P : Program} {ρ : Ren} {h : T O} {nx : Nat} {w : World} {ng : Nat}
def fstO (args : V) : Bool := arg0 args fun x _ => isO x
def hkO (f g : HookF) : HookF := fun args h nx K => Bool.rec (f args h nx K) (g args h nx K) (fstO args)
theorem hkO_ok {g : Nat} {a b : HookF} (ha : HookOk P ng g a) (hb : HookOk P ng g b) : HookOk P ng g (hkO a b) := by
  intro args h nx K Kp hk
  unfold hkO at hk
  cases e : fstO args with
  | true => rw [e] at hk; exact hb args h nx K Kp hk
  | false => rw [e] at hk; exact ha args h nx K Kp hk
def hkMakeNoZeroO (e : Nat) : HookF := fun args h nx K => arg0 args fun x r => chain (linK x fun kd l => ite1 (Nat.beq kd 3) <| rgK l fun lo hi => ite1 (ile (Int.ofNat 0) lo) <| ite1 (ile hi (Int.ofNat 281474976710656)) <| stK O.none (O.c .nil e true) nx h fun h' => K (.o 3 l nx 0 0) h' (Nat.succ nx)) (fun _ _ _ => false) r
theorem hkMakeNoZeroO_ok {g : Nat} {fn : Func} {ps : Array TypeId} {t e : TypeId} (hf : P.funcs[g]? = some fn) (hname : (fn.name == "runtime.NumGoroutine") = false) (hb : fn.body.isNone = true) (hn : Extern.findNext fn = none)
    (he : Extern.find fn = some (Extern.BytealgMakeNoZero.makeNoZero ps #[t])) (ht : P.underlying t = some (.slice e)) : HookOk P ng g (hkMakeNoZeroO e) := by
  intro args h nx K Kp hk ρ w vs s _ hv
  obtain ⟨x, r, rfl, hk2⟩ := arg0_spec (show arg0 args (fun x r => chain (linK x fun kd l => ite1 (Nat.beq kd 3) <| rgK l fun lo hi => ite1 (ile (Int.ofNat 0) lo) <| ite1 (ile hi (Int.ofNat 281474976710656)) <| stK O.none (O.c .nil e true) nx h fun h' => K (.o 3 l nx 0 0) h' (Nat.succ nx)) (fun _ _ _ => false) r) = true from hk)
  simp only [VRs] at hv
  obtain ⟨v1, l1, rfl, h1, h2⟩ := hv
  cases r <;> first | (simp only [VRs] at h2; done) | exact Bool.noConfusion hk2 | skip
  simp only [VRs] at h2
  subst h2
  obtain ⟨kd, l, hk3, hl⟩ := linK_spec (show linK x (fun kd l => ite1 (Nat.beq kd 3) <| rgK l fun lo hi => ite1 (ile (Int.ofNat 0) lo) <| ite1 (ile hi (Int.ofNat 281474976710656)) <| stK O.none (O.c .nil e true) nx h fun h' => K (.o 3 l nx 0 0) h' (Nat.succ nx)) = true from hk2)
  obtain ⟨e1, hk4⟩ := ite1_spec hk3
  have e1 := beq_spec e1
  subst e1
  obtain ⟨lo, hi, hk5, hr⟩ := rgK_spec hk4
  obtain ⟨q1, hk6⟩ := ite1_spec hk5
  obtain ⟨q2, hk7⟩ := ite1_spec hk6
  have q1 := ile_spec q1
  have q2 := ile_spec q2
  obtain ⟨n0, hn0, rfl⟩ := hl ρ _ h1
  have hb2 := hr ρ _ hn0
  have z : ∀ n : Nat, Int.ofNat n = (n : Int) := fun _ => rfl
  rw [z] at q1 q2
  obtain ⟨n, rfl⟩ : ∃ n : Nat, n0 = (n : Int) := ⟨n0.toNat, by omega⟩
  have e2 : n ≤ 281474976710656 := by omega
  obtain ⟨cs, hr2, hle, _⟩ := Lib.run_makeNoZero (P := P) w ps t e ht n e2
  rw [stK_eq] at hk7
  have s2 : St ρ h nx w.drew.drew := s.heap rfl
  obtain ⟨g3, g4⟩ := s2.alloc (o := .c .nil e true) (ob := .cells cs e) (n := cs.size)
    ⟨cs, (0, 0), rfl, rfl, by intro _ q _; simp, Nat.zero_le _, by simp [CR]⟩
  refine UponOK.val (upon_extern hf hname hb hn he hr2) (x := .o 3 l nx 0 0) ?_ g3 (Ext.trans (Ext.same (w' := w.drew.drew) rfl rfl rfl rfl) g4) hk7
  exact VR_o3 (upd_same _ _ _) (hn0.mono (upd_le (s2.fresh nx (Nat.le_refl _)))) hle (by show 0 + cs.size ≤ cs.size; omega)
def pieceNo (n : Nat) (x : V) : Bool := V.rec (motive := fun _ => Bool) false (fun _ _ _ _ => false) (fun _ => false) (fun _ k => inot (ieq k (Int.ofNat n))) (fun _ => false) (fun _ _ => false) false (fun _ _ _ _ => false) false false false (fun _ => false) false (fun _ _ _ => false) false (fun _ _ _ => false) false (fun _ _ => false) (fun _ _ => false)
  (fun _ _ lo hi => disj lo hi n n) (fun _ _ => false) (fun _ _ _ _ _ => false) (fun t l _ _ _ _ => ite1 (Nat.beq t 1) (tbN (mskV l) n)) x
def noByte (n : Nat) (c : V) : Bool := chain true (fun x _ ih => Bool.rec false ih (pieceNo n x)) c
theorem pieceNo_spec {n : Nat} {x : V} {s : List UInt8} (hk : pieceNo n x = true) (hs : PR ρ x s) : ∀ c ∈ s, c.toNat ≠ n := by
  cases x <;> first | exact Bool.noConfusion hk | skip
  case i kd k =>
    have hk2 : inot (ieq k (Int.ofNat n)) = true := hk
    rw [inot_eq, ieq_eq] at hk2
    simp only [PR] at hs
    obtain ⟨_, c, rfl, rfl⟩ := hs
    intro d hd
    rw [List.mem_singleton] at hd
    subst hd
    intro e
    subst e
    simp at hk2
  case x a kd lo hi =>
    have hk2 : disj lo hi n n = true := hk
    simp only [PR] at hs
    obtain ⟨_, c, L, rfl, _, h1, h2, h3⟩ := hs
    intro d hd
    rw [List.mem_singleton] at hd
    subst hd
    unfold disj at hk2
    rw [ior_eq, Bool.or_eq_true] at hk2
    rcases hk2 with h | h <;> (have := Nat.blt_eq.mp h; omega)
  case o t l a lo hi =>
    obtain ⟨e, hk2⟩ := ite1_spec (show ite1 (Nat.beq t 1) (tbN (mskV l) n) = true from hk)
    have e := beq_spec e
    simp only [PR] at hs
    rcases hs with ⟨_, L, _, _, _, _, h⟩ | ⟨h, _⟩
    · intro c hc e2
      have := h c hc
      rw [e2, hk2] at this
      cases this
    · omega
theorem noByte_spec {n : Nat} : ∀ {c : V} {s : List UInt8}, noByte n c = true → RR ρ c s → ∀ d ∈ s, d.toNat ≠ n := by
  intro c
  induction c with
  | nil => intro s _ hs; simp only [RR] at hs; subst hs; simp
  | cons x l _ ih =>
    intro s hk hs
    have hk' : (Bool.rec false (noByte n l) (pieceNo n x) : Bool) = true := hk
    cases e : pieceNo n x with
    | false => rw [e] at hk'; exact Bool.noConfusion hk'
    | true =>
      rw [e] at hk'
      simp only [RR] at hs
      obtain ⟨s1, s2, h1, h2, rfl⟩ := hs
      intro d hd
      rcases List.mem_append.1 hd with hd | hd
      · exact pieceNo_spec e h1 d hd
      · exact ih hk' h2 d hd
  | _ => intro s _ hs; simp [RR] at hs
theorem indexByte_none {n : Nat} (hn : n < 256) : ∀ {s : List UInt8}, (∀ d ∈ s, d.toNat ≠ n) → Lib.indexByte s (UInt8.ofNat n) = -1
  | [], _ => rfl
  | d :: ds, h => by
    have ei : Lib.indexByte (d :: ds) (UInt8.ofNat n) = if (d == UInt8.ofNat n) = true then 0 else if Lib.indexByte ds (UInt8.ofNat n) == -1 then -1 else Lib.indexByte ds (UInt8.ofNat n) + 1 := rfl
    rw [ei, u8_ne hn (h d (List.mem_cons_self ..)), indexByte_none hn (fun e he => h e (List.mem_cons_of_mem _ he))]
    rfl
def hkIndexByteO : HookF := fun args h nx K => arg0 args fun x r => arg0 r fun y r' => chain (ropK x fun c => vI y fun kd n => ite1 (keq kd .u8) <| Int.rec (motive := fun _ => Bool) (fun m => ite1 (Nat.blt m 256) <| ite1 (noByte m c) <| K (.i .i64 (Int.negSucc 0)) h nx) (fun _ => false) n) (fun _ _ _ => false) r'
theorem hkIndexByteO_ok {g : Nat} {fn : Func} (hf : P.funcs[g]? = some fn) (hname : (fn.name == "runtime.NumGoroutine") = false) (hb : fn.body.isNone = true) (hn : Extern.findNext fn = none) (he : Extern.find fn = some Extern.BytealgIndexByte.indexByte) : HookOk P ng g hkIndexByteO := by
  intro args h nx K Kp hk ρ w vs s _ hv
  obtain ⟨x, r, rfl, hk2⟩ := arg0_spec hk
  obtain ⟨y, r', rfl, hk3⟩ := arg0_spec hk2
  simp only [VRs] at hv
  obtain ⟨v1, l1, rfl, h1, v2, l2, rfl, h2, h3⟩ := hv
  cases r' <;> first | (simp only [VRs] at h3; done) | exact Bool.noConfusion hk3 | skip
  simp only [VRs] at h3
  subst h3
  obtain ⟨c, hk4, hc⟩ := ropK_spec (show ropK x (fun c => vI y fun kd n => ite1 (keq kd .u8) <| Int.rec (motive := fun _ => Bool) (fun m => ite1 (Nat.blt m 256) <| ite1 (noByte m c) <| K (.i .i64 (Int.negSucc 0)) h nx) (fun _ => false) n) = true from hk3)
  obtain ⟨kd, n, rfl, hk5⟩ := vI_spec (v := y) hk4
  obtain ⟨e1, hk6⟩ := ite1_spec hk5
  have e1 := keq_eq e1
  subst e1
  cases n with
  | negSucc n => exact Bool.noConfusion hk6
  | ofNat n =>
    obtain ⟨e2, hk7⟩ := ite1_spec (show ite1 (Nat.blt n 256) (ite1 (noByte n c) <| K (.i .i64 (Int.negSucc 0)) h nx) = true from hk6)
    obtain ⟨e3, hk8⟩ := ite1_spec hk7
    have e2 := Nat.blt_eq.mp e2
    simp only [VR] at h2
    subst h2
    obtain ⟨b, rfl, hb2⟩ := hc ρ _ h1
    have hno := indexByte_none e2 (noByte_spec e3 hb2)
    have hr := Lib.run_indexByteString (P := P) b (n : Int) w
    have e : ((n : Int).toNat.toUInt8) = UInt8.ofNat n := by simp
    rw [e, hno] at hr
    exact UponOK.val (upon_extern hf hname hb hn he hr) (VRi _ _ _) s (Ext.refl _ _ _) hk8
end
end Go.Mx
namespace Go.Mx
noncomputable section
variable {P : Program}
def putO : List (Nat × O) → T O → T O
  | [], t => t
  | p :: l, t => st O.none p.2 p.1 (putO l t)
theorem top_run_g (hm : P.follows .mixedOrders = true) (hn : NameOK P) {hk : Nat → Option HookF} {ng : Nat} (hh : HKok P ng hk) {n g : Nat} {fn : Func} {cd : Code} (hf : P.funcs[g]? = some fn) (hb : fn.body = some cd)
    {l : List (Nat × V)} {x : Bool} {args : V} {vs : List Value} (hl : inT ng l = true) {W : World} {ob : List (Nat × O)} {ρa : Ren} {nx : Nat} (hnx : ng ≤ nx) (hρ : ∀ i L, ρa i = some L → ng ≤ i ∧ i < nx)
    (hob : ∀ i, (gt O.none i (putO ob .leaf)).live → (ng ≤ i ∧ i < nx ∧ ¬ (gt O.none i (putO ob .leaf)).wr) ∧ ∀ L, ρa i = some L → ∃ o, W.heap[L.blk]? = some o ∧ OR ρa L (gt O.none i (putO ob .leaf)) o)
    (hv : VRs ρa args vs)
    (hrun : ∀ τ : Nat → Nat, mkTK τ l (putO ob .leaf) (fun h0 => run P ng hk n g args h0 nx (fun v _ _ => isB x v) (fun _ _ _ => false)) = true) (tab : HasTables l W) :
    Calls P g ⟨vs⟩ W fun e W' => e = .returned (.bool x) ∧ Stays W W' := by
  let τ : Nat → Nat := fun i => match W.heap[i]? with
    | some (.cells _ ty _) => ty
    | _ => 0
  let sz : Nat → Nat := fun i => match W.heap[i]? with
    | some (.cells arr _ _) => arr.size
    | _ => 0
  have hrun := hrun τ
  rw [mkTK_eq] at hrun
  let ρr : Ren := fun i => if i < ng then some ⟨i, 0, sz i⟩ else ρa i
  have hin := inT_spec hl
  have at0 := mkT_at τ l (putO ob (.leaf : T O))
  have hle : Ren.le ρa ρr := fun i L e => by
    have := (hρ i L e).1
    have h1 : ¬ i < ng := by omega
    simp only [ρr, h1, if_false]
    exact e
  have live0 : ∀ i, (gt O.none i (mkTb τ l (putO ob .leaf))).live → (∃ p ∈ l, p.1 = i ∧ gt O.none i (mkTb τ l (putO ob .leaf)) = tabO p.2 (τ i)) ∨ ((gt O.none i (putO ob .leaf)).live ∧ gt O.none i (mkTb τ l (putO ob .leaf)) = gt O.none i (putO ob .leaf)) := fun i hi => by
    rcases at0 i with h1 | ⟨_, h2⟩
    · exact .inl h1
    · rw [h2] at hi; exact .inr ⟨hi, h2⟩
  have nowr : ∀ i, ¬ (gt O.none i (mkTb τ l (putO ob .leaf))).wr := fun i hi => by
    rcases live0 i (O.live_of_wr hi) with ⟨p, _, _, e⟩ | ⟨h1, e⟩
    · rw [e] at hi
      exact Bool.noConfusion (show false = true from hi)
    · rw [e] at hi
      exact (hob i h1).1.2.2 hi
  have tl : ∀ {i : Nat} {L : Loc}, i < ng → ρr i = some L → L = ⟨i, 0, sz i⟩ := fun {i L} h e => by simpa [ρr, h, eq_comm] using e
  have al : ∀ {i : Nat} {L : Loc}, ng ≤ i → ρr i = some L → ρa i = some L := fun {i L} h e => by
    have h1 : ¬ i < ng := by omega
    simpa only [ρr, h1, if_false] using e
  have sr : St ρr (mkTb τ l (putO ob .leaf)) nx W := by
    refine ⟨fun id L hi hL => ?_, fun i j L M hi => (nowr i hi).elim, fun i hi => ?_, fun i hi hl' => ?_⟩
    · rcases live0 id hi with ⟨p, hp, rfl, e⟩ | ⟨h1, e⟩
      · obtain rfl := tl (hin p hp).1 hL
        obtain ⟨ar, t', h1, h2⟩ := tab p hp
        refine ⟨_, h1, ?_⟩
        have et : τ p.1 = t' := by simp only [τ, h1]
        have es : sz p.1 = ar.size := by simp only [sz, h1]
        rw [e, et]
        exact ⟨ar, (0, 0), rfl, es.symm, (fun hf => by cases hf), Nat.zero_le _, by simpa using plain_CR (hin p hp).2 h2⟩
      · obtain ⟨⟨q1, q2, q3⟩, q4⟩ := hob id h1
        obtain ⟨o, g1, g2⟩ := q4 L (al q1 hL)
        exact ⟨o, g1, by rw [e]; exact g2.mono hle⟩
    · have h1 : ¬ i < ng := by omega
      show (if i < ng then some _ else ρa i) = none
      rw [if_neg h1]
      cases e : ρa i with
      | none => rfl
      | some L => have := (hρ i L e).2; omega
    · rcases live0 i hl' with ⟨p, hp, rfl, _⟩ | ⟨h1, _⟩
      · have := (hin p hp).1
        omega
      · have := (hob i h1).1.2.1
        omega
  have gr : RG ng ρr := fun i hi => ⟨⟨i, 0, sz i⟩, by simp [ρr, hi], rfl, rfl⟩
  have up := run_sound hm hn hh n g args (mkTb τ l (putO ob .leaf)) nx (fun v _ _ => isB x v) (fun _ _ _ => false) hrun ρr W vs sr gr (hv.mono hle)
  let o : Oper := { (default : Oper) with dst := some 0 }
  let a : Act := { tmps := #[undef], defers := [] }
  have h := up o a (fun a' W' => a'.tmps[0]? = some (.bool x) ∧ Stays W W') (fun _ _ _ => False) (fun ρ' y h' nx' v w' hv' _ hx hky => ?_) (fun ρ' y h' nx' v w' _ _ _ hky => Bool.noConfusion hky)
  · rw [callFunc_enter hn hf hb, Oper.upon_enter] at h
    refine h.mono fun e W' hr => ?_
    cases e with
    | returned v =>
      obtain ⟨h1, h2⟩ := hr
      have : v = .bool x := by simpa [Act.put, o, a] using h1
      exact ⟨by rw [this], h2⟩
    | panicked c => exact hr.elim
    | outgrown => obtain ⟨_, _, hq⟩ := hr; exact hq.elim
  · obtain ⟨bb, rfl, hbb⟩ := vB_spec (show vB y (fun b => bs_eq b x) = true from hky)
    have hbx : bb = x := by cases bb <;> cases x <;> first | rfl | exact Bool.noConfusion hbb
    subst hbx
    simp only [VR] at hv'
    subst hv'
    exact ⟨by simp [Act.put, o, a], hx.size, hx.os, hx.tape, hx.output, fun b hb => (hx.kept b hb fun id L hw _ => (nowr id hw).elim).1⟩
end
end Go.Mx
namespace Go.Mx
open Instr Builtin
noncomputable section
variable {P : Program} {ρ : Ren} {h : T O} {nx : Nat} {w : World} {ng : Nat}
def isThe (n : Nat) (x : V) : Bool := V.rec (motive := fun _ => Bool) false (fun _ _ _ _ => false) (fun _ => false) (fun _ k => ieq k (Int.ofNat n)) (fun _ => false) (fun _ _ => false) false (fun _ _ _ _ => false) false false false (fun _ => false) false (fun _ _ _ => false) false (fun _ _ _ => false) false (fun _ _ => false) (fun _ _ => false)
  (fun _ _ _ _ => false) (fun _ _ => false) (fun _ _ _ _ _ => false) (fun _ _ _ _ _ _ => false) x
theorem isThe_spec {n : Nat} {x : V} {s : List UInt8} (hk : isThe n x = true) (hs : PR ρ x s) : ∃ c : UInt8, s = [c] ∧ c.toNat = n := by
  cases x <;> first | exact Bool.noConfusion hk | skip
  case i kd k =>
    have hk2 : ieq k (Int.ofNat n) = true := hk
    rw [ieq_eq] at hk2
    have e : k = (n : Int) := by simpa using hk2
    simp only [PR] at hs
    obtain ⟨_, c, rfl, rfl⟩ := hs
    exact ⟨c, rfl, by omega⟩
def findR (n : Nat) (c : V) : V → (V → Bool) → Bool := chain (M := V → (V → Bool) → Bool) (fun _ k => k (.i .i64 (Int.negSucc 0)))
  (fun x _ ih acc k => Bool.rec (ite1 (isThe n x) (mkI 3 acc k)) (lenE x acc fun acc' => ih acc' k) (pieceNo n x)) c
theorem indexByte_skip {n : Nat} (hn : n < 256) : ∀ {s t : List UInt8}, (∀ d ∈ s, d.toNat ≠ n) → Lib.indexByte (s ++ t) (UInt8.ofNat n) = if Lib.indexByte t (UInt8.ofNat n) = -1 then -1 else (s.length : Int) + Lib.indexByte t (UInt8.ofNat n)
  | [], t, _ => by
    by_cases e : Lib.indexByte t (UInt8.ofNat n) = -1
    · rw [if_pos e]; exact e
    · rw [if_neg e]; simp
  | d :: ds, t, h => by
    have ei : Lib.indexByte (d :: (ds ++ t)) (UInt8.ofNat n) = if (d == UInt8.ofNat n) = true then 0 else if Lib.indexByte (ds ++ t) (UInt8.ofNat n) == -1 then -1 else Lib.indexByte (ds ++ t) (UInt8.ofNat n) + 1 := rfl
    rw [List.cons_append, ei, u8_ne hn (h d (List.mem_cons_self ..)), indexByte_skip hn (s := ds) (t := t) fun e he => h e (List.mem_cons_of_mem _ he)]
    by_cases e : Lib.indexByte t (UInt8.ofNat n) = -1
    · simp [e]
    · have hp : ∀ l : List UInt8, -1 ≤ Lib.indexByte l (UInt8.ofNat n) := fun l => by
        induction l with
        | nil => exact Int.le_refl _
        | cons a l ih =>
          have ej : Lib.indexByte (a :: l) (UInt8.ofNat n) = if (a == UInt8.ofNat n) = true then 0 else if Lib.indexByte l (UInt8.ofNat n) == -1 then -1 else Lib.indexByte l (UInt8.ofNat n) + 1 := rfl
          rw [ej]
          split
          · omega
          · split
            · omega
            · omega
      have h0 := hp t
      rw [if_neg e, if_neg e]
      simp only [Bool.false_eq_true, if_false]
      rw [if_neg (by simp; omega)]
      simp only [List.length_cons]
      omega
theorem findR_spec {n : Nat} (hn : n < 256) : ∀ {c acc : V} {k : V → Bool}, findR n c acc k = true → isC acc → ∃ y, k y = true ∧ ∀ ρ m s, LR ρ acc m → RR ρ c s → VR ρ y (.int .i64 (if Lib.indexByte s (UInt8.ofNat n) = -1 then -1 else m + Lib.indexByte s (UInt8.ofNat n))) := by
  intro c
  induction c with
  | nil =>
    intro acc k hk _
    refine ⟨_, hk, fun ρ m s _ hs => ?_⟩
    simp only [RR] at hs
    subst hs
    exact VRi _ _ _
  | cons x l _ ih =>
    intro acc k hk hc
    have hk' : (Bool.rec (ite1 (isThe n x) (mkI 3 acc k)) (lenE x acc fun acc' => findR n l acc' k) (pieceNo n x) : Bool) = true := hk
    cases e : pieceNo n x with
    | false =>
      rw [e] at hk'
      obtain ⟨e1, hk2⟩ := ite1_spec (show ite1 (isThe n x) (mkI 3 acc k) = true from hk')
      obtain ⟨y, g1, g2⟩ := mkI_spec hk2
      refine ⟨y, g1, fun ρ m s hm hs => ?_⟩
      simp only [RR] at hs
      obtain ⟨s1, s2, h1, h2, rfl⟩ := hs
      obtain ⟨d, rfl, hd⟩ := isThe_spec e1 h1
      have ed : d = UInt8.ofNat n := by rw [← hd]; simp
      have e0 : Lib.indexByte ([d] ++ s2) (UInt8.ofNat n) = 0 := by
        have ei : Lib.indexByte (d :: s2) (UInt8.ofNat n) = if (d == UInt8.ofNat n) = true then 0 else if Lib.indexByte s2 (UInt8.ofNat n) == -1 then -1 else Lib.indexByte s2 (UInt8.ofNat n) + 1 := rfl
        show Lib.indexByte (d :: s2) (UInt8.ofNat n) = 0
        rw [ei, ed]
        simp
      rw [e0, if_neg (by omega), Int.add_zero]
      exact g2 ρ m hm
    | true =>
      rw [e] at hk'
      obtain ⟨r, hk2, hcr, hr⟩ := lenE_spec (show lenE x acc (fun acc' => findR n l acc' k) = true from hk') hc
      obtain ⟨y, g1, g2⟩ := ih hk2 hcr
      refine ⟨y, g1, fun ρ m s hm hs => ?_⟩
      simp only [RR] at hs
      obtain ⟨s1, s2, h1, h2, rfl⟩ := hs
      have hv := g2 ρ _ s2 (hr ρ m s1 hm h1) h2
      rw [indexByte_skip hn (pieceNo_spec e h1)]
      by_cases e2 : Lib.indexByte s2 (UInt8.ofNat n) = -1
      · rw [if_pos e2] at hv ⊢
        simpa using hv
      · rw [if_neg e2] at hv ⊢
        have hp : ¬ ((s1.length : Int) + Lib.indexByte s2 (UInt8.ofNat n)) = -1 := by
          have : ∀ l : List UInt8, -1 ≤ Lib.indexByte l (UInt8.ofNat n) := fun l => by
            induction l with
            | nil => exact Int.le_refl _
            | cons a l ih =>
              have ej : Lib.indexByte (a :: l) (UInt8.ofNat n) = if (a == UInt8.ofNat n) = true then 0 else if Lib.indexByte l (UInt8.ofNat n) == -1 then -1 else Lib.indexByte l (UInt8.ofNat n) + 1 := rfl
              rw [ej]
              split
              · omega
              · split
                · omega
                · omega
          have := this s2
          omega
        rw [if_neg hp, ← Int.add_assoc]
        exact hv
  | _ => intro acc k hk _; exact ⟨_, hk, fun ρ m s _ hs => by simp [RR] at hs⟩
def hkAtO : HookF := fun args h nx K => arg0 args fun x r => arg0 r fun y r' => chain (ropK x fun c => lenR c fun m => rgK m fun _ hi => ite1 (ile hi (Int.ofNat 9223372036854775807)) <| vI y fun kd n => ite1 (keq kd .u8) <| Int.rec (motive := fun _ => Bool) (fun m => ite1 (Nat.blt m 256) <| findR m c .nil fun y => K y h nx) (fun _ => false) n) (fun _ _ _ => false) r'
theorem hkAtO_ok (hn : NameOK P) {g : Nat} {fn : Func} {cd : Code} (hf : P.funcs[g]? = some fn) (hb : fn.body = some cd)
    (hC : ∀ (b : ByteArray) (n : Nat) (w : World), b.size ≤ 9223372036854775807 → n < 256 → Calls P g #[.string b, .int .u8 (n : Int)] w fun e w' => e = .returned (.int .i64 (Lib.indexByte b.data.toList (UInt8.ofNat n))) ∧ Stays w w') : HookOk P ng g hkAtO := by
  intro args h nx K Kp hk ρ w vs s _ hv
  obtain ⟨x, r, rfl, hk2⟩ := arg0_spec hk
  obtain ⟨y, r', rfl, hk3⟩ := arg0_spec hk2
  simp only [VRs] at hv
  obtain ⟨v1, l1, rfl, h1, v2, l2, rfl, h2, h3⟩ := hv
  cases r' <;> first | (simp only [VRs] at h3; done) | exact Bool.noConfusion hk3 | skip
  simp only [VRs] at h3
  subst h3
  obtain ⟨c, hk4, hc⟩ := ropK_spec (show ropK x (fun c => lenR c fun m => rgK m fun _ hi => ite1 (ile hi (Int.ofNat 9223372036854775807)) <| vI y fun kd n => ite1 (keq kd .u8) <| Int.rec (motive := fun _ => Bool) (fun m => ite1 (Nat.blt m 256) <| findR m c .nil fun y => K y h nx) (fun _ => false) n) = true from hk3)
  obtain ⟨m, hk5, _, hm⟩ := lenR_spec hk4
  obtain ⟨lo, hi, hk6, hr⟩ := rgK_spec hk5
  obtain ⟨e0, hk7⟩ := ite1_spec hk6
  have e0 := ile_spec e0
  obtain ⟨kd, n, rfl, hk8⟩ := vI_spec (v := y) hk7
  obtain ⟨e1, hk9⟩ := ite1_spec hk8
  have e1 := keq_eq e1
  subst e1
  cases n with
  | negSucc n => exact Bool.noConfusion hk9
  | ofNat n =>
    obtain ⟨e2, hk10⟩ := ite1_spec (show ite1 (Nat.blt n 256) (findR n c .nil fun y => K y h nx) = true from hk9)
    have e2 := Nat.blt_eq.mp e2
    simp only [VR] at h2
    subst h2
    obtain ⟨b, rfl, hb2⟩ := hc ρ _ h1
    have hl := (hr ρ _ (hm ρ _ hb2)).2
    have hz : b.size ≤ 9223372036854775807 := by
      have e : b.data.toList.length = b.size := rfl
      rw [e] at hl
      have z : Int.ofNat 9223372036854775807 = 9223372036854775807 := rfl
      rw [z] at e0
      omega
    obtain ⟨y, g1, g2⟩ := findR_spec e2 hk10 (show isC .nil from trivial)
    have hv := g2 ρ 0 b.data.toList (by simp [LR]) hb2
    refine upon_of_calls hn hf hb ((hC b n w hz e2).mono fun e w' ⟨h1, h2⟩ => ⟨_, h1, ?_, h2⟩) s g1
    by_cases e3 : Lib.indexByte b.data.toList (UInt8.ofNat n) = -1
    · rw [if_pos e3] at hv
      rw [e3]
      exact hv
    · rw [if_neg e3, Int.zero_add] at hv
      exact hv
end
end Go.Mx
