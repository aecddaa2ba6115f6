/-
  A part of a small executor of the model, proved sound (27 of 34). No condition.
-/
import Derived.Test.YtoflpofblogmcaaGreatDoorXMxAG
import Derived.Test.YtoflpofblogmcaaGreatDoorXMxN
import Derived.Test.YtoflpofblogmcaaGreatDoorXMxAJ
namespace Go.Mx
open Instr Builtin RowKit
noncomputable section
variable {P : Program} {ρ : Ren} {h : T O} {nx : Nat} {w : World} {ng : Nat}
def noSetR (cs : List Nat) (c : V) : Bool := chain true (fun y _ ih => ite1 (noSet cs y) ih) c
theorem noSetR_spec {cs : List Nat} (hb : ∀ n ∈ cs, n < 256) : ∀ {c : V} {s : List UInt8}, noSetR cs c = true → RR ρ c s → ∀ x ∈ s, (cs.map UInt8.ofNat).contains x = false := by
  intro c
  induction c with
  | nil => intro s _ hs x hx; simp only [RR] at hs; subst hs; cases hx
  | cons y r ihy ih =>
    clear ihy
    intro s hk hs x hx
    obtain ⟨h1, h2⟩ := ite1_spec (show ite1 (noSet cs y) (noSetR cs r) = true from hk)
    simp only [RR] at hs
    obtain ⟨s1, s2, p1, p2, rfl⟩ := hs
    rcases List.mem_append.1 hx with hx | hx
    · exact noSet_spec p1 h1 hb x hx
    · exact ih h2 p2 x hx
  | _ => intro s _ hs; simp only [RR] at hs
def keepV (t : Bool) (x : V) : V := Bool.rec (motive := fun _ => V) x (.t (.cons x (.cons (.b true) .nil))) t
def keepX (t : Bool) (s : ByteArray) : Value := Bool.rec (motive := fun _ => Value) (.string s) (.tuple #[.string s, .bool true]) t
def hkKeepS (cs : List Nat) (t : Bool) (e : HookF) : HookF := fun args h nx K => arg0 args fun x r => Bool.rec (e args h nx K) (chain (M := Bool) (K (keepV t x) h nx) (fun _ _ _ => false) r)
  (ropK x fun c => ite1 (noSetR cs c) <| atMost c 1000000 fun _ => true)
theorem hkKeepS_ok (hn : NameOK P) {g : Nat} {fn : Func} {cd : Code} (hf : P.funcs[g]? = some fn) (hb : fn.body = some cd) {e : HookF} (he : HookOk P ng g e) {cs : List Nat} (hcs : ∀ n ∈ cs, n < 256) {t : Bool}
    (hc : ∀ (s : ByteArray) (w : World), s.size ≤ 1000000 → (∀ x ∈ s.data.toList, (cs.map UInt8.ofNat).contains x = false) → Calls P g #[.string s] w fun e w' => e = .returned (keepX t s) ∧ Stays w w') : HookOk P ng g (hkKeepS cs t e) := by
  intro args h nx K Kp hk ρ w vs s hg hvs
  have hk0 := hk
  replace hk := arg0_spec hk
  obtain ⟨y, r, rfl, hk⟩ := hk
  generalize hq : (ropK y fun c => ite1 (noSetR cs c) <| atMost c 1000000 fun _ => true) = q at hk
  cases q with
  | false => exact he _ h nx K Kp hk ρ w vs s hg hvs
  | true =>
    simp only [VRs] at hvs
    obtain ⟨v1, vr, rfl, hv1, hv2⟩ := hvs
    cases r <;> first | (simp only [VRs] at hv2; done) | exact Bool.noConfusion hk | skip
    simp only [VRs] at hv2
    subst hv2
    obtain ⟨c, h1, h2⟩ := ropK_spec hq
    obtain ⟨b, rfl, hrr⟩ := h2 ρ v1 hv1
    obtain ⟨e1, e2⟩ := ite1_spec h1
    obtain ⟨_, _, hmost⟩ := atMost_spec e2
    have hle := (hmost ρ _ hrr).2
    have hsz : b.size = b.data.toList.length := rfl
    refine upon_of_calls hn hf hb (y := keepV t y) ?_ s hk
    refine (hc b w (by omega) (noSetR_spec hcs e1 hrr)).mono fun e w' ⟨h4, h5⟩ => ⟨_, h4, ?_, h5⟩
    cases t with
    | false => exact hv1
    | true =>
      show VR ρ (.t (.cons y (.cons (.b true) .nil))) (.tuple #[.string b, .bool true])
      simp only [VR, VRs]
      exact ⟨_, ⟨_, _, rfl, hv1, _, _, rfl, rfl, rfl⟩, rfl⟩
theorem calls_of_ck (hn : NameOK P) {R : CK} (hR : CKok P ng R) {g : Nat} {fn : Func} {cd : Code} (hf : P.funcs[g]? = some fn) (hb : fn.body = some cd) {args : V} {vs : List Value} {K1 : KV} {φ : Value → Prop}
    (hv : ∀ ρ : Ren, VRs ρ args vs) (hrun : R g args .leaf ng K1 (fun _ _ _ => false) = true) (hK : ∀ ρ' y v h' nx', K1 y h' nx' = true → VR ρ' y v → φ v) (W : World) :
    Calls P g ⟨vs⟩ W fun e W' => ∃ v, e = .returned v ∧ φ v ∧ Stays W W' := by
  let ρr : Ren := fun i => if i < ng then some ⟨i, 0, 0⟩ else none
  have none0 : ∀ i, ¬ (gt O.none i (.leaf : T O)).live := fun i hi => by rw [gt_leaf] at hi; exact hi
  have sr : St ρr (.leaf : T O) ng W := ⟨fun id L hi _ => (none0 id hi).elim, fun i j L M hi _ _ _ _ => (none0 i (O.live_of_wr hi)).elim, fun i hi => by
    have h1 : ¬ i < ng := by omega
    simp only [ρr, h1, if_false], fun i _ => none0 i⟩
  have gr : RG ng ρr := fun i hi => ⟨⟨i, 0, 0⟩, by simp [ρr, hi], rfl, rfl⟩
  have up := hR g args .leaf ng K1 (fun _ _ _ => false) hrun ρr W vs sr gr (hv ρr)
  let o : Oper := { (default : Oper) with dst := some 0 }
  let a : Act := { tmps := #[undef], defers := [] }
  have h := up o a (fun a' W' => ∃ v, a'.tmps[0]? = some v ∧ φ v ∧ Stays W W') (fun _ _ _ => False) (fun ρ' y h' nx' v w' hv' _ hx hky => ?_) (fun ρ' y h' nx' v w' _ _ _ hky => Bool.noConfusion hky)
  · rw [callFunc_enter hn hf hb, Oper.upon_enter] at h
    refine h.mono fun e W' hr => ?_
    cases e with
    | returned v =>
      obtain ⟨v2, h1, h2, h3⟩ := hr
      have : v = v2 := by simpa [Act.put, o, a] using h1
      exact ⟨v, rfl, this ▸ h2, h3⟩
    | panicked c => exact hr.elim
    | outgrown => obtain ⟨_, _, hq⟩ := hr; exact hq.elim
  · exact ⟨v, by simp [Act.put, o, a], hK ρ' y v h' nx' hky hv', hx.size, hx.os, hx.tape, hx.output, fun b hb => (hx.kept b hb fun id L hw _ => (none0 id (O.live_of_wr hw)).elim).1⟩
end
end Go.Mx
namespace Go.Mx
open Instr Builtin RowKit
noncomputable section
variable {P : Program} {ρ : Ren} {h : T O} {nx : Nat} {w : World} {ng : Nat}
def brkV (lo hi n ng : Nat) : V := .cons (.i .u8 (Int.ofNat 91)) (atomsV lo hi n ng (.cons (.i .u8 (Int.ofNat 93)) .nil))
def brkT (lo hi M B : Nat) (c : V) : Bool := arg0 c fun a r => ite1 (isEqB 91 a) <| arg0 r fun m r => ite1 (someB m) <| ite1 (allIn lo hi M (.cons m .nil)) <| ite1 (atMost (.cons m .nil) B fun _ => true) <| arg0 r fun b r => ite1 (isEqB 93 b) (sameV r .nil)
theorem brkT_spec {lo hi M B : Nat} (hM : mskIn lo hi M = true) {c : V} {s : List UInt8} (hk : brkT lo hi M B c = true) (hs : RR ρ c s) : ∃ t : List UInt8, s = 91 :: (t ++ [93]) ∧ (∀ d ∈ t, lo ≤ d.toNat ∧ d.toNat ≤ hi) ∧ t.length ≤ B ∧ 1 ≤ t.length := by
  obtain ⟨a, r, rfl, h1⟩ := arg0_spec (show arg0 c _ = true from hk)
  obtain ⟨e1, h2⟩ := ite1_spec h1
  obtain ⟨m, r2, rfl, h3⟩ := arg0_spec h2
  obtain ⟨e5, h3'⟩ := ite1_spec h3
  obtain ⟨e2, h4⟩ := ite1_spec h3'
  obtain ⟨e3, h5⟩ := ite1_spec h4
  obtain ⟨b, r3, rfl, h6⟩ := arg0_spec h5
  obtain ⟨e4, h7⟩ := ite1_spec h6
  have h7 := sameV_eq h7
  subst h7
  simp only [RR] at hs
  obtain ⟨s1, s2, p1, ⟨s3, s4, p2, ⟨s5, s6, p3, rfl, rfl⟩, rfl⟩, rfl⟩ := hs
  obtain ⟨c1, rfl, q1⟩ := isEqB_spec e1 p1
  obtain ⟨c2, rfl, q2⟩ := isEqB_spec e4 p3
  obtain ⟨c3, r3', e6⟩ := someB_spec e5 p2
  have hm : RR ρ (.cons m .nil) s3 := by simp only [RR]; exact ⟨s3, [], p2, rfl, (List.append_nil _).symm⟩
  obtain ⟨_, _, hmost⟩ := atMost_spec e3
  have w1 : c1 = 91 := by apply UInt8.toNat_inj.1; rw [q1]; rfl
  have w2 : c2 = 93 := by apply UInt8.toNat_inj.1; rw [q2]; rfl
  subst w1
  subst w2
  exact ⟨s3, by simp, allIn_spec hM e2 hm, (hmost ρ _ hm).2, by rw [e6]; simp⟩
def hkBrk (l : List (Nat × V)) (lo hi M B : Nat) (rest ans : V) (e : HookF) : HookF := fun args h nx K => arg0 args fun y r => Bool.rec (e args h nx K) (hasT l h (K ans h nx)) (ite1 (sameV r rest) (ropK y fun c => brkT lo hi M B c))
theorem hkBrk_ok {R : CK} (hR : CKok P ng R) {g : Nat} {l : List (Nat × V)} {lo hi M B : Nat} {rest ans : V} {e : HookF} (he : HookOk P ng g e) (hl : inT ng l = true) (hM : mskIn lo hi M = true)
    (hrest : ∀ (ρ ρ' : Ren) vs, VRs ρ rest vs → VRs ρ' rest vs) (hans : ∀ (ρ ρ' : Ren) v, VR ρ ans v → VR ρ' ans v)
    (hrun : ∀ n, 1 ≤ n → n ≤ B → ∀ τ : Nat → Nat, mkTK τ l .leaf (fun h0 => R g (.cons (.w (brkV lo hi n ng)) rest) h0 (ng + n) (fun v _ _ => sameV v ans) (fun _ _ _ => false)) = true) : HookOk P ng g (hkBrk l lo hi M B rest ans e) := by
  intro args h nx K Kp hk ρ w vs s hg hvs
  replace hk := arg0_spec hk
  obtain ⟨y, r, rfl, hk⟩ := hk
  generalize hc : (ite1 (sameV r rest) (ropK y fun c => brkT lo hi M B c)) = q at hk
  cases q with
  | false => exact he _ h nx K Kp hk ρ w vs s hg hvs
  | true =>
  simp only [VRs] at hvs
  obtain ⟨v1, vr, rfl, hv1, hv2⟩ := hvs
  replace hc := ite1_spec hc
  obtain ⟨e0, hc⟩ := hc
  have e0 := sameV_eq e0
  subst e0
  obtain ⟨hkk, htab⟩ := hasT_spec (show hasT l h (K ans h nx) = true from hk)
  obtain ⟨c, hc, hrp⟩ := ropK_spec hc
  obtain ⟨b, rfl, hrr⟩ := hrp ρ v1 hv1
  obtain ⟨t, ht, hall, hle, hge⟩ := brkT_spec hM hc hrr
  have hat : ∀ (j : Nat) (d : UInt8), t[j]? = some d → ∃ L, atomsR ng (t.map UInt8.toNat) (ng + j) = some L ∧ L.base = d.toNat := fun j d hj => atomsR_at (by simp [hj])
  have hw : VR (atomsR ng (t.map UInt8.toNat)) (.w (brkV lo hi t.length ng)) (.string b) := by
    simp only [VR]
    refine ⟨b, rfl, ?_⟩
    have h1 := VRs_atoms (ρ := atomsR ng (t.map UInt8.toNat)) (lo := lo) (hi := hi) (r := .cons (.i .u8 (Int.ofNat 93)) .nil) (rs := [byteV 93]) (by
      simp only [VRs]
      exact ⟨_, _, rfl, by simp only [VR]; rfl, rfl⟩) t ng hall hat
    unfold bytesV
    rw [ht]
    show VRs _ (.cons (.i .u8 (Int.ofNat 91)) (atomsV lo hi t.length ng (.cons (.i .u8 (Int.ofNat 93)) .nil))) _
    simp only [VRs]
    refine ⟨byteV 91, t.map byteV ++ [byteV 93], by simp, by simp only [VR]; rfl, h1⟩
  have nolive : ∀ i, ¬ (gt O.none i (putO [] (.leaf : T O))).live := fun i hi => by rw [show putO [] (.leaf : T O) = .leaf from rfl, gt_leaf] at hi; exact hi.elim
  obtain ⟨ρs, h0, hle2, hwr, hsame, _, _, up⟩ := smallRun hR (A := .cons (.w (brkV lo hi t.length ng)) r) (vs := .string b :: vr) (ob := []) (N := ng + t.length) hl s hg htab (ρb := atomsR ng (t.map UInt8.toNat)) (by omega)
    (fun i L hi => by
      unfold atomsR at hi
      by_cases e : i < ng
      · rw [if_pos e] at hi; cases hi
      · rw [if_neg e] at hi
        obtain ⟨m, hm, _⟩ := Option.map_eq_some_iff.1 hi
        have := (List.getElem?_eq_some_iff.1 hm).1
        rw [List.length_map] at this
        omega)
    (fun i hi => (nolive i hi).elim)
    (fun i L hi => (nolive i (O.live_of_wr hi)).elim)
    (by simp only [VRs]; exact ⟨_, _, rfl, hw, hrest _ _ _ hv2⟩) (hrun t.length hge hle)
  have nowr : ∀ i, ¬ (gt O.none i h0).wr := fun i hi => nolive i (O.live_of_wr (hwr i hi))
  intro o a next Q h1 _
  refine up o a next Q (fun ρ' z h' nx' v w' hv' _ hx hky => ?_) (fun ρ' y h' nx' v w' _ _ _ hky => Bool.noConfusion hky)
  obtain ⟨g1, g2⟩ := ro_back s hx nowr
  have hky := sameV_eq (show sameV z ans = true from hky)
  subst hky
  exact h1 ρ _ h nx _ w' (hans _ _ _ hv') g1 g2 hkk
def hkCountP : HookF := fun args h nx K => arg0 args fun x r => arg0 r fun y r' => chain (M := Bool) (ropK x fun c => vI y fun kd n => ite1 (keq kd .u8) <| Int.rec (motive := fun _ => Bool) (fun m => ite1 (Nat.blt m 256) <| ite1 (noSetR [m] c) <| K (.i .i64 (Int.ofNat 0)) h nx) (fun _ => false) n) (fun _ _ _ => false) r'
theorem hkCountP_ok {g : Nat} {fn : Func} (hf : P.funcs[g]? = some fn) (hname : (fn.name == "runtime.NumGoroutine") = false) (hb : fn.body.isNone = true) (hn : Extern.findNext fn = none) (he : Extern.find fn = some Extern.BytealgCount.count) : HookOk P ng g hkCountP := by
  intro args h nx K Kp hk ρ w vs s _ hv
  obtain ⟨x, r, rfl, hk2⟩ := arg0_spec hk
  obtain ⟨y, r', rfl, hk3⟩ := arg0_spec hk2
  simp only [VRs] at hv
  obtain ⟨v1, l1, rfl, h1, v2, l2, rfl, h2, h3⟩ := hv
  cases r' <;> first | (simp only [VRs] at h3; done) | exact Bool.noConfusion hk3 | skip
  simp only [VRs] at h3
  subst h3
  obtain ⟨c, hk4, hc⟩ := ropK_spec (show ropK x (fun c => vI y fun kd n => ite1 (keq kd .u8) <| Int.rec (motive := fun _ => Bool) (fun m => ite1 (Nat.blt m 256) <| ite1 (noSetR [m] c) <| K (.i .i64 (Int.ofNat 0)) h nx) (fun _ => false) n) = true from hk3)
  obtain ⟨kd, n, rfl, hk5⟩ := vI_spec (v := y) hk4
  obtain ⟨e1, hk6⟩ := ite1_spec hk5
  have e1 := keq_eq e1
  subst e1
  cases n with
  | negSucc n => exact Bool.noConfusion hk6
  | ofNat n =>
    obtain ⟨e2, hk7⟩ := ite1_spec (show ite1 (Nat.blt n 256) (ite1 (noSetR [n] c) (K (.i .i64 (Int.ofNat 0)) h nx)) = true from hk6)
    have e2 := Nat.blt_eq.mp e2
    obtain ⟨e3, hk8⟩ := ite1_spec hk7
    simp only [VR] at h2
    subst h2
    obtain ⟨b, rfl, hb2⟩ := hc ρ _ h1
    have hr := Lib.run_countString (P := P) b (n : Int) w
    have e : ((n : Int).toNat.toUInt8) = UInt8.ofNat n := by simp
    have hno := noSetR_spec (cs := [n]) (fun m hm => by rw [List.mem_singleton] at hm; omega) e3 hb2
    have h0 : Lib.countByte b.data.toList (UInt8.ofNat n) = 0 := by
      unfold Lib.countByte
      refine List.count_eq_zero.2 fun hm => ?_
      have := hno _ hm
      simp at this
    rw [e, h0] at hr
    exact UponOK.val (upon_extern hf hname hb hn he hr) (VRi _ _ _) s (Ext.refl _ _ _) hk8
def is64 (v : V) : Bool := rngK v fun kd _ hi _ => ite1 (keq kd .u64) (Nat.ble hi 18446744073709551615)
theorem is64_spec {v : V} (hk : is64 v = true) {x : Value} (hv : VR ρ v x) : ∃ n : Nat, x = .int .u64 (n : Int) ∧ n ≤ 18446744073709551615 := by
  obtain ⟨kd, lo, hi, i, hk2, hr⟩ := rngK_spec (show (rngK v fun kd _ hi _ => ite1 (keq kd .u64) (Nat.ble hi 18446744073709551615)) = true from hk)
  obtain ⟨e1, e2⟩ := ite1_spec hk2
  have e1 := keq_eq e1
  subst e1
  have e2 := Nat.le_of_ble_eq_true e2
  obtain ⟨n, rfl, hin⟩ := hr ρ _ hv
  exact ⟨n, rfl, Nat.le_trans hin.2.1 e2⟩
def free4 (nx : Nat) : V := .cons (freeV nx) (.cons (freeV (nx + 1)) (.cons (freeV (nx + 2)) (.cons (freeV (nx + 3)) .nil)))
def AddSaid (P : Program) (g : Nat) : Prop := ∀ (b o : Nat) (arr : Array Value) (ty : TypeId) (fz : Nat × Nat) (w : World) (c : UInt8) (m : Nat → Nat), w.heap[b]? = some (.cells arr ty fz) → free arr.size fz → (∀ i, i < 4 → arr[o + i]? = some (.int .u64 (m i : Int)) ∧ m i ≤ 18446744073709551615) →
  Calls P g #[.pointer (some ⟨b, o, none⟩), .int .u8 (c.toNat : Int), .int .u8 (c.toNat : Int)] w fun e w' => e = .returned (.tuple #[]) ∧ ∃ i m' : Nat, i < 4 ∧ m' ≤ 18446744073709551615 ∧
    w'.heap = w.heap.setIfInBounds b (.cells (arr.setIfInBounds (o + i) (.int .u64 (m' : Int))) ty fz) ∧ w'.os = w.os ∧ w'.tape = w.tape ∧ w'.output = w.output
def hkAdd (e : HookF) : HookF := fun args h nx K => arg0 args fun p r => arg0 r fun x r2 => Bool.rec (e args h nx K)
  (vP p fun id off => oC (gt O.none id h) fun l ty wr => ite1 wr <| nthK l off fun z0 => ite1 (is64 z0) <| nthK l (off + 1) fun z1 => ite1 (is64 z1) <| nthK l (off + 2) fun z2 => ite1 (is64 z2) <| nthK l (off + 3) fun z3 => ite1 (is64 z3) <|
    putK l off (free4 nx) fun l' => stK O.none (.c l' ty true) id h fun h' => K (.t .nil) h' (nx + 4))
  (ite1 (sameV r2 (.cons x .nil)) (rngK x fun kd lo hi i => ite1 (keq kd .u8) <| ite1 (Nat.ble hi 255) <| ite1 (Nat.blt lo hi) (same3 lo hi i lo hi i)))
theorem hkAdd_ok (hn : NameOK P) {g : Nat} {fn : Func} {cd : Code} (hf : P.funcs[g]? = some fn) (hb : fn.body = some cd) {e : HookF} (he : HookOk P ng g e) (hC : AddSaid P g) : HookOk P ng g (hkAdd e) := by
  intro args h nx K Kp hk ρ w vs s hg hvs
  replace hk := arg0_spec hk
  obtain ⟨p, r, rfl, hk⟩ := hk
  replace hk := arg0_spec hk
  obtain ⟨x, r2, rfl, hk⟩ := hk
  generalize hc : (ite1 (sameV r2 (.cons x .nil)) (rngK x fun kd lo hi i => ite1 (keq kd .u8) <| ite1 (Nat.ble hi 255) <| ite1 (Nat.blt lo hi) (same3 lo hi i lo hi i))) = q at hk
  cases q with
  | false => exact he _ h nx K Kp hk ρ w vs s hg hvs
  | true =>
  replace hc := ite1_spec hc
  obtain ⟨e0, hc⟩ := hc
  have e0 := sameV_eq e0
  subst e0
  obtain ⟨kd, lo, hi, ii, hc2, hr⟩ := rngK_spec hc
  obtain ⟨e1, hc3⟩ := ite1_spec hc2
  have e1 := keq_eq e1
  subst e1
  obtain ⟨e2, hc4⟩ := ite1_spec hc3
  obtain ⟨_, e3⟩ := ite1_spec hc4
  have e2 := Nat.le_of_ble_eq_true e2
  simp only [VRs] at hvs
  obtain ⟨v0, _, rfl, hp, v1, _, rfl, h1, v2, _, rfl, h2, rfl⟩ := hvs
  obtain ⟨n1, rfl, hin⟩ := hr ρ _ h1
  obtain ⟨n2, hn2, hin2⟩ := hr ρ _ h2
  subst hn2
  have hfn : n1 = n2 := (same3_spec e3 hin2 hin).symm
  subst hfn
  have hlt : n1 < 256 := by have := hin.2.1; omega
  replace hk := vP_spec hk
  obtain ⟨id, off, rfl, hk⟩ := hk
  replace hk := oC_spec hk
  obtain ⟨l, ty, wr, ho, hk⟩ := hk
  replace hk := ite1_spec hk
  obtain ⟨ew, hk⟩ := hk
  subst ew
  replace hk := nthK_spec hk
  obtain ⟨z0, hk, t0⟩ := hk
  replace hk := ite1_spec hk
  obtain ⟨u0, hk⟩ := hk
  replace hk := nthK_spec hk
  obtain ⟨z1, hk, t1⟩ := hk
  replace hk := ite1_spec hk
  obtain ⟨u1, hk⟩ := hk
  replace hk := nthK_spec hk
  obtain ⟨z2, hk, t2⟩ := hk
  replace hk := ite1_spec hk
  obtain ⟨u2, hk⟩ := hk
  replace hk := nthK_spec hk
  obtain ⟨z3, hk, t3⟩ := hk
  replace hk := ite1_spec hk
  obtain ⟨u3, hk⟩ := hk
  obtain ⟨L, arr, fz, hL, rfl, hh, hsz, hfz, hbs, hcr⟩ := s.at ho hp
  replace hk := putK_spec hk (CR_isC hcr) (by simp [free4, isC])
  obtain ⟨l', hk, _, hput, _⟩ := hk
  rw [stK_eq] at hk
  obtain ⟨y0, k0, r0⟩ := t0 ρ _ hcr
  obtain ⟨y1, k1, r1⟩ := t1 ρ _ hcr
  obtain ⟨y2, k2, r2⟩ := t2 ρ _ hcr
  obtain ⟨y3, k3, r3⟩ := t3 ρ _ hcr
  obtain ⟨m0, rfl, b0⟩ := is64_spec u0 r0
  obtain ⟨m1, rfl, b1⟩ := is64_spec u1 r1
  obtain ⟨m2, rfl, b2⟩ := is64_spec u2 r2
  obtain ⟨m3, rfl, b3⟩ := is64_spec u3 r3
  simp only [List.getElem?_drop, Array.getElem?_toList] at k0 k1 k2 k3
  let m : Nat → Nat := fun i => if i = 0 then m0 else if i = 1 then m1 else if i = 2 then m2 else m3
  have hm : ∀ i, i < 4 → arr[L.base + off + i]? = some (.int .u64 (m i : Int)) ∧ m i ≤ 18446744073709551615 := by
    intro i hi
    match i, hi with
    | 0, _ => exact ⟨by rw [show L.base + off + 0 = L.base + off by omega]; exact k0, b0⟩
    | 1, _ => exact ⟨by rw [show L.base + off + 1 = L.base + (off + 1) by omega]; exact k1, b1⟩
    | 2, _ => exact ⟨by rw [show L.base + off + 2 = L.base + (off + 2) by omega]; exact k2, b2⟩
    | 3, _ => exact ⟨by rw [show L.base + off + 3 = L.base + (off + 3) by omega]; exact k3, b3⟩
  have hcall := hC L.blk (L.base + off) arr ty fz w (UInt8.ofNat n1) m hh (by rw [hsz]; exact hfz rfl) hm
  have en : (UInt8.ofNat n1).toNat = n1 := by simp; omega
  rw [en] at hcall
  intro o a next Q g1 _
  show o.upon P a next Q ((callFunc g #[.pointer (some ⟨L.blk, L.base + off, none⟩), .int .u8 (n1 : Int), .int .u8 (n1 : Int)]).run P w)
  rw [callFunc_enter hn hf hb, Oper.upon_enter]
  refine hcall.mono fun e w' ⟨he1, i, m', hi4, hm', hw, ho1, ht1, hou⟩ => ?_
  subst he1
  have hlen : L.base + off + 3 < arr.size := (Array.getElem?_eq_some_iff.1 (hm 3 (by omega)).1).1
  let q : Nat → Nat := fun j => if j = i then m' else m j
  have hq : ∀ j, j < 4 → (arr.setIfInBounds (L.base + off + i) (.int .u64 (m' : Int)))[L.base + off + j]? = some (.int .u64 (q j : Int)) ∧ q j ≤ 18446744073709551615 := by
    intro j hj
    by_cases e : j = i
    · subst e
      refine ⟨?_, by simp only [q, if_true]; exact hm'⟩
      rw [Array.getElem?_setIfInBounds, if_pos rfl, if_pos (by omega)]
      simp only [q, if_true]
    · refine ⟨?_, by simp only [q, e, if_false]; exact (hm j hj).2⟩
      rw [Array.getElem?_setIfInBounds_ne (by omega)]
      simp only [q, e, if_false]
      exact (hm j hj).1
  obtain ⟨s1, x1⟩ := s.atom ⟨0, q 0, 0⟩
  obtain ⟨s2, x2⟩ := s1.atom ⟨0, q 1, 0⟩
  obtain ⟨s3, x3⟩ := s2.atom ⟨0, q 2, 0⟩
  obtain ⟨s4, x4⟩ := s3.atom ⟨0, q 3, 0⟩
  have xa := x1.trans (x2.trans (x3.trans x4))
  have hwr : (gt O.none id h).wr := asC_wr ho
  have hns : VRs (upd (upd (upd (upd ρ nx ⟨0, q 0, 0⟩) (nx + 1) ⟨0, q 1, 0⟩) (nx + 1 + 1) ⟨0, q 2, 0⟩) (nx + 1 + 1 + 1) ⟨0, q 3, 0⟩) (free4 nx) [.int .u64 (q 0 : Int), .int .u64 (q 1 : Int), .int .u64 (q 2 : Int), .int .u64 (q 3 : Int)] := by
    simp only [free4, freeV, VR, VRs]
    refine ⟨_, _, rfl, ⟨⟨0, q 0, 0⟩, (x2.trans (x3.trans x4)).le _ _ (upd_same _ _ _), Nat.zero_le _, (hq 0 (by omega)).2, rfl⟩, _, _, rfl, ⟨⟨0, q 1, 0⟩, (x3.trans x4).le _ _ (upd_same _ _ _), Nat.zero_le _, (hq 1 (by omega)).2, rfl⟩, _, _, rfl, ⟨⟨0, q 2, 0⟩, x4.le _ _ (upd_same _ _ _), Nat.zero_le _, (hq 2 (by omega)).2, rfl⟩, _, _, rfl, ⟨⟨0, q 3, 0⟩, upd_same _ _ _, Nat.zero_le _, (hq 3 (by omega)).2, rfl⟩, rfl⟩
  obtain ⟨hcr', _, _⟩ := hput _ _ _ (hcr.mono xa.le) hns
  have hA1 : ∀ j, ((arr.setIfInBounds (L.base + off + i) (.int .u64 (m' : Int))).toList.drop L.base)[j]? = (arr.setIfInBounds (L.base + off + i) (.int .u64 (m' : Int)))[L.base + j]? := fun j => by rw [List.getElem?_drop, Array.getElem?_toList]
  have hA0 : ∀ j, (List.drop L.base arr.toList)[j]? = arr[L.base + j]? := fun j => by rw [List.getElem?_drop, Array.getElem?_toList]
  have harr : lput (arr.toList.drop L.base) off [.int .u64 (q 0 : Int), .int .u64 (q 1 : Int), .int .u64 (q 2 : Int), .int .u64 (q 3 : Int)] = (arr.setIfInBounds (L.base + off + i) (.int .u64 (m' : Int))).toList.drop L.base := by
    apply List.ext_getElem?
    intro j
    rw [hA1 j]
    unfold lput
    rw [List.append_assoc]
    have el : (List.take off (List.drop L.base arr.toList)).length = off := by rw [List.length_take, List.length_drop, Array.length_toList]; omega
    by_cases c1 : j < off
    · rw [List.getElem?_append_left (by omega), List.getElem?_take, if_pos c1, hA0 j, Array.getElem?_setIfInBounds_ne (by omega)]
    · rw [List.getElem?_append_right (by omega), el]
      by_cases c2 : j < off + 4
      · rw [List.getElem?_append_left (by simp; omega)]
        have h5 := (hq (j - off) (by omega)).1
        rw [show L.base + off + (j - off) = L.base + j by omega] at h5
        rw [h5]
        obtain ⟨d, hd⟩ : ∃ d, d = j - off := ⟨_, rfl⟩
        rw [← hd]
        have hd4 : d < 4 := by omega
        match d, hd4 with
        | 0, _ => rfl
        | 1, _ => rfl
        | 2, _ => rfl
        | 3, _ => rfl
      · have e4 : [Value.int .u64 (q 0 : Int), Value.int .u64 (q 1 : Int), Value.int .u64 (q 2 : Int), Value.int .u64 (q 3 : Int)].length = 4 := rfl
        rw [List.getElem?_append_right (by omega), e4, List.getElem?_drop, hA0, Array.getElem?_setIfInBounds_ne (by omega)]
        congr 1
        omega
  rw [harr] at hcr'
  obtain ⟨s5, x5⟩ := s4.write (id := id) (L := L) hwr (xa.le _ _ hL) (o := .c l' ty true) (ob := .cells (arr.setIfInBounds (L.base + off + i) (.int .u64 (m' : Int))) ty fz)
    ⟨_, fz, rfl, by rw [Array.size_setIfInBounds]; exact hsz, fun _ => by exact hfz rfl, by simpa using hbs, hcr'⟩ hw ho1 ht1 hou
  exact g1 _ (.t .nil) _ (nx + 4) _ w' (by simp only [VR, VRs]; exact ⟨_, rfl, rfl⟩) s5 (xa.trans x5) hk
end
end Go.Mx
