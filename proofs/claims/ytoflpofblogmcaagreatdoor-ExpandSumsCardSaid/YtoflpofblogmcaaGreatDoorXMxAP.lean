/-
  A part of a small executor of the model, proved sound (28 of 34). No condition.
-/
import Derived.Test.YtoflpofblogmcaaGreatDoorXMxAM
import Derived.Test.YtoflpofblogmcaaGreatDoorXMxX
import Derived.Test.YtoflpofblogmcaaGreatDoorXMxAJ
namespace Go.Mx
open Instr Builtin RowKit
noncomputable section
variable {P : Program} {ρ : Ren} {h : T O} {nx : Nat} {w : World} {ng : Nat}
def cntR (n : Nat) (c : V) : Nat → (Nat → Bool) → Bool := chain (M := Nat → (Nat → Bool) → Bool) (fun i k => k i) (fun y _ ih i k => Bool.rec (ite1 (hitSet [n] y) (ih (Nat.succ i) k)) (ih i k) (noSet [n] y)) c
theorem cntR_spec {n : Nat} (hn : n < 256) : ∀ {c : V} {i : Nat} {k : Nat → Bool} {s : List UInt8}, cntR n c i k = true → RR ρ c s → k (i + s.count (UInt8.ofNat n)) = true := by
  intro c
  have h1 : ∀ m ∈ [n], m < 256 := fun m hm => by rw [List.mem_singleton] at hm; omega
  induction c with
  | nil => intro i k s hk hs; simp only [RR] at hs; subst hs; exact hk
  | cons y r _ ih =>
    intro i k s hk hs
    have hk : (Bool.rec (ite1 (hitSet [n] y) (cntR n r (Nat.succ i) k)) (cntR n r i k) (noSet [n] y) : Bool) = true := hk
    simp only [RR] at hs
    obtain ⟨s1, s2, p1, p2, rfl⟩ := hs
    rw [List.count_append]
    cases e : noSet [n] y with
    | true =>
      rw [e] at hk
      have hno := noSet_spec p1 e h1
      have h0 : s1.count (UInt8.ofNat n) = 0 := List.count_eq_zero.2 fun hm => by
        have := hno _ hm
        simp at this
      rw [h0, Nat.zero_add]
      exact ih (show cntR n r i k = true from hk) p2
    | false =>
      rw [e] at hk
      obtain ⟨g1, g2⟩ := ite1_spec hk
      obtain ⟨x, rfl, hx⟩ := hitSet_spec g1 p1
      have hx : x = UInt8.ofNat n := by simpa using hx
      subst hx
      have h0 : [UInt8.ofNat n].count (UInt8.ofNat n) = 1 := by simp
      rw [h0]
      have := ih g2 p2
      rw [show i + (1 + s2.count (UInt8.ofNat n)) = Nat.succ i + s2.count (UInt8.ofNat n) by omega]
      exact this
  | _ => intro i k s _ hs; simp only [RR] at hs
def hkCountQ : HookF := fun args h nx K => arg0 args fun x r => arg0 r fun y r' => chain (M := Bool) (ropK x fun c => vI y fun kd n => ite1 (keq kd .u8) <| Int.rec (motive := fun _ => Bool) (fun m => ite1 (Nat.blt m 256) <| cntR m c 0 fun q => K (.i .i64 (Int.ofNat q)) h nx) (fun _ => false) n) (fun _ _ _ => false) r'
theorem hkCountQ_ok {g : Nat} {fn : Func} (hf : P.funcs[g]? = some fn) (hname : (fn.name == "runtime.NumGoroutine") = false) (hb : fn.body.isNone = true) (hn : Extern.findNext fn = none) (he : Extern.find fn = some Extern.BytealgCount.count) : HookOk P ng g hkCountQ := by
  intro args h nx K Kp hk ρ w vs s _ hv
  obtain ⟨x, r, rfl, hk2⟩ := arg0_spec hk
  obtain ⟨y, r', rfl, hk3⟩ := arg0_spec hk2
  simp only [VRs] at hv
  obtain ⟨v1, l1, rfl, h1, v2, l2, rfl, h2, h3⟩ := hv
  cases r' <;> first | (simp only [VRs] at h3; done) | exact Bool.noConfusion hk3 | skip
  simp only [VRs] at h3
  subst h3
  obtain ⟨c, hk4, hc⟩ := ropK_spec (show ropK x (fun c => vI y fun kd n => ite1 (keq kd .u8) <| Int.rec (motive := fun _ => Bool) (fun m => ite1 (Nat.blt m 256) <| cntR m c 0 fun q => K (.i .i64 (Int.ofNat q)) h nx) (fun _ => false) n) = true from hk3)
  obtain ⟨kd, n, rfl, hk5⟩ := vI_spec (v := y) hk4
  obtain ⟨e1, hk6⟩ := ite1_spec hk5
  have e1 := keq_eq e1
  subst e1
  cases n with
  | negSucc n => exact Bool.noConfusion hk6
  | ofNat n =>
    obtain ⟨e2, hk7⟩ := ite1_spec (show ite1 (Nat.blt n 256) (cntR n c 0 fun q => K (.i .i64 (Int.ofNat q)) h nx) = true from hk6)
    have e2 := Nat.blt_eq.mp e2
    simp only [VR] at h2
    subst h2
    obtain ⟨b, rfl, hb2⟩ := hc ρ _ h1
    have hk8 := cntR_spec e2 hk7 hb2
    rw [Nat.zero_add] at hk8
    have hr := Lib.run_countString (P := P) b (n : Int) w
    have e : ((n : Int).toNat.toUInt8) = UInt8.ofNat n := by simp
    rw [e] at hr
    exact UponOK.val (upon_extern hf hname hb hn he hr) (VRi _ _ _) s (Ext.refl _ _ _) hk8
def trimDigC (args : V) : Bool := arg0 args fun x r => arg0 r fun y r' => chain (M := Bool) (ropK x fun c => ite1 (digK c) <| atMost c 1000 fun _ => ite1 (sameV y (.s [48, 49, 50, 51, 52, 53, 54, 55, 56, 57])) true) (fun _ _ _ => false) r'
def hkTrimDigE (e : HookF) : HookF := fun args h nx K => Bool.rec (e args h nx K) (K (.s []) h nx) (trimDigC args)
theorem hkTrimDigE_ok {g : Nat} {e : HookF} (he : HookOk P ng g e) (h0 : HookOk P ng g hkTrimDig) : HookOk P ng g (hkTrimDigE e) := by
  intro args h nx K Kp hk ρ w vs s gr hv
  have hk0 : (Bool.rec (e args h nx K) (K (.s []) h nx) (trimDigC args) : Bool) = true := hk
  cases q : trimDigC args with
  | false => rw [q] at hk0; exact he args h nx K Kp hk0 ρ w vs s gr hv
  | true =>
    rw [q] at hk0
    have hk1 : K (.s []) h nx = true := hk0
    have h2 : hkTrimDig args h nx K = trimDigC args := by
      unfold hkTrimDig trimDigC
      rw [hk1]
    exact h0 args h nx K Kp (h2.trans q) ρ w vs s gr hv
end
end Go.Mx
namespace Go.Mx
open Instr Builtin RowKit
noncomputable section
variable {P : Program} {ρ : Ren} {h : T O} {nx : Nat} {w : World} {ng : Nat}
def isPc1 (v : V) : Bool := V.rec (motive := fun _ => Bool) (false) (fun _ _ _ _ => false) (fun _ => false) (fun _ _ => false) (fun _ => false) (fun _ _ => false) (false) (fun _ _ _ _ => false) (false) (false) (false) (fun _ => false) (false) (fun _ _ _ => false) (false) (fun _ _ _ => false) (false) (fun _ _ => false) (fun _ _ => false) (fun _ _ _ _ => false) (fun _ _ => false) (fun _ _ _ _ _ => false) (fun t _ _ _ _ _ => Nat.beq t 1) v
def nrmK (S : V) : (V → V → Bool) → Bool := chain (M := (V → V → Bool) → Bool) (fun k => k .nil .nil) (fun y _ ih k => ih fun A B => Bool.rec (k (.cons y A) B) (k A (.cons y B)) (isPc1 y)) S
theorem nrmK_spec : ∀ {S : V} {k : V → V → Bool}, nrmK S k = true → ∃ A B, k A B = true ∧ ∀ ρ n, LR ρ S n → ∃ a b, LR ρ A a ∧ LR ρ B b ∧ n = a + b := by
  intro S
  induction S with
  | nil => intro k hk; exact ⟨.nil, .nil, hk, fun ρ n hn => ⟨0, 0, by simp only [LR], by simp only [LR], by simp only [LR] at hn; omega⟩⟩
  | cons y r _ ih =>
    intro k hk
    obtain ⟨A, B, h1, h2⟩ := ih (show nrmK r (fun A B => Bool.rec (k (.cons y A) B) (k A (.cons y B)) (isPc1 y)) = true from hk)
    cases e : isPc1 y with
    | false =>
      rw [e] at h1
      refine ⟨_, _, h1, fun ρ n hn => ?_⟩
      simp only [LR] at hn
      obtain ⟨m, q, g1, g2, rfl⟩ := hn
      obtain ⟨a, b, g3, g4, rfl⟩ := h2 ρ q g2
      exact ⟨m + a, b, by simp only [LR]; exact ⟨m, a, g1, g3, rfl⟩, g4, by omega⟩
    | true =>
      rw [e] at h1
      refine ⟨_, _, h1, fun ρ n hn => ?_⟩
      simp only [LR] at hn
      obtain ⟨m, q, g1, g2, rfl⟩ := hn
      obtain ⟨a, b, g3, g4, rfl⟩ := h2 ρ q g2
      exact ⟨a, m + b, g3, by simp only [LR]; exact ⟨m, b, g1, g4, rfl⟩, by omega⟩
  | _ => intro k hk; exact ⟨.nil, .nil, hk, fun ρ n hn => by simp only [LR] at hn⟩
def nrm1 (S : V) (k : V → Bool) : Bool := nrmK S fun A B => chain (M := Bool) (k B) (fun x r _ => chain (M := Bool) (k (.cons x B)) (fun _ _ _ => false) r) A
theorem nrm1_spec {S : V} {k : V → Bool} (hk : nrm1 S k = true) : ∃ T, k T = true ∧ ∀ ρ n, LR ρ S n → LR ρ T n := by
  obtain ⟨A, B, h1, h2⟩ := nrmK_spec hk
  cases A
  case nil =>
    refine ⟨B, h1, fun ρ n hn => ?_⟩
    obtain ⟨a, b, g1, g2, rfl⟩ := h2 ρ n hn
    simp only [LR] at g1
    subst g1
    simpa using g2
  case cons x r =>
    cases r
    case nil =>
      refine ⟨.cons x B, h1, fun ρ n hn => ?_⟩
      obtain ⟨a, b, g1, g2, rfl⟩ := h2 ρ n hn
      simp only [LR] at g1 ⊢
      obtain ⟨m, q, g3, rfl, rfl⟩ := g1
      exact ⟨m, b, g3, g2, by omega⟩
    case cons => exact Bool.noConfusion h1
    all_goals
      refine ⟨.cons x B, h1, fun ρ n hn => ?_⟩
      obtain ⟨a, b, g1, g2, rfl⟩ := h2 ρ n hn
      simp only [LR] at g1
      obtain ⟨m, q, _, g4, _⟩ := g1
      exact g4.elim
  all_goals
    refine ⟨B, h1, fun ρ n hn => ?_⟩
    obtain ⟨a, b, g1, g2, rfl⟩ := h2 ρ n hn
    simp only [LR] at g1
def rng3 (B : Nat) (x : V) : Bool := linK x fun kd S => ite1 (Nat.beq kd 3) <| rgK S fun lo hi => ite1 (ile 0 lo) (ile hi (Int.ofNat B))
def decN (x : V) (k : V → Bool) : Bool := linK x fun kd S => ite1 (Nat.beq kd 3) <| nrm1 S fun T => decV 0 (.o 2 T 3 0 0) k
theorem decN_spec {x : V} {k : V → Bool} (hk : decN x k = true) : ∃ y, k y = true ∧ ∀ ρ v, VR ρ x v → ∃ n : Int, v = .int .i64 n ∧ 0 ≤ n ∧ n ≤ 9223372036854775807 ∧ VR ρ y (.string ⟨(Lib.itoa n).toArray⟩) := by
  obtain ⟨kd, S, h1, hx⟩ := linK_spec (show linK x (fun kd S => ite1 (Nat.beq kd 3) <| nrm1 S fun T => decV 0 (.o 2 T 3 0 0) k) = true from hk)
  obtain ⟨e0, h2⟩ := ite1_spec h1
  have e0 := Nat.eq_of_beq_eq_true e0
  subst e0
  obtain ⟨T, h3, hT⟩ := nrm1_spec h2
  obtain ⟨y, h4, hy⟩ := decV_spec h3 (by decide)
  refine ⟨y, h4, fun ρ v hv => ?_⟩
  obtain ⟨n, hn, rfl⟩ := hx ρ v hv
  have h5 : VR ρ (.o 2 T 3 0 0) (.int .i64 n) := by
    simp only [VR, OV]
    exact .inl (.inr (.inl ⟨trivial, n, hT ρ n hn, rfl⟩))
  obtain ⟨m, g1, g2, g3, g4⟩ := hy ρ _ h5
  exact ⟨m, g1, g2, g3, g4⟩
def hkDecN (e : HookF) : HookF := fun args h nx K => arg0 args fun x r => Bool.rec (e args h nx K) (chain (M := Bool) (decN x fun y => K y h nx) (fun _ _ _ => false) r) (isO x)
theorem hkDecN_ok (hn : NameOK P) {g : Nat} {fn : Func} {cd : Code} (hf : P.funcs[g]? = some fn) (hb : fn.body = some cd) {e : HookF} (he : HookOk P ng g e)
    (hC : ∀ (n : Int) (w : World), 0 ≤ n → n ≤ 9223372036854775807 → Calls P g #[.int .i64 n] w fun e w' => e = .returned (.string ⟨(Lib.itoa n).toArray⟩) ∧ Stays w w') : HookOk P ng g (hkDecN e) := by
  intro args h nx K Kp hk ρ w vs s gr hv
  obtain ⟨x, r, rfl, hk2⟩ := arg0_spec hk
  cases e0 : isO x with
  | false => rw [e0] at hk2; exact he _ h nx K Kp hk2 ρ w vs s gr hv
  | true =>
  rw [e0] at hk2
  simp only [VRs] at hv
  obtain ⟨v1, l1, rfl, h1, h2⟩ := hv
  cases r <;> first | (simp only [VRs] at h2; done) | exact Bool.noConfusion hk2 | skip
  simp only [VRs] at h2
  subst h2
  obtain ⟨y, g1, g2⟩ := decN_spec (show decN x (fun y => K y h nx) = true from hk2)
  obtain ⟨n, rfl, a1, a2, hv⟩ := g2 ρ _ h1
  exact upon_of_calls hn hf hb ((hC n w a1 a2).mono fun e w' ⟨h1, h2⟩ => ⟨_, h1, hv, h2⟩) s g1
def dg4 (n : Nat) : List Nat := Bool.rec [48 + n / 1000, 48 + n / 100 % 10, 48 + n / 10 % 10, 48 + n % 10] (dg3 n) (Nat.blt n 1000)
theorem dg4_itoa {n : Nat} (hn : n < 10000) : (⟨(Lib.itoa (n : Int)).toArray⟩ : ByteArray) = bs (dg4 n) := by
  unfold dg4
  by_cases c : n < 1000
  · rw [Nat.blt_eq.mpr c]
    exact dg3_itoa c
  · have z : Nat.blt n 1000 = false := by
      cases q : Nat.blt n 1000 with
      | false => rfl
      | true => exact absurd (Nat.blt_eq.mp q) c
    rw [z]
    have h1 : Lib.itoa (n : Int) = ([48 + n / 1000, 48 + n / 100 % 10, 48 + n / 10 % 10, 48 + n % 10] : List Nat).map UInt8.ofNat := by
      have e : Lib.itoa (n : Int) = Lib.decDigits n := by simp [Lib.itoa]
      rw [e, dec_two (show ¬ n < 10 by omega), dec_two (show ¬ n / 10 < 10 by omega), dec_two (show ¬ n / 10 / 10 < 10 by omega), Lib.decDigits, dif_pos (show n / 10 / 10 / 10 < 10 by omega), show n / 10 / 10 / 10 = n / 1000 by omega, show n / 10 / 10 = n / 100 by omega]
      rfl
    rw [h1]
    rfl
def isDg4 (n : Nat) (v : V) : Bool := vS v fun t => seq t (dg4 n)
def hkDecR (l : List (Nat × V)) (B : Nat) (e : HookF) : HookF := fun args h nx K => arg0 args fun x r => Bool.rec (e args h nx K) (chain (M := Bool) (hasT l h <| decN x fun y => K y h nx) (fun _ _ _ => false) r) (ite1 (isO x) (rng3 B x))
theorem hkDecR_ok {R : CK} (hR : CKok P ng R) {g : Nat} {l : List (Nat × V)} {B : Nat} {e : HookF} (he : HookOk P ng g e) (hl : inT ng l = true) (hB : B < 10000)
    (hrun : ∀ (τ : Nat → Nat) n, n ≤ B → mkTK τ l .leaf (fun h0 => R g (.cons (.i .i64 (Int.ofNat n)) .nil) h0 ng (fun v _ _ => isDg4 n v) (fun _ _ _ => false)) = true) : HookOk P ng g (hkDecR l B e) := by
  intro args h nx K Kp hk ρ w vs s hg hvs
  replace hk := arg0_spec hk
  obtain ⟨x, r, rfl, hk⟩ := hk
  generalize hc : (ite1 (isO x) (rng3 B x)) = q at hk
  cases q with
  | false => exact he _ h nx K Kp hk ρ w vs s hg hvs
  | true =>
  simp only [VRs] at hvs
  obtain ⟨v1, vr, rfl, hv1, hv2⟩ := hvs
  cases r <;> first | (simp only [VRs] at hv2; done) | exact Bool.noConfusion hk | skip
  simp only [VRs] at hv2
  subst hv2
  obtain ⟨hk, htab⟩ := hasT_spec (show hasT l h (decN x fun y => K y h nx) = true from hk)
  obtain ⟨_, hc1⟩ := ite1_spec hc
  obtain ⟨kd, S, hc2, hS⟩ := linK_spec (show linK x (fun kd S => ite1 (Nat.beq kd 3) <| rgK S fun lo hi => ite1 (ile 0 lo) (ile hi (Int.ofNat B))) = true from hc1)
  obtain ⟨n0, hSn, rfl⟩ := hS ρ v1 hv1
  obtain ⟨e1, e2⟩ := ite1_spec hc2
  have e1 := beq_spec e1
  subst e1
  obtain ⟨lo, hi, e3, hrg⟩ := rgK_spec e2
  obtain ⟨e4, e5⟩ := ite1_spec e3
  have e4 := ile_spec e4
  have e5 := ile_spec e5
  have hr1 := (hrg ρ _ hSn).1
  have hr2 := (hrg ρ _ hSn).2
  obtain ⟨y, hkk, hy⟩ := decN_spec (show decN x (fun y => K y h nx) = true from hk)
  obtain ⟨n1, en, a1, a2, a3⟩ := hy ρ _ hv1
  have hkd : n1 = n0 := by
    have : (Value.int (kOfN 3) n0) = .int .i64 n0 := rfl
    rw [this] at en
    injection en with _ e
    exact e.symm
  subst hkd
  obtain ⟨m, rfl⟩ := Int.eq_ofNat_of_zero_le a1
  have hmB : m ≤ B := by
    have z : Int.ofNat B = (B : Int) := rfl
    omega
  have nolive : ∀ i, ¬ (gt O.none i (putO [] (.leaf : Mx.T O))).live := fun i hi => by rw [show putO [] (.leaf : Mx.T O) = .leaf from rfl, gt_leaf] at hi; exact hi.elim
  obtain ⟨ρs, h0, _, hwr, _, _, _, up⟩ := smallRun hR (A := .cons (.i .i64 (Int.ofNat m)) .nil) (vs := [.int .i64 (m : Int)]) (ob := []) (N := ng) hl s hg htab (ρb := fun _ => none) (Nat.le_refl _) (fun i L hi => by cases hi) (fun i hi => (nolive i hi).elim) (fun i L hi => (nolive i (O.live_of_wr hi)).elim)
    (by simp only [VRs, VR]; exact ⟨_, _, rfl, rfl, rfl⟩) (fun τ => hrun τ m hmB)
  have nowr : ∀ i, ¬ (gt O.none i h0).wr := fun i hi => nolive i (O.live_of_wr (hwr i hi))
  intro o a next Q h1 _
  refine up o a next Q (fun ρ' v h1' n1 val w' hv' hs' hx hky => ?_) (fun ρ' y h' nx' v w' _ _ _ hky => Bool.noConfusion hky)
  obtain ⟨g1, g2⟩ := ro_back s hx nowr
  obtain ⟨t, rfl, hky⟩ := vS_spec (show isDg4 m v = true from hky)
  have ht : t = dg4 m := by
    have h9 : seq t (dg4 m) = true := hky
    rw [seq_eq] at h9
    exact of_decide_eq_true h9
  subst ht
  simp only [VR] at hv'
  obtain ⟨rfl, _⟩ := hv'
  refine h1 ρ y h nx _ w' ?_ g1 g2 hkk
  rw [← dg4_itoa (n := m) (by omega)]
  exact a3
theorem hkAt_ok (hn : NameOK P) {g : Nat} {fn : Func} {cd : Code} (hf : P.funcs[g]? = some fn) (hb : fn.body = some cd)
    (hC : ∀ (s : ByteArray) (n : Nat) (w : World), s.size ≤ 1000000 → n < 256 → Calls P g #[.string s, .int .u8 (n : Int)] w fun e w' => e = .returned (.int .i64 (Lib.indexByte s.data.toList (UInt8.ofNat n))) ∧ Stays w w') :
    HookOk P ng g (fun args h nx K => arg0 args fun x _ => ropK x fun c => atMost c 1000000 fun _ => hkIndexByteP args h nx K) := by
  intro args h nx K Kp hk ρ w vs s _ hv
  obtain ⟨x, r, rfl, hk2⟩ := arg0_spec hk
  obtain ⟨c0, hk2, hc0⟩ := ropK_spec hk2
  obtain ⟨_, hk2, hmost⟩ := atMost_spec hk2
  obtain ⟨x', r2, e', hk2⟩ := arg0_spec (show arg0 (V.cons x r) _ = true from hk2)
  cases e'
  obtain ⟨y, r', rfl, hk3⟩ := arg0_spec hk2
  simp only [VRs] at hv
  obtain ⟨v1, l1, rfl, h1, v2, l2, rfl, h2, h3⟩ := hv
  cases r' <;> first | (simp only [VRs] at h3; done) | exact Bool.noConfusion hk3 | skip
  simp only [VRs] at h3
  subst h3
  obtain ⟨c, hk4, hc⟩ := ropK_spec (show ropK x (fun c => vI y fun kd n => ite1 (keq kd .u8) <| Int.rec (motive := fun _ => Bool) (fun m => ite1 (Nat.blt m 256) <| ansK [m] c fun v => K v h nx) (fun _ => false) n) = true from hk3)
  obtain ⟨kd, n, rfl, hk5⟩ := vI_spec (v := y) hk4
  obtain ⟨e1, hk6⟩ := ite1_spec hk5
  have e1 := keq_eq e1
  subst e1
  cases n with
  | negSucc n => exact Bool.noConfusion hk6
  | ofNat n =>
    obtain ⟨e2, hk7⟩ := ite1_spec (show ite1 (Nat.blt n 256) (ansK [n] c fun v => K v h nx) = true from hk6)
    have e2 := Nat.blt_eq.mp e2
    obtain ⟨z, hk8, hz⟩ := ansK_spec (cs := [n]) (fun m hm => by rw [List.mem_singleton] at hm; omega) hk7
    simp only [VR] at h2
    subst h2
    obtain ⟨b, rfl, hb2⟩ := hc ρ _ h1
    obtain ⟨b', eb, hb3⟩ := hc0 ρ _ h1
    cases eb
    have hsz : b.size = b.data.toList.length := rfl
    have hle := (hmost ρ _ hb3).2
    refine upon_of_calls hn hf hb (y := z) ?_ s hk8
    refine (hC b n w (by omega) e2).mono fun e w' ⟨h4, h5⟩ => ⟨_, h4, ?_, h5⟩
    have := hz ρ _ hb2
    rw [List.map_cons, List.map_nil, Lib.indexAny_one] at this
    exact this
def hkIx (e : HookF) : HookF := fun args h nx K => arg0 args fun x r => arg0 r fun y r' => Bool.rec (e args h nx K) (vS y fun l => List.rec (motive := fun _ => Bool) false (fun m t _ => List.rec (motive := fun _ => Bool) (chain (M := Bool) (ropK x fun c => atMost c 1000000 fun _ => ite1 (Nat.blt m 256) <| ansK [m] c fun v => K v h nx) (fun _ _ _ => false) r') (fun _ _ _ => false) t) l) (ite1 (isO x) (vS y fun l => List.rec (motive := fun _ => Bool) false (fun _ t _ => List.isEmpty t) l))
theorem hkIx_ok (hn : NameOK P) {g : Nat} {fn : Func} {cd : Code} (hf : P.funcs[g]? = some fn) (hb : fn.body = some cd) {e : HookF} (he : HookOk P ng g e)
    (hC : ∀ (s : ByteArray) (c : UInt8) (w : World), s.size ≤ 1000000 → Calls P g #[.string s, .string ⟨#[c]⟩] w fun e w' => e = .returned (.int .i64 (Lib.indexByte s.data.toList c)) ∧ Stays w w') : HookOk P ng g (hkIx e) := by
  intro args h nx K Kp hk ρ w vs s gr hv
  replace hk := arg0_spec hk
  obtain ⟨x, r, rfl, hk⟩ := hk
  replace hk := arg0_spec hk
  obtain ⟨y, r', rfl, hk⟩ := hk
  generalize hc : (ite1 (isO x) (vS y fun l => List.rec (motive := fun _ => Bool) false (fun _ t _ => List.isEmpty t) l)) = q at hk
  cases q with
  | false => exact he _ h nx K Kp hk ρ w vs s gr hv
  | true =>
  obtain ⟨l, rfl, hk2⟩ := vS_spec (v := y) hk
  cases l with
  | nil => exact Bool.noConfusion hk2
  | cons m t =>
    cases t with
    | cons _ _ => exact Bool.noConfusion hk2
    | nil =>
      simp only [VRs] at hv
      obtain ⟨v1, l1, rfl, h1, v2, l2, rfl, h2, h3⟩ := hv
      cases r' <;> first | (simp only [VRs] at h3; done) | exact Bool.noConfusion hk2 | skip
      simp only [VRs] at h3
      subst h3
      obtain ⟨c, hk3, hcr⟩ := ropK_spec (show ropK x (fun c => atMost c 1000000 fun _ => ite1 (Nat.blt m 256) <| ansK [m] c fun v => K v h nx) = true from hk2)
      obtain ⟨_, hk4, hmost⟩ := atMost_spec hk3
      obtain ⟨e2, hk5⟩ := ite1_spec hk4
      have e2 := Nat.blt_eq.mp e2
      obtain ⟨z, hk8, hz⟩ := ansK_spec (cs := [m]) (fun m' hm => by rw [List.mem_singleton] at hm; omega) hk5
      obtain ⟨b, rfl, hrr⟩ := hcr ρ _ h1
      simp only [VR] at h2
      obtain ⟨rfl, _⟩ := h2
      have hsz : b.size = b.data.toList.length := rfl
      have hle := (hmost ρ _ hrr).2
      refine upon_of_calls hn hf hb (y := z) ?_ s hk8
      refine (hC b (UInt8.ofNat m) w (by omega)).mono fun e w' ⟨h4, h5⟩ => ⟨_, h4, ?_, h5⟩
      have := hz ρ _ hrr
      rw [List.map_cons, List.map_nil, Lib.indexAny_one] at this
      exact this
end
end Go.Mx
