/-
  A part of a small executor of the model, proved sound (26 of 34). No condition.
-/
import Derived.Test.YtoflpofblogmcaaGreatDoorXMxAG
import Derived.Test.YtoflpofblogmcaaGreatDoorXRowK6
import Derived.Test.YtoflpofblogmcaaGreatDoorXMxX
namespace Go.Mx
open Instr Builtin RowKit
noncomputable section
variable {P : Program} {ρ : Ren} {h : T O} {nx : Nat} {w : World} {ng : Nat}
theorem plainV_VR {ρ' : Ren} {x : V} {v : Value} (hk : plainV x true = true) (h : VR ρ x v) : VR ρ' x v := by
  cases x <;> first | exact Bool.noConfusion hk | (simpa only [VR] using h)
def slM (v : V) (n sz : Nat) (k : Nat → Bool) : Bool := V.rec (motive := fun _ => Bool) (false) (fun _ _ _ _ => false) (fun _ => false) (fun _ _ => false) (fun _ => false) (fun _ _ => false) (false) (fun id off len sz' => ite1 (Nat.beq off 0) <| ite1 (Nat.beq len n) <| ite1 (Nat.beq sz' sz) <| k id) (false) (false) (false) (fun _ => false) (false) (fun _ _ _ => false) (false) (fun _ _ _ => false) (false) (fun _ _ => false) (fun _ _ => false) (fun _ _ _ _ => false) (fun _ _ => false) (fun _ _ _ _ _ => false) (fun _ _ _ _ _ _ => false) v
theorem slM_spec {v : V} {n sz : Nat} {k : Nat → Bool} (hk : slM v n sz k = true) : ∃ id, v = .sl id 0 n sz ∧ k id = true := by
  cases v <;> first | exact Bool.noConfusion hk | skip
  case sl id off len sz' =>
    replace hk := ite1_spec (show ite1 (Nat.beq off 0) (ite1 (Nat.beq len n) <| ite1 (Nat.beq sz' sz) <| k id) = true from hk)
    obtain ⟨e1, hk⟩ := hk
    replace hk := ite1_spec hk
    obtain ⟨e2, hk⟩ := hk
    replace hk := ite1_spec hk
    obtain ⟨e3, hk⟩ := hk
    have e1 := beq_spec e1
    have e2 := beq_spec e2
    have e3 := beq_spec e3
    subst e1
    subst e2
    subst e3
    exact ⟨id, rfl, hk⟩
def freshK (n sz ty : Nat) (cs : V) : KV := fun v h1 _ => slM v n sz fun id => oC (gt O.none id h1) fun c ty1 wr => ite1 wr <| ite1 (Nat.beq ty1 ty) <| sameV c cs
def hkFresh (l : List (Nat × V)) (A cs : V) (n sz ty : Nat) (e : HookF) : HookF := fun args h nx K => Bool.rec (e args h nx K) (hasT l h <| stK O.none (.c cs ty true) nx h fun h' => K (.sl nx 0 n sz) h' (Nat.succ nx)) (sameV args A)
theorem hkFresh_ok {R : CK} (hR : CKok P ng R) {g : Nat} {l : List (Nat × V)} {A cs : V} {n sz ty : Nat} {e : HookF} (he : HookOk P ng g e) (hl : inT ng l = true) (hA : ∀ ρ ρ' vs, VRs ρ A vs → VRs ρ' A vs) (hcs : plainC cs = true)
    (hrun : ∀ τ : Nat → Nat, mkTK τ l .leaf (fun h0 => R g A h0 ng (freshK n sz ty cs) (fun _ _ _ => false)) = true) : HookOk P ng g (hkFresh l A cs n sz ty e) := by
  intro args h nx K Kp hk ρ w vs s hg hvs
  have hk0 : (Bool.rec (e args h nx K) (hasT l h <| stK O.none (.c cs ty true) nx h fun h' => K (.sl nx 0 n sz) h' (Nat.succ nx)) (sameV args A) : Bool) = true := hk
  clear hk
  cases eA : sameV args A with
  | false => rw [eA] at hk0; exact he args h nx K Kp hk0 ρ w vs s hg hvs
  | true =>
  rw [eA] at hk0
  have eA := sameV_eq eA
  subst eA
  obtain ⟨hk, htab⟩ := hasT_spec (show hasT l h (stK O.none (.c cs ty true) nx h fun h' => K (.sl nx 0 n sz) h' (Nat.succ nx)) = true from hk0)
  rw [stK_eq] at hk
  have nolive : ∀ i, ¬ (gt O.none i (putO [] (.leaf : T O))).live := fun i hi => by rw [show putO [] (.leaf : T O) = .leaf from rfl, gt_leaf] at hi; exact hi.elim
  obtain ⟨ρs, h0, _, hwr, _, _, _, up⟩ := smallRun hR (A := args) (vs := vs) (ob := []) (N := ng) hl s hg htab (ρb := fun _ => none) (Nat.le_refl _) (fun i L hi => by cases hi) (fun i hi => (nolive i hi).elim) (fun i L hi => (nolive i (O.live_of_wr hi)).elim) (hA _ _ _ hvs) hrun
  have nowr : ∀ i, ¬ (gt O.none i h0).wr := fun i hi => nolive i (O.live_of_wr (hwr i hi))
  intro o a next Q h1 _
  refine up o a next Q (fun ρ' v h1' n1 val w' hv' hs' hx hky => ?_) (fun ρ' y h' nx' v w' _ _ _ hky => Bool.noConfusion hky)
  unfold freshK at hky
  replace hky := slM_spec hky
  obtain ⟨id', rfl, hky⟩ := hky
  replace hky := oC_spec hky
  obtain ⟨c, ty1, wr1, ho3, hky⟩ := hky
  replace hky := ite1_spec hky
  obtain ⟨y1, hky⟩ := hky
  subst y1
  replace hky := ite1_spec hky
  obtain ⟨y1, hky⟩ := hky
  have y1 := beq_spec y1
  subst y1
  have hky := sameV_eq hky
  subst hky
  simp only [VR] at hv'
  obtain ⟨L', cap, hL', hcap, hfit, rfl⟩ := hv'
  obtain ⟨o3, ho3a, arr3, fz3, ho3b, p2, p3, p4, p5⟩ := hs'.relC ho3 hL'
  have w3 : (gt O.none id' h1').wr := asC_wr ho3
  obtain ⟨g1, g2⟩ := ro_back s hx nowr
  have kept : ∀ q, q < w.heap.size → L'.blk ≠ q := fun q hq => (hx.kept q hq fun i L1 hi _ => (nowr i hi).elim).2 id' L' w3 hL'
  let ρN : Ren := fun i => if i = nx then some L' else ρ i
  have rN : ρN nx = some L' := by simp [ρN]
  have rO : ∀ {i : Nat}, i ≠ nx → ρN i = ρ i := fun {i} hi => by simp only [ρN, hi, if_false]
  have hleN : Ren.le ρ ρN := fun i L1 e => by
    have : i ≠ nx := fun e2 => by rw [s.fresh i (by omega)] at e; cases e
    rw [rO this]
    exact e
  have hat : ∀ i, gt O.none i (st O.none (.c c ty1 true) nx h) = if i = nx then .c c ty1 true else gt O.none i h := fun i => by
    by_cases c1 : i = nx
    · subst c1; rw [gt_st_same, if_pos rfl]
    · rw [gt_st_ne _ _ (Ne.symm c1), if_neg c1]
  have old : ∀ {i : Nat} {L1 : Loc}, (gt O.none i h).live → ρ i = some L1 → L1.blk < w.heap.size := fun {i L1} hl1 hL1 => by
    obtain ⟨o5, g5, _⟩ := s.rel i L1 hl1 hL1
    exact (Array.getElem?_eq_some_iff.1 g5).1
  have live : ∀ {i : Nat}, (gt O.none i h).live → i ≠ nx := fun {i} hi e => s.dead i (by omega) hi
  refine h1 ρN _ _ (Nat.succ nx) _ w' ?_ ⟨fun i L1 hlv hL1 => ?_, fun i j' L1 M1 hi hj hL1 hM1 hb1 => ?_, fun i hi => ?_, fun i hi hl1 => ?_⟩ ⟨hleN, g2.size, g2.os, g2.tape, g2.output, fun q hq hw => ?_, fun i hi hn1 => ?_⟩ hk
  · simp only [VR]
    exact ⟨L', cap, rN, hcap, hfit, rfl⟩
  · rw [hat i] at hlv ⊢
    by_cases c1 : i = nx
    · subst c1
      rw [rN] at hL1
      have := Option.some.inj hL1
      subst this
      rw [if_pos rfl]
      exact ⟨o3, ho3a, arr3, fz3, ho3b, p2, p3, p4, plain_CR hcs p5⟩
    · rw [if_neg c1] at hlv ⊢
      rw [rO c1] at hL1
      obtain ⟨o5, g5, g6⟩ := g1.rel i L1 hlv hL1
      exact ⟨o5, g5, g6.mono hleN⟩
  · rw [hat i] at hi
    rw [hat j'] at hj
    by_cases c1 : i = nx
    · subst c1
      by_cases c2 : j' = i
      · exact c2.symm
      · rw [if_neg c2] at hj
        rw [rO c2] at hM1
        rw [rN] at hL1
        have := Option.some.inj hL1
        subst this
        exact absurd hb1 (kept _ (old hj hM1))
    · rw [if_neg c1] at hi
      rw [rO c1] at hL1
      by_cases c2 : j' = nx
      · subst c2
        rw [rN] at hM1
        have := Option.some.inj hM1
        subst this
        exact absurd hb1.symm (kept _ (old (O.live_of_wr hi) hL1))
      · rw [if_neg c2] at hj
        rw [rO c2] at hM1
        exact s.inj i j' L1 M1 hi hj hL1 hM1 hb1
  · have hi : nx + 1 ≤ i := hi
    rw [rO (by omega)]
    exact s.fresh i (by omega)
  · have hi : nx + 1 ≤ i := hi
    rw [hat i, if_neg (by omega)] at hl1
    exact s.dead i (by omega) hl1
  · obtain ⟨k1, k2⟩ := g2.kept q hq hw
    refine ⟨k1, fun i L1 hi hL1 => ?_⟩
    rw [hat i] at hi
    by_cases c1 : i = nx
    · subst c1
      rw [rN] at hL1
      have := Option.some.inj hL1
      subst this
      exact kept q hq
    · rw [if_neg c1] at hi
      rw [rO c1] at hL1
      exact k2 i L1 hi hL1
  · have c1 : i ≠ nx := live hi
    rw [hat i, if_neg c1, rO c1]
    exact ⟨hn1, rfl⟩
end
end Go.Mx
namespace Go.Mx
noncomputable section
variable {P : Program}
def nilsV (n : Nat) : V := Nat.rec (motive := fun _ => V) .nil (fun _ ih => .cons .nil ih) n
theorem nilsV_VRs {ρ : Ren} : ∀ {vs : List Value}, VRs ρ (nilsV vs.length) vs
  | [] => by show VRs ρ .nil []; simp only [VRs]
  | v :: vs => by
    show VRs ρ (.cons .nil (nilsV vs.length)) (v :: vs)
    simp only [VRs]
    exact ⟨_, _, rfl, by simp only [VR], nilsV_VRs⟩
def lstV (M lo hi B t : Nat) (n : Nat) : Nat → Nat → V := Nat.rec (motive := fun _ => Nat → Nat → V) (fun _ _ => .nil)
  (fun n ih a j => Nat.rec (motive := fun _ => V) (.cons (formV M lo hi B a t) (nilsV n)) (fun j' _ => .cons (formV M lo hi B a 1) (ih (Nat.add a 3) j')) j) n
theorem text_vals {M lo hi B : Nat} (hM : mskOut lo hi M = true) (s : ByteArray) (hz : s.size ≤ 9223372036854775807) :
    ∃ t, t < 5 ∧ ∃ v0 v1 v2 : Nat, ∀ (ρ : Ren) (a : Nat), (∃ L, ρ a = some L ∧ L.base = v0) → (∃ L, ρ (a + 1) = some L ∧ L.base = v1) → (∃ L, ρ (a + 2) = some L ∧ L.base = v2) → VR ρ (formV M lo hi B a t) (.string s) := by
  have hsz : s.size = s.data.toList.length := rfl
  rcases words lo hi B s with h | ⟨h, hw⟩ | ⟨k, d, h, hk, hp, hd⟩
  · exact ⟨4, by omega, s.size, 0, 0, fun ρ a h0 _ _ => VR_long (s := s) h0 ⟨h, hz⟩⟩
  · by_cases h0 : s.size = 0
    · refine ⟨0, by omega, 0, 0, 0, fun ρ a _ _ _ => ?_⟩
      simp only [formV, VR]
      refine ⟨?_, by simp⟩
      congr 1
      apply ByteArray.ext
      apply Array.ext'
      have : s.data.toList = [] := List.eq_nil_of_length_eq_zero (by omega)
      rw [this]
      rfl
    · refine ⟨1, by omega, enc s.data.toList, 0, 0, fun ρ a ⟨L, e1, e2⟩ _ _ => VR_rope ?_⟩
      simp only [RR]
      refine ⟨s.data.toList, [], ?_, rfl, (List.append_nil _).symm⟩
      simp only [PR]
      exact .inl ⟨trivial, L, e1, e2, by omega, by omega, fun c hc => mskOut_spec hM c (hw c hc).1 (hw c hc).2, trivial⟩
  · have hlt := (List.getElem?_eq_some_iff.1 hk).1
    have key : ∀ (ρ : Ren) (a l' h' : Nat), (∃ L, ρ a = some L ∧ L.base = enc (s.data.toList.take k)) → (∃ L, ρ (a + 1) = some L ∧ L.base = d.toNat) → (∃ L, ρ (a + 2) = some L ∧ L.base = enc (s.data.toList.drop (k + 1))) → l' ≤ d.toNat → d.toNat ≤ h' →
        VR ρ (.o 0 (.cons (.o 1 (.m M) a 0 B) (.cons (.x (Nat.succ a) .u8 l' h') (.cons (.o 1 (.m 0) (Nat.succ (Nat.succ a)) 0 B) .nil))) 0 0 0) (.string s) := fun ρ a l' h' ⟨L0, a0, b0⟩ ⟨L1, a1, b1⟩ ⟨L2, a2, b2⟩ g1 g2 => by
      refine VR_rope ?_
      simp only [RR]
      refine ⟨s.data.toList.take k, _, ?_, ⟨[d], _, ?_, ⟨s.data.toList.drop (k + 1), [], ?_, rfl, (List.append_nil _).symm⟩, rfl⟩, cut_at hk⟩
      · simp only [PR]
        exact .inl ⟨trivial, L0, a0, b0, Nat.zero_le _, by rw [List.length_take]; omega, fun c hc => mskOut_spec hM c (hp c hc).1 (hp c hc).2, trivial⟩
      · simp only [PR]
        exact ⟨trivial, d, L1, rfl, a1, by omega, by omega, by omega⟩
      · simp only [PR]
        exact .inl ⟨trivial, L2, a2, b2, Nat.zero_le _, by rw [List.length_drop]; omega, fun q _ => tbN_zero _, trivial⟩
    rcases hd with hd | hd
    · exact ⟨2, by omega, _, _, _, fun ρ a h0 h1 h2 => key ρ a 0 (lo - 1) h0 h1 h2 (Nat.zero_le _) (by omega)⟩
    · exact ⟨3, by omega, _, _, _, fun ρ a h0 h1 h2 => key ρ a (hi + 1) 255 h0 h1 h2 (by omega) (by have := UInt8.toNat_lt d; omega)⟩
theorem lst_case {M lo hi B : Nat} (hM : mskOut lo hi M = true) : ∀ l : List ByteArray, (∀ s ∈ l, s.size ≤ 9223372036854775807) →
    ∃ (j t : Nat) (vals : List Nat), ((j = l.length ∧ t = 1) ∨ (j < l.length ∧ t < 5 ∧ t ≠ 1)) ∧ vals.length = 3 * l.length ∧
      ∀ (ρ : Ren) (a : Nat), (∀ k x, vals[k]? = some x → ∃ L, ρ (a + k) = some L ∧ L.base = x) → VRs ρ (lstV M lo hi B t l.length a j) (l.map Value.string)
  | [], _ => ⟨0, 1, [], .inl ⟨rfl, rfl⟩, rfl, fun ρ a _ => by show VRs ρ .nil []; simp only [VRs]⟩
  | s :: l, h => by
    obtain ⟨t0, ht0, v0, v1, v2, hv⟩ := text_vals (B := B) hM s (h s (List.mem_cons_self ..))
    obtain ⟨j, t, vals, hj, hl, hr⟩ := lst_case (B := B) hM l fun q hq => h q (List.mem_cons_of_mem _ hq)
    by_cases e : t0 = 1
    · subst e
      refine ⟨j + 1, t, v0 :: v1 :: v2 :: vals, ?_, by simp [hl]; omega, fun ρ a ha => ?_⟩
      · rcases hj with ⟨h1, h2⟩ | ⟨h1, h2⟩
        · exact .inl ⟨by simp [h1], h2⟩
        · exact .inr ⟨by simp; omega, h2⟩
      · show VRs ρ (.cons (formV M lo hi B a 1) (lstV M lo hi B t l.length (a + 3) j)) (.string s :: l.map Value.string)
        simp only [VRs]
        refine ⟨_, _, rfl, hv ρ a (by simpa using ha 0 v0 rfl) (ha 1 v1 rfl) (ha 2 v2 rfl), hr ρ (a + 3) fun k x hk => ?_⟩
        have := ha (k + 3) x (by simpa using hk)
        rwa [show a + (k + 3) = a + 3 + k by omega] at this
    · refine ⟨0, t0, v0 :: v1 :: v2 :: List.replicate (3 * l.length) 0, .inr ⟨by simp, ht0, e⟩, by simp; omega, fun ρ a ha => ?_⟩
      show VRs ρ (.cons (formV M lo hi B a t0) (nilsV l.length)) (.string s :: l.map Value.string)
      simp only [VRs]
      refine ⟨_, _, rfl, hv ρ a (by simpa using ha 0 v0 rfl) (ha 1 v1 rfl) (ha 2 v2 rfl), ?_⟩
      have := nilsV_VRs (ρ := ρ) (vs := l.map Value.string)
      rwa [List.length_map] at this
end
end Go.Mx
namespace Go.Mx
open Instr Builtin RowKit
noncomputable section
variable {P : Program} {ρ : Ren} {h : T O} {nx : Nat} {w : World} {ng : Nat}
def dg3 (n : Nat) : List Nat := Bool.rec (Bool.rec [48 + n / 100, 48 + n / 10 % 10, 48 + n % 10] [48 + n / 10, 48 + n % 10] (Nat.blt n 100)) [48 + n] (Nat.blt n 10)
theorem dg3_itoa {n : Nat} (hn : n < 1000) : (⟨(Lib.itoa (n : Int)).toArray⟩ : ByteArray) = bs (dg3 n) := by
  have h1 : Lib.itoa (n : Int) = (dg3 n).map UInt8.ofNat := by
    have e : Lib.itoa (n : Int) = Lib.decDigits n := by simp [Lib.itoa]
    rw [e]
    unfold dg3
    by_cases c1 : n < 10
    · rw [Nat.blt_eq.mpr c1, Lib.decDigits, dif_pos c1]
      rfl
    · have z1 : Nat.blt n 10 = false := by
        cases q : Nat.blt n 10 with
        | false => rfl
        | true => exact absurd (Nat.blt_eq.mp q) c1
      rw [z1, dec_two c1]
      by_cases c2 : n < 100
      · rw [Nat.blt_eq.mpr c2, Lib.decDigits, dif_pos (show n / 10 < 10 by omega)]
        rfl
      · have z2 : Nat.blt n 100 = false := by
          cases q : Nat.blt n 100 with
          | false => rfl
          | true => exact absurd (Nat.blt_eq.mp q) c2
        rw [z2, dec_two (show ¬ n / 10 < 10 by omega), Lib.decDigits, dif_pos (show n / 10 / 10 < 10 by omega), show n / 10 / 10 = n / 100 by omega]
        rfl
  rw [h1]
  rfl
def hkDigF (l : List (Nat × V)) (T W : V) (e : HookF) : HookF := fun args h nx K => arg0 args fun x r => Bool.rec (e args h nx K) (chain (M := Bool) (hasT l h (K (.w W) h nx)) (fun _ _ _ => false) r) (linK x fun kd S => ite1 (Nat.beq kd 3) <| sameV S T)
def isDg (n : Nat) (v : V) : Bool := vS v fun t => seq t (dg3 n)
theorem hkDigF_ok {R : CK} (hR : CKok P ng R) {g : Nat} {l : List (Nat × V)} {T W : V} {e : HookF} (he : HookOk P ng g e) (hl : inT ng l = true)
    (hT : ∀ (ρ : Ren) (n : Int), LR ρ T n → 0 ≤ n ∧ n ≤ 255 ∧ VR ρ (.w W) (.string ⟨(Lib.itoa n).toArray⟩))
    (hrun : ∀ τ : Nat → Nat, allN 256 (fun n => mkTK τ l .leaf (fun h0 => R g (.cons (.i .i64 (Int.ofNat n)) .nil) h0 ng (fun v _ _ => isDg n v) (fun _ _ _ => false))) = true) : HookOk P ng g (hkDigF l T W e) := by
  intro args h nx K Kp hk ρ w vs s hg hvs
  replace hk := arg0_spec hk
  obtain ⟨x, r, rfl, hk⟩ := hk
  generalize hc : (linK x fun kd S => ite1 (Nat.beq kd 3) <| sameV S T) = q at hk
  cases q with
  | false => exact he _ h nx K Kp hk ρ w vs s hg hvs
  | true =>
  simp only [VRs] at hvs
  obtain ⟨v1, vr, rfl, hv1, hv2⟩ := hvs
  cases r <;> first | (simp only [VRs] at hv2; done) | exact Bool.noConfusion hk | skip
  simp only [VRs] at hv2
  subst hv2
  obtain ⟨hkk, htab⟩ := hasT_spec (show hasT l h (K (.w W) h nx) = true from hk)
  obtain ⟨kd, S, hc2, hS⟩ := linK_spec hc
  obtain ⟨n0, hSn, rfl⟩ := hS ρ v1 hv1
  obtain ⟨e1, e2⟩ := ite1_spec hc2
  have e1 := beq_spec e1
  subst e1
  have e2 := sameV_eq e2
  subst e2
  obtain ⟨a1, a2, a3⟩ := hT ρ n0 hSn
  obtain ⟨m, rfl⟩ := Int.eq_ofNat_of_zero_le a1
  have nolive : ∀ i, ¬ (gt O.none i (putO [] (.leaf : Mx.T O))).live := fun i hi => by rw [show putO [] (.leaf : Mx.T O) = .leaf from rfl, gt_leaf] at hi; exact hi.elim
  obtain ⟨ρs, h0, _, hwr, _, _, _, up⟩ := smallRun hR (A := .cons (.i .i64 (Int.ofNat m)) .nil) (vs := [.int .i64 (m : Int)]) (ob := []) (N := ng) hl s hg htab (ρb := fun _ => none) (Nat.le_refl _) (fun i L hi => by cases hi) (fun i hi => (nolive i hi).elim) (fun i L hi => (nolive i (O.live_of_wr hi)).elim)
    (by simp only [VRs, VR]; exact ⟨_, _, rfl, rfl, rfl⟩) (fun τ => allN_spec (hrun τ) m (by omega))
  have nowr : ∀ i, ¬ (gt O.none i h0).wr := fun i hi => nolive i (O.live_of_wr (hwr i hi))
  intro o a next Q h1 _
  refine up o a next Q (fun ρ' v h1' n1 val w' hv' hs' hx hky => ?_) (fun ρ' y h' nx' v w' _ _ _ hky => Bool.noConfusion hky)
  obtain ⟨g1, g2⟩ := ro_back s hx nowr
  obtain ⟨t, rfl, hky⟩ := vS_spec (show isDg m v = true from hky)
  have ht : t = dg3 m := by
    have h9 : seq t (dg3 m) = true := hky
    rw [seq_eq] at h9
    exact of_decide_eq_true h9
  subst ht
  simp only [VR] at hv'
  obtain ⟨rfl, _⟩ := hv'
  refine h1 ρ (.w W) h nx _ w' ?_ g1 g2 hkk
  rw [← dg3_itoa (n := m) (by omega)]
  exact a3
theorem LR_rot {x r : V} {n : Int} (h : LR ρ (.cons x r) n) : ∃ m k, MR ρ x m ∧ LR ρ r k ∧ n = m + k := by simpa only [LR] using h
theorem rot1 {a lo hi p q : Nat} {n : Int} (h : LR ρ (.cons (.o 6 oneV 0 p q) (.cons (.x a .u8 lo hi) .nil)) n) : LR ρ (t1V a lo hi p q) n := by
  obtain ⟨m1, k1, h1, h2, rfl⟩ := LR_rot h
  obtain ⟨m2, k2, h3, h4, rfl⟩ := LR_rot h2
  have h5 := LR_nil h4
  subst h5
  simp only [t1V, LR]
  exact ⟨m2, m1, h3, ⟨m1, 0, h1, rfl, by omega⟩, by omega⟩
theorem rot2 {a l1 h1' b l2 h2' p q : Nat} {n : Int} (h : LR ρ (.cons (.o 6 oneV 0 p q) (.cons (.o 6 (.x a .u8 l1 h1') 0 10 0) (.cons (.x b .u8 l2 h2') .nil))) n) : LR ρ (t2V a l1 h1' b l2 h2' p q) n := by
  obtain ⟨m1, k1, h1, h2, rfl⟩ := LR_rot h
  obtain ⟨m2, k2, h3, h4, rfl⟩ := LR_rot h2
  obtain ⟨m3, k3, h5, h6, rfl⟩ := LR_rot h4
  have h7 := LR_nil h6
  subst h7
  simp only [t2V, LR]
  exact ⟨m2, m3 + m1, h3, ⟨m3, m1, h5, ⟨m1, 0, h1, rfl, by omega⟩, by omega⟩, by omega⟩
def arg0O (args : V) : Bool := arg0 args fun x _ => isO x
def hkOrO (f g : HookF) : HookF := fun args h nx K => Bool.rec (g args h nx K) (f args h nx K) (arg0O args)
theorem hkOrO_ok {g : Nat} {a b : HookF} (ha : HookOk P ng g a) (hb : HookOk P ng g b) : HookOk P ng g (hkOrO a b) := by
  intro args h nx K Kp hk
  unfold hkOrO at hk
  cases e : arg0O args with
  | true => rw [e] at hk; exact ha args h nx K Kp hk
  | false => rw [e] at hk; exact hb args h nx K Kp hk
theorem le_t1 {a lo hi p q : Nat} {n : Int} (h : LR ρ (t1V a lo hi p q) n) : n ≤ (hi : Int) + Int.subNatNat p q := by
  obtain ⟨L, _, e2, e3, e4⟩ := t1_spec h
  omega
theorem le_t2 {a l1 u1 b l2 u2 p q : Nat} {n : Int} (h : LR ρ (t2V a l1 u1 b l2 u2 p q) n) : n ≤ 10 * (u1 : Int) + u2 + Int.subNatNat p q := by
  obtain ⟨L, M, ⟨_, e2, e3⟩, ⟨_, f2, f3⟩, e4⟩ := t2_spec h
  omega
end
end Go.Mx
