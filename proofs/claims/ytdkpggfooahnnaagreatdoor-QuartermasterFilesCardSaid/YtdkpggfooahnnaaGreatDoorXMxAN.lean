/-
  A part of a small executor of the model, proved sound (27 of 32). No condition.
-/
import Derived.Test.YtdkpggfooahnnaaGreatDoorXMxAG
import Derived.Test.YtdkpggfooahnnaaGreatDoorXMxQ
namespace Go.Mx
open Instr Builtin RowKit
noncomputable section
variable {P : Program} {ρ : Ren} {h : T O} {nx : Nat} {w : World} {ng : Nat}
def noSetR (cs : List Nat) (c : V) : Bool := chain true (fun y _ ih => ite1 (noSet cs y) ih) c
theorem noSetR_spec {cs : List Nat} (hb : ∀ n ∈ cs, n < 256) : ∀ {c : V} {s : List UInt8}, noSetR cs c = true → RR ρ c s → ∀ x ∈ s, (cs.map UInt8.ofNat).contains x = false := by
  intro c
  induction c with
  | nil => intro s _ hs x hx; simp only [RR] at hs; subst hs; cases hx
  | cons y r ihy ih =>
    clear ihy
    intro s hk hs x hx
    obtain ⟨h1, h2⟩ := ite1_spec (show ite1 (noSet cs y) (noSetR cs r) = true from hk)
    simp only [RR] at hs
    obtain ⟨s1, s2, p1, p2, rfl⟩ := hs
    rcases List.mem_append.1 hx with hx | hx
    · exact noSet_spec p1 h1 hb x hx
    · exact ih h2 p2 x hx
  | _ => intro s _ hs; simp only [RR] at hs
def keepV (t : Bool) (x : V) : V := Bool.rec (motive := fun _ => V) x (.t (.cons x (.cons (.b true) .nil))) t
def keepX (t : Bool) (s : ByteArray) : Value := Bool.rec (motive := fun _ => Value) (.string s) (.tuple #[.string s, .bool true]) t
def hkKeepS (cs : List Nat) (t : Bool) (e : HookF) : HookF := fun args h nx K => arg0 args fun x r => Bool.rec (e args h nx K) (chain (M := Bool) (K (keepV t x) h nx) (fun _ _ _ => false) r)
  (ropK x fun c => ite1 (noSetR cs c) <| atMost c 1000000 fun _ => true)
theorem hkKeepS_ok (hn : NameOK P) {g : Nat} {fn : Func} {cd : Code} (hf : P.funcs[g]? = some fn) (hb : fn.body = some cd) {e : HookF} (he : HookOk P ng g e) {cs : List Nat} (hcs : ∀ n ∈ cs, n < 256) {t : Bool}
    (hc : ∀ (s : ByteArray) (w : World), s.size ≤ 1000000 → (∀ x ∈ s.data.toList, (cs.map UInt8.ofNat).contains x = false) → Calls P g #[.string s] w fun e w' => e = .returned (keepX t s) ∧ Stays w w') : HookOk P ng g (hkKeepS cs t e) := by
  intro args h nx K Kp hk ρ w vs s hg hvs
  have hk0 := hk
  replace hk := arg0_spec hk
  obtain ⟨y, r, rfl, hk⟩ := hk
  generalize hq : (ropK y fun c => ite1 (noSetR cs c) <| atMost c 1000000 fun _ => true) = q at hk
  cases q with
  | false => exact he _ h nx K Kp hk ρ w vs s hg hvs
  | true =>
    simp only [VRs] at hvs
    obtain ⟨v1, vr, rfl, hv1, hv2⟩ := hvs
    cases r <;> first | (simp only [VRs] at hv2; done) | exact Bool.noConfusion hk | skip
    simp only [VRs] at hv2
    subst hv2
    obtain ⟨c, h1, h2⟩ := ropK_spec hq
    obtain ⟨b, rfl, hrr⟩ := h2 ρ v1 hv1
    obtain ⟨e1, e2⟩ := ite1_spec h1
    obtain ⟨_, _, hmost⟩ := atMost_spec e2
    have hle := (hmost ρ _ hrr).2
    have hsz : b.size = b.data.toList.length := rfl
    refine upon_of_calls hn hf hb (y := keepV t y) ?_ s hk
    refine (hc b w (by omega) (noSetR_spec hcs e1 hrr)).mono fun e w' ⟨h4, h5⟩ => ⟨_, h4, ?_, h5⟩
    cases t with
    | false => exact hv1
    | true =>
      show VR ρ (.t (.cons y (.cons (.b true) .nil))) (.tuple #[.string b, .bool true])
      simp only [VR, VRs]
      exact ⟨_, ⟨_, _, rfl, hv1, _, _, rfl, rfl, rfl⟩, rfl⟩
theorem calls_of_ck (hn : NameOK P) {R : CK} (hR : CKok P ng R) {g : Nat} {fn : Func} {cd : Code} (hf : P.funcs[g]? = some fn) (hb : fn.body = some cd) {args : V} {vs : List Value} {K1 : KV} {φ : Value → Prop}
    (hv : ∀ ρ : Ren, VRs ρ args vs) (hrun : R g args .leaf ng K1 (fun _ _ _ => false) = true) (hK : ∀ ρ' y v h' nx', K1 y h' nx' = true → VR ρ' y v → φ v) (W : World) :
    Calls P g ⟨vs⟩ W fun e W' => ∃ v, e = .returned v ∧ φ v ∧ Stays W W' := by
  let ρr : Ren := fun i => if i < ng then some ⟨i, 0, 0⟩ else none
  have none0 : ∀ i, ¬ (gt O.none i (.leaf : T O)).live := fun i hi => by rw [gt_leaf] at hi; exact hi
  have sr : St ρr (.leaf : T O) ng W := ⟨fun id L hi _ => (none0 id hi).elim, fun i j L M hi _ _ _ _ => (none0 i (O.live_of_wr hi)).elim, fun i hi => by
    have h1 : ¬ i < ng := by omega
    simp only [ρr, h1, if_false], fun i _ => none0 i⟩
  have gr : RG ng ρr := fun i hi => ⟨⟨i, 0, 0⟩, by simp [ρr, hi], rfl, rfl⟩
  have up := hR g args .leaf ng K1 (fun _ _ _ => false) hrun ρr W vs sr gr (hv ρr)
  let o : Oper := { (default : Oper) with dst := some 0 }
  let a : Act := { tmps := #[undef], defers := [] }
  have h := up o a (fun a' W' => ∃ v, a'.tmps[0]? = some v ∧ φ v ∧ Stays W W') (fun _ _ _ => False) (fun ρ' y h' nx' v w' hv' _ hx hky => ?_) (fun ρ' y h' nx' v w' _ _ _ hky => Bool.noConfusion hky)
  · rw [callFunc_enter hn hf hb, Oper.upon_enter] at h
    refine h.mono fun e W' hr => ?_
    cases e with
    | returned v =>
      obtain ⟨v2, h1, h2, h3⟩ := hr
      have : v = v2 := by simpa [Act.put, o, a] using h1
      exact ⟨v, rfl, this ▸ h2, h3⟩
    | panicked c => exact hr.elim
    | outgrown => obtain ⟨_, _, hq⟩ := hr; exact hq.elim
  · exact ⟨v, by simp [Act.put, o, a], hK ρ' y v h' nx' hky hv', hx.size, hx.os, hx.tape, hx.output, fun b hb => (hx.kept b hb fun id L hw _ => (none0 id (O.live_of_wr hw)).elim).1⟩
end
end Go.Mx
namespace Go.Mx
noncomputable section
def formS (M lo hi B a k : Nat) (t : Bool) : V := .o 0 (.cons (.o 1 (.m M) a 0 k) (.cons (Bool.rec (motive := fun _ => V) (.x (Nat.succ a) .u8 0 (Nat.sub lo 1)) (.x (Nat.succ a) .u8 (Nat.succ hi) 255) t) (.cons (.o 1 (.m 0) (Nat.succ (Nat.succ a)) 0 (Nat.sub B (Nat.succ k))) .nil))) 0 0 0
def anyS (a lo hi : Nat) : V := .o 0 (.cons (.o 1 (.m 0) a lo hi) .nil) 0 0 0
theorem anyS_VR {a lo hi : Nat} {s : ByteArray} (h1 : lo ≤ s.size) (h2 : s.size ≤ hi) : ∃ ρ : Ren, (∀ i L, ρ i = some L → a ≤ i ∧ i < a + 3) ∧ VR ρ (anyS a lo hi) (.string s) := by
  have hsz : s.size = s.data.toList.length := rfl
  refine ⟨fun i => if i = a then some ⟨0, enc s.data.toList, 0⟩ else none, fun i L hi => ?_, ?_⟩
  · by_cases e : i = a
    · omega
    · simp [e] at hi
  · refine VR_rope ?_
    simp only [RR]
    refine ⟨s.data.toList, [], ?_, rfl, (List.append_nil _).symm⟩
    simp only [PR]
    exact .inl ⟨trivial, ⟨0, enc s.data.toList, 0⟩, by simp, rfl, by omega, by omega, fun q _ => tbN_zero _⟩
theorem long_VR {a lo hi : Nat} {s : ByteArray} (h1 : lo ≤ s.size) (h2 : s.size ≤ hi) : ∃ ρ : Ren, (∀ i L, ρ i = some L → a ≤ i ∧ i < a + 3) ∧ VR ρ (.y .nil a lo hi) (.string s) := by
  refine ⟨fun i => if i = a then some ⟨0, s.size, 0⟩ else none, fun i L hi => ?_, VR_long (s := s) ⟨⟨0, s.size, 0⟩, by simp, rfl⟩ ⟨h1, h2⟩⟩
  by_cases e : i = a
  · omega
  · simp [e] at hi
theorem text_caseS {M lo hi B : Nat} (hM : mskOut lo hi M = true) (a : Nat) (s : ByteArray) (hz : s.size ≤ 9223372036854775807) :
    (∃ t, (t = 0 ∨ t = 1 ∨ t = 4) ∧ ∃ ρ : Ren, (∀ i L, ρ i = some L → a ≤ i ∧ i < a + 3) ∧ VR ρ (formV M lo hi B a t) (.string s)) ∨
    ∃ k t, k < B ∧ ∃ ρ : Ren, (∀ i L, ρ i = some L → a ≤ i ∧ i < a + 3) ∧ VR ρ (formS M lo hi B a k t) (.string s) := by
  have hsz : s.size = s.data.toList.length := rfl
  rcases words lo hi B s with h | ⟨h, hw⟩ | ⟨k, d, h, hk, hp, hd⟩
  · refine .inl ⟨4, by omega, ?_⟩
    exact long_VR h hz
  · by_cases h0 : s.size = 0
    · refine .inl ⟨0, by omega, fun _ => none, fun i L hi => (by cases hi), ?_⟩
      simp only [formV, VR]
      refine ⟨?_, by simp⟩
      congr 1
      apply ByteArray.ext
      apply Array.ext'
      have : s.data.toList = [] := List.eq_nil_of_length_eq_zero (by omega)
      rw [this]
      rfl
    · refine .inl ⟨1, by omega, fun i => if i = a then some ⟨0, enc s.data.toList, 0⟩ else none, fun i L hi => ?_, ?_⟩
      · by_cases e : i = a
        · omega
        · simp [e] at hi
      · refine VR_rope ?_
        simp only [RR]
        refine ⟨s.data.toList, [], ?_, rfl, (List.append_nil _).symm⟩
        simp only [PR]
        exact .inl ⟨trivial, ⟨0, enc s.data.toList, 0⟩, by simp, rfl, by omega, by omega, fun c hc => mskOut_spec hM c (hw c hc).1 (hw c hc).2⟩
  · have hlt := (List.getElem?_eq_some_iff.1 hk).1
    let ρ : Ren := fun i => if i = a then some ⟨0, enc (s.data.toList.take k), 0⟩ else if i = a + 1 then some ⟨0, d.toNat, 0⟩ else if i = a + 2 then some ⟨0, enc (s.data.toList.drop (k + 1)), 0⟩ else none
    have hρ : ∀ i L, ρ i = some L → a ≤ i ∧ i < a + 3 := fun i L hi => by
      by_cases e : a ≤ i ∧ i < a + 3
      · exact e
      · simp only [ρ] at hi
        rw [if_neg (by omega), if_neg (by omega), if_neg (by omega)] at hi
        cases hi
    have r0 : ρ a = some ⟨0, enc (s.data.toList.take k), 0⟩ := by simp [ρ]
    have r1 : ρ (a + 1) = some ⟨0, d.toNat, 0⟩ := by simp [ρ]
    have r2 : ρ (a + 2) = some ⟨0, enc (s.data.toList.drop (k + 1)), 0⟩ := by simp [ρ]
    have key : ∀ l' h', l' ≤ d.toNat → d.toNat ≤ h' → VR ρ (.o 0 (.cons (.o 1 (.m M) a 0 k) (.cons (.x (Nat.succ a) .u8 l' h') (.cons (.o 1 (.m 0) (Nat.succ (Nat.succ a)) 0 (Nat.sub B (Nat.succ k))) .nil))) 0 0 0) (.string s) := fun l' h' g1 g2 => by
      refine VR_rope ?_
      simp only [RR]
      refine ⟨s.data.toList.take k, _, ?_, ⟨[d], _, ?_, ⟨s.data.toList.drop (k + 1), [], ?_, rfl, (List.append_nil _).symm⟩, rfl⟩, cut_at hk⟩
      · simp only [PR]
        exact .inl ⟨trivial, _, r0, rfl, Nat.zero_le _, by rw [List.length_take]; omega, fun c hc => mskOut_spec hM c (hp c hc).1 (hp c hc).2⟩
      · simp only [PR]
        exact ⟨trivial, d, _, rfl, r1, g1, g2, rfl⟩
      · simp only [PR]
        exact .inl ⟨trivial, _, r2, rfl, Nat.zero_le _, by rw [List.length_drop]; show _ ≤ B - (k + 1); omega, fun q _ => tbN_zero _⟩
    rcases hd with hd | hd
    · exact .inr ⟨k, false, by omega, ρ, hρ, key 0 (lo - 1) (Nat.zero_le _) (by omega)⟩
    · exact .inr ⟨k, true, by omega, ρ, hρ, key (hi + 1) 255 (by omega) (by have := UInt8.toNat_lt d; omega)⟩
end
end Go.Mx
