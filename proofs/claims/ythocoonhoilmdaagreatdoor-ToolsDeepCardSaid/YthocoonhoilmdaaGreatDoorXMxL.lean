/-
  A part of a small executor of the model, proved sound (18 of 28). No condition.
-/
import Derived.Test.YthocoonhoilmdaaGreatDoorXMxG
import Derived.Test.YthocoonhoilmdaaGreatDoorXMx36
namespace Go.Mx
open Instr Builtin
noncomputable section
variable {P : Program} {ρ : Ren} {h : T O} {nx : Nat} {w : World} {ng : Nat}
theorem upon_of_calls (hn : NameOK P) {g : Nat} {fn : Func} {c : Code} (hf : P.funcs[g]? = some fn) (hb : fn.body = some c) {vs : List Value} {y : V} (hc : Calls P g ⟨vs⟩ w fun e w' => ∃ v, e = .returned v ∧ VR ρ y v ∧ Stays w w')
    (s : St ρ h nx w) {K Kp : KV} (hk : K y h nx = true) : UponOK P ((callFunc g ⟨vs⟩).run P w) ρ h w K Kp := by
  intro o a next Q h1 _
  rw [callFunc_enter hn hf hb, Oper.upon_enter]
  refine hc.mono fun e w' ⟨v, he, hv, hs⟩ => ?_
  subst he
  refine h1 ρ y h nx v w' hv ⟨fun id L hi hL => ?_, s.inj, s.fresh, s.dead⟩ ⟨Ren.le.refl _, hs.size, hs.os, hs.tape, hs.output, fun b hb hk => ⟨hs.heap b hb, hk⟩, fun _ _ k => ⟨k, rfl⟩⟩ hk
  obtain ⟨o, g1, g2⟩ := s.rel id L hi hL
  exact ⟨o, by rw [hs.heap L.blk (Array.getElem?_eq_some_iff.1 g1).1]; exact g1, g2⟩
def isL (v : V) : Bool := vS v fun _ => true
def plainTB (args : V) : Bool := arg0 args fun x r => arg0 r fun y _ => ite1 (isL x) (isI y)
def hkOr (f g : HookF) : HookF := fun args h nx K => Bool.rec (g args h nx K) (f args h nx K) (plainTB args)
theorem hkOr_ok {g : Nat} {a b : HookF} (ha : HookOk P ng g a) (hb : HookOk P ng g b) : HookOk P ng g (hkOr a b) := by
  intro args h nx K Kp hk
  unfold hkOr at hk
  cases e : plainTB args with
  | true => rw [e] at hk; exact ha args h nx K Kp hk
  | false => rw [e] at hk; exact hb args h nx K Kp hk
def strC (v : V) (k : V → Bool) : Bool := V.rec (motive := fun _ => Bool) false (fun _ _ _ _ => false) (fun _ => false) (fun _ _ => false) (fun l => chbK l k) (fun _ _ => false) false (fun _ _ _ _ => false) false false false (fun _ => false) false (fun _ _ _ => false) false (fun _ _ _ => false) false (fun _ _ => false) (fun _ _ => false) (fun _ _ _ _ => false) (fun l _ => k l) (fun _ _ _ _ _ => false) (fun _ _ _ _ _ _ => false) v
theorem strC_spec {v : V} {k : V → Bool} {x : Value} (hk : strC v k = true) (hx : VR ρ v x) : ∃ c b, k c = true ∧ x = .string b ∧ VRs ρ c (bytesV b) := by
  cases v <;> first | exact Bool.noConfusion hk | skip
  case s l =>
    simp only [VR] at hx
    obtain ⟨rfl, hl⟩ := hx
    obtain ⟨c, h1, h2⟩ := chbK_bytes (show chbK l k = true from hk) hl
    exact ⟨c, _, h1, rfl, h2 ρ⟩
  case w l =>
    simp only [VR] at hx
    obtain ⟨b, rfl, hb⟩ := hx
    exact ⟨l, b, hk, rfl, hb⟩
def textRng (args : V) (k : V → Nat → Nat → Nat → Bool) : Bool := arg0 args fun x r => arg0 r fun y r' => chain (strC x fun c => rngK y fun kd lo hi i => ite1 (keq kd .u8) <| ite1 (Nat.ble hi 255) <| k c lo hi i) (fun _ _ _ => false) r'
theorem textRng_spec {args : V} {k : V → Nat → Nat → Nat → Bool} {vs : List Value} (hk : textRng args k = true) (hv : VRs ρ args vs) :
    ∃ c lo hi i b n, k c lo hi i = true ∧ n < 256 ∧ InR ρ lo hi i n ∧ VRs ρ c (bytesV b) ∧ vs = [.string b, .int .u8 (n : Int)] := by
  obtain ⟨x, r, rfl, hk2⟩ := arg0_spec hk
  obtain ⟨y, r', rfl, hk3⟩ := arg0_spec hk2
  simp only [VRs] at hv
  obtain ⟨v1, l1, rfl, h1, v2, l2, rfl, h2, h3⟩ := hv
  cases r' <;> first | (simp only [VRs] at h3; done) | exact Bool.noConfusion hk3 | skip
  simp only [VRs] at h3
  subst h3
  obtain ⟨c, b, hk4, rfl, hb⟩ := strC_spec (show strC x (fun c => rngK y fun kd lo hi i => ite1 (keq kd .u8) <| ite1 (Nat.ble hi 255) <| k c lo hi i) = true from hk3) h1
  obtain ⟨kd, lo, hi, i, hk5, hr⟩ := rngK_spec hk4
  obtain ⟨e1, hk6⟩ := ite1_spec hk5
  have e1 := keq_eq e1
  subst e1
  obtain ⟨e2, hk7⟩ := ite1_spec hk6
  have e2 := Nat.le_of_ble_eq_true e2
  obtain ⟨n, rfl, hn⟩ := hr ρ _ h2
  exact ⟨c, lo, hi, i, b, n, hk7, by have := hn.2.1; omega, hn, hb, rfl⟩
def widxK (l1 h1 i1 : Nat) (c : V) : Nat → (Int → Bool) → Bool := chain (M := Nat → (Int → Bool) → Bool) (fun _ k => k (Int.negSucc 0)) (fun x _ ih i k => rngK x fun _ l2 h2 i2 => tri l2 h2 i2 l1 h1 i1 (ih (Nat.succ i) k) (k (Int.ofNat i)) false) c
def wcntK (l1 h1 i1 : Nat) (c : V) : Nat → (Nat → Bool) → Bool := chain (M := Nat → (Nat → Bool) → Bool) (fun n k => k n) (fun x _ ih n k => rngK x fun _ l2 h2 i2 => tri l2 h2 i2 l1 h1 i1 (ih n k) (ih (Nat.succ n) k) false) c
def hkIndexByteW : HookF := fun args h nx K => textRng args fun c lo hi i => widxK lo hi i c 0 fun n => K (.i .i64 n) h nx
def hkCountW : HookF := fun args h nx K => textRng args fun c lo hi i => wcntK lo hi i c 0 fun n => K (.i .i64 (Int.ofNat n)) h nx
theorem u8_ne {c : UInt8} {n : Nat} (hn : n < 256) (h : c.toNat ≠ n) : (c == UInt8.ofNat n) = false := by
  rw [beq_eq_false_iff_ne]
  intro e
  apply h
  rw [e]
  simp [UInt8.toNat_ofNat', Nat.mod_eq_of_lt hn]
theorem u8_eq {c : UInt8} {n : Nat} (h : c.toNat = n) : c = UInt8.ofNat n := by
  rw [← h]; simp
theorem byte_cell {x : V} {c : UInt8} {k : IntKind → Nat → Nat → Nat → Bool} (hk : rngK x k = true) (hx : VR ρ x (byteV c)) : ∃ kd lo hi i, k kd lo hi i = true ∧ InR ρ lo hi i c.toNat := by
  obtain ⟨kd, lo, hi, i, h1, h2⟩ := rngK_spec hk
  obtain ⟨n, e, hn⟩ := h2 ρ _ hx
  simp only [byteV, Value.int.injEq] at e
  have e2 : c.toNat = n := by omega
  exact ⟨kd, lo, hi, i, h1, e2 ▸ hn⟩
theorem widxK_spec {l1 h1 i1 n : Nat} (hn : n < 256) (hr : InR ρ l1 h1 i1 n) : ∀ {c : V} {bl : List UInt8} (i : Nat) {k : Int → Bool}, widxK l1 h1 i1 c i k = true → VRs ρ c (bl.map byteV) → k (let r := Lib.indexByte bl (UInt8.ofNat n); if r < 0 then -1 else (i : Int) + r) = true := by
  intro c
  induction c with
  | nil =>
    intro bl i k hk hv
    simp only [VRs, List.map_eq_nil_iff] at hv
    subst hv
    exact hk
  | cons x l _ ih =>
    intro bl i k hk hv
    simp only [VRs] at hv
    obtain ⟨v, vs, e, h1', h2⟩ := hv
    cases bl with
    | nil => cases e
    | cons d ds =>
      simp only [List.map_cons, List.cons.injEq] at e
      obtain ⟨rfl, rfl⟩ := e
      obtain ⟨kd, l2, h2', i2, hk2, hin⟩ := byte_cell (show (rngK x fun _ l2 h2 i2 => tri l2 h2 i2 l1 h1 i1 (widxK l1 h1 i1 l (Nat.succ i) k) (k (Int.ofNat i)) false) = true from hk) h1'
      have hge := Lib.indexByte_ge ds (UInt8.ofNat n)
      have ei : Lib.indexByte (d :: ds) (UInt8.ofNat n) = if (d == UInt8.ofNat n) = true then 0 else if Lib.indexByte ds (UInt8.ofNat n) == -1 then -1 else Lib.indexByte ds (UInt8.ofNat n) + 1 := rfl
      rw [ei]
      rcases tri_spec hk2 hin hr with ⟨hne, g⟩ | ⟨he, g⟩ | g
      · have := ih (i + 1) g h2
        rw [u8_ne hn hne]
        generalize Lib.indexByte ds (UInt8.ofNat n) = q at hge this
        by_cases hq : q = -1
        · subst hq; simpa using this
        · have q1 : ¬ q < 0 := by omega
          have q2 : ¬ q + 1 < 0 := by omega
          simp only [q1, if_false] at this
          simp only [Bool.false_eq_true, if_false, beq_iff_eq, hq, q2]
          have e3 : ((i + 1 : Nat) : Int) + q = (i : Int) + (q + 1) := by omega
          rwa [e3] at this
      · have e2 := u8_eq he
        rw [← e2]
        simpa using g
      · cases g
  | _ => intro bl i k hk hv; simp only [VRs] at hv
theorem wcntK_spec {l1 h1 i1 n : Nat} (hn : n < 256) (hr : InR ρ l1 h1 i1 n) : ∀ {c : V} {bl : List UInt8} (m : Nat) {k : Nat → Bool}, wcntK l1 h1 i1 c m k = true → VRs ρ c (bl.map byteV) → k (m + bl.count (UInt8.ofNat n)) = true := by
  intro c
  induction c with
  | nil =>
    intro bl m k hk hv
    simp only [VRs, List.map_eq_nil_iff] at hv
    subst hv
    exact hk
  | cons x l _ ih =>
    intro bl m k hk hv
    simp only [VRs] at hv
    obtain ⟨v, vs, e, h1', h2⟩ := hv
    cases bl with
    | nil => cases e
    | cons d ds =>
      simp only [List.map_cons, List.cons.injEq] at e
      obtain ⟨rfl, rfl⟩ := e
      obtain ⟨kd, l2, h2', i2, hk2, hin⟩ := byte_cell (show (rngK x fun _ l2 h2 i2 => tri l2 h2 i2 l1 h1 i1 (wcntK l1 h1 i1 l m k) (wcntK l1 h1 i1 l (Nat.succ m) k) false) = true from hk) h1'
      rw [List.count_cons]
      rcases tri_spec hk2 hin hr with ⟨hne, g⟩ | ⟨he, g⟩ | g
      · have := ih m g h2
        rw [u8_ne hn hne]
        simpa using this
      · have := ih (m + 1) g h2
        have e2 := u8_eq he
        rw [← e2] at this ⊢
        have e3 : m + 1 + ds.count d = m + (ds.count d + if (d == d) = true then 1 else 0) := by simp; omega
        rw [e3] at this
        exact this
      · cases g
  | _ => intro bl m k hk hv; simp only [VRs] at hv
theorem hkIndexByteW_ok {g : Nat} {fn : Func} (hf : P.funcs[g]? = some fn) (hname : (fn.name == "runtime.NumGoroutine") = false) (hb : fn.body.isNone = true) (hn : Extern.findNext fn = none) (he : Extern.find fn = some Extern.BytealgIndexByte.indexByte) : HookOk P ng g hkIndexByteW := by
  intro args h nx K Kp hk ρ w vs s _ hv
  obtain ⟨c, lo, hi, i, b, n, hk2, hlt, hin, hbv, rfl⟩ := textRng_spec hk hv
  have hk3 := widxK_spec (bl := b.data.toList) hlt hin 0 hk2 hbv
  have hr := Lib.run_indexByteString (P := P) b (n : Int) w
  have e : ((n : Int).toNat.toUInt8) = UInt8.ofNat n := by simp
  rw [e] at hr
  have hge := Lib.indexByte_ge b.data.toList (UInt8.ofNat n)
  refine UponOK.val (upon_extern hf hname hb hn he hr) ?_ s (Ext.refl _ _ _) hk3
  simp only [VR]
  congr 1
  split <;> omega
theorem hkCountW_ok {g : Nat} {fn : Func} (hf : P.funcs[g]? = some fn) (hname : (fn.name == "runtime.NumGoroutine") = false) (hb : fn.body.isNone = true) (hn : Extern.findNext fn = none) (he : Extern.find fn = some Extern.BytealgCount.count) : HookOk P ng g hkCountW := by
  intro args h nx K Kp hk ρ w vs s _ hv
  obtain ⟨c, lo, hi, i, b, n, hk2, hlt, hin, hbv, rfl⟩ := textRng_spec hk hv
  have hk3 := wcntK_spec (bl := b.data.toList) hlt hin 0 hk2 hbv
  rw [Nat.zero_add] at hk3
  have hr := Lib.run_countString (P := P) b (n : Int) w
  have e : Lib.countByte b.data.toList ((n : Int).toNat.toUInt8) = b.data.toList.count (UInt8.ofNat n) := by simp [Lib.countByte]
  rw [e] at hr
  exact UponOK.val (upon_extern hf hname hb hn he hr) (VRi _ _ _) s (Ext.refl _ _ _) hk3
end
end Go.Mx
namespace Go.Mx
noncomputable section
variable {P : Program}
def allN (n : Nat) (f : Nat → Bool) : Bool := Nat.rec (motive := fun _ => Bool) true (fun m ih => ite1 (f m) ih) n
theorem allN_spec {f : Nat → Bool} : ∀ {n : Nat}, allN n f = true → ∀ m, m < n → f m = true
  | 0, _, m, hm => by omega
  | n + 1, h, m, hm => by
    obtain ⟨h1, h2⟩ := ite1_spec (show ite1 (f n) (allN n f) = true from h)
    by_cases e : m = n
    · subst e; exact h1
    · exact allN_spec h2 m (by omega)
end
end Go.Mx
namespace Go.Mx
noncomputable section
variable {P : Program} {ng : Nat}
abbrev LH := List (Nat × Nat × Nat × Nat × Nat × List Nat × Nat × Nat)
variable {hk : Nat → Option (V → T O → Nat → KV → Bool)} {lk : LH}
end
end Go.Mx
