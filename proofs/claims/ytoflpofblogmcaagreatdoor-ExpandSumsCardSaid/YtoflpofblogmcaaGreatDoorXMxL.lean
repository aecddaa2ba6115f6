/-
  A part of a small executor of the model, proved sound (18 of 34). No condition.
-/
import Derived.Test.YtoflpofblogmcaaGreatDoorXMxG
import Derived.Test.YtoflpofblogmcaaGreatDoorXMx36
namespace Go.Mx
open Instr Builtin
noncomputable section
variable {P : Program} {ρ : Ren} {h : T O} {nx : Nat} {w : World} {ng : Nat}
theorem upon_of_calls (hn : NameOK P) {g : Nat} {fn : Func} {c : Code} (hf : P.funcs[g]? = some fn) (hb : fn.body = some c) {vs : List Value} {y : V} (hc : Calls P g ⟨vs⟩ w fun e w' => ∃ v, e = .returned v ∧ VR ρ y v ∧ Stays w w')
    (s : St ρ h nx w) {K Kp : KV} (hk : K y h nx = true) : UponOK P ((callFunc g ⟨vs⟩).run P w) ρ h w K Kp := by
  intro o a next Q h1 _
  rw [callFunc_enter hn hf hb, Oper.upon_enter]
  refine hc.mono fun e w' ⟨v, he, hv, hs⟩ => ?_
  subst he
  refine h1 ρ y h nx v w' hv ⟨fun id L hi hL => ?_, s.inj, s.fresh, s.dead⟩ ⟨Ren.le.refl _, hs.size, hs.os, hs.tape, hs.output, fun b hb hk => ⟨hs.heap b hb, hk⟩, fun _ _ k => ⟨k, rfl⟩⟩ hk
  obtain ⟨o, g1, g2⟩ := s.rel id L hi hL
  exact ⟨o, by rw [hs.heap L.blk (Array.getElem?_eq_some_iff.1 g1).1]; exact g1, g2⟩
def isL (v : V) : Bool := vS v fun _ => true
def plainTB (args : V) : Bool := arg0 args fun x r => arg0 r fun y _ => ite1 (isL x) (isI y)
def hkOr (f g : HookF) : HookF := fun args h nx K => Bool.rec (g args h nx K) (f args h nx K) (plainTB args)
theorem hkOr_ok {g : Nat} {a b : HookF} (ha : HookOk P ng g a) (hb : HookOk P ng g b) : HookOk P ng g (hkOr a b) := by
  intro args h nx K Kp hk
  unfold hkOr at hk
  cases e : plainTB args with
  | true => rw [e] at hk; exact ha args h nx K Kp hk
  | false => rw [e] at hk; exact hb args h nx K Kp hk
def strC (v : V) (k : V → Bool) : Bool := V.rec (motive := fun _ => Bool) false (fun _ _ _ _ => false) (fun _ => false) (fun _ _ => false) (fun l => chbK l k) (fun _ _ => false) false (fun _ _ _ _ => false) false false false (fun _ => false) false (fun _ _ _ => false) false (fun _ _ _ => false) false (fun _ _ => false) (fun _ _ => false) (fun _ _ _ _ => false) (fun l _ => k l) (fun _ _ _ _ _ => false) (fun _ _ _ _ _ _ => false) v
theorem strC_spec {v : V} {k : V → Bool} {x : Value} (hk : strC v k = true) (hx : VR ρ v x) : ∃ c b, k c = true ∧ x = .string b ∧ VRs ρ c (bytesV b) := by
  cases v <;> first | exact Bool.noConfusion hk | skip
  case s l =>
    simp only [VR] at hx
    obtain ⟨rfl, hl⟩ := hx
    obtain ⟨c, h1, h2⟩ := chbK_bytes (show chbK l k = true from hk) hl
    exact ⟨c, _, h1, rfl, h2 ρ⟩
  case w l =>
    simp only [VR] at hx
    obtain ⟨b, rfl, hb⟩ := hx
    exact ⟨l, b, hk, rfl, hb⟩
def textRng (args : V) (k : V → Nat → Nat → Nat → Bool) : Bool := arg0 args fun x r => arg0 r fun y r' => chain (strC x fun c => rngK y fun kd lo hi i => ite1 (keq kd .u8) <| ite1 (Nat.ble hi 255) <| k c lo hi i) (fun _ _ _ => false) r'
theorem textRng_spec {args : V} {k : V → Nat → Nat → Nat → Bool} {vs : List Value} (hk : textRng args k = true) (hv : VRs ρ args vs) :
    ∃ c lo hi i b n, k c lo hi i = true ∧ n < 256 ∧ InR ρ lo hi i n ∧ VRs ρ c (bytesV b) ∧ vs = [.string b, .int .u8 (n : Int)] := by
  obtain ⟨x, r, rfl, hk2⟩ := arg0_spec hk
  obtain ⟨y, r', rfl, hk3⟩ := arg0_spec hk2
  simp only [VRs] at hv
  obtain ⟨v1, l1, rfl, h1, v2, l2, rfl, h2, h3⟩ := hv
  cases r' <;> first | (simp only [VRs] at h3; done) | exact Bool.noConfusion hk3 | skip
  simp only [VRs] at h3
  subst h3
  obtain ⟨c, b, hk4, rfl, hb⟩ := strC_spec (show strC x (fun c => rngK y fun kd lo hi i => ite1 (keq kd .u8) <| ite1 (Nat.ble hi 255) <| k c lo hi i) = true from hk3) h1
  obtain ⟨kd, lo, hi, i, hk5, hr⟩ := rngK_spec hk4
  obtain ⟨e1, hk6⟩ := ite1_spec hk5
  have e1 := keq_eq e1
  subst e1
  obtain ⟨e2, hk7⟩ := ite1_spec hk6
  have e2 := Nat.le_of_ble_eq_true e2
  obtain ⟨n, rfl, hn⟩ := hr ρ _ h2
  exact ⟨c, lo, hi, i, b, n, hk7, by have := hn.2.1; omega, hn, hb, rfl⟩
def widxK (l1 h1 i1 : Nat) (c : V) : Nat → (Int → Bool) → Bool := chain (M := Nat → (Int → Bool) → Bool) (fun _ k => k (Int.negSucc 0)) (fun x _ ih i k => rngK x fun _ l2 h2 i2 => tri l2 h2 i2 l1 h1 i1 (ih (Nat.succ i) k) (k (Int.ofNat i)) false) c
def wcntK (l1 h1 i1 : Nat) (c : V) : Nat → (Nat → Bool) → Bool := chain (M := Nat → (Nat → Bool) → Bool) (fun n k => k n) (fun x _ ih n k => rngK x fun _ l2 h2 i2 => tri l2 h2 i2 l1 h1 i1 (ih n k) (ih (Nat.succ n) k) false) c
def hkIndexByteW : HookF := fun args h nx K => textRng args fun c lo hi i => widxK lo hi i c 0 fun n => K (.i .i64 n) h nx
def hkCountW : HookF := fun args h nx K => textRng args fun c lo hi i => wcntK lo hi i c 0 fun n => K (.i .i64 (Int.ofNat n)) h nx
theorem u8_ne {c : UInt8} {n : Nat} (hn : n < 256) (h : c.toNat ≠ n) : (c == UInt8.ofNat n) = false := by
  rw [beq_eq_false_iff_ne]
  intro e
  apply h
  rw [e]
  simp [UInt8.toNat_ofNat', Nat.mod_eq_of_lt hn]
theorem u8_eq {c : UInt8} {n : Nat} (h : c.toNat = n) : c = UInt8.ofNat n := by
  rw [← h]; simp
theorem byte_cell {x : V} {c : UInt8} {k : IntKind → Nat → Nat → Nat → Bool} (hk : rngK x k = true) (hx : VR ρ x (byteV c)) : ∃ kd lo hi i, k kd lo hi i = true ∧ InR ρ lo hi i c.toNat := by
  obtain ⟨kd, lo, hi, i, h1, h2⟩ := rngK_spec hk
  obtain ⟨n, e, hn⟩ := h2 ρ _ hx
  simp only [byteV, Value.int.injEq] at e
  have e2 : c.toNat = n := by omega
  exact ⟨kd, lo, hi, i, h1, e2 ▸ hn⟩
theorem widxK_spec {l1 h1 i1 n : Nat} (hn : n < 256) (hr : InR ρ l1 h1 i1 n) : ∀ {c : V} {bl : List UInt8} (i : Nat) {k : Int → Bool}, widxK l1 h1 i1 c i k = true → VRs ρ c (bl.map byteV) → k (let r := Lib.indexByte bl (UInt8.ofNat n); if r < 0 then -1 else (i : Int) + r) = true := by
  intro c
  induction c with
  | nil =>
    intro bl i k hk hv
    simp only [VRs, List.map_eq_nil_iff] at hv
    subst hv
    exact hk
  | cons x l _ ih =>
    intro bl i k hk hv
    simp only [VRs] at hv
    obtain ⟨v, vs, e, h1', h2⟩ := hv
    cases bl with
    | nil => cases e
    | cons d ds =>
      simp only [List.map_cons, List.cons.injEq] at e
      obtain ⟨rfl, rfl⟩ := e
      obtain ⟨kd, l2, h2', i2, hk2, hin⟩ := byte_cell (show (rngK x fun _ l2 h2 i2 => tri l2 h2 i2 l1 h1 i1 (widxK l1 h1 i1 l (Nat.succ i) k) (k (Int.ofNat i)) false) = true from hk) h1'
      have hge := Lib.indexByte_ge ds (UInt8.ofNat n)
      have ei : Lib.indexByte (d :: ds) (UInt8.ofNat n) = if (d == UInt8.ofNat n) = true then 0 else if Lib.indexByte ds (UInt8.ofNat n) == -1 then -1 else Lib.indexByte ds (UInt8.ofNat n) + 1 := rfl
      rw [ei]
      rcases tri_spec hk2 hin hr with ⟨hne, g⟩ | ⟨he, g⟩ | g
      · have := ih (i + 1) g h2
        rw [u8_ne hn hne]
        generalize Lib.indexByte ds (UInt8.ofNat n) = q at hge this
        by_cases hq : q = -1
        · subst hq; simpa using this
        · have q1 : ¬ q < 0 := by omega
          have q2 : ¬ q + 1 < 0 := by omega
          simp only [q1, if_false] at this
          simp only [Bool.false_eq_true, if_false, beq_iff_eq, hq, q2]
          have e3 : ((i + 1 : Nat) : Int) + q = (i : Int) + (q + 1) := by omega
          rwa [e3] at this
      · have e2 := u8_eq he
        rw [← e2]
        simpa using g
      · cases g
  | _ => intro bl i k hk hv; simp only [VRs] at hv
theorem wcntK_spec {l1 h1 i1 n : Nat} (hn : n < 256) (hr : InR ρ l1 h1 i1 n) : ∀ {c : V} {bl : List UInt8} (m : Nat) {k : Nat → Bool}, wcntK l1 h1 i1 c m k = true → VRs ρ c (bl.map byteV) → k (m + bl.count (UInt8.ofNat n)) = true := by
  intro c
  induction c with
  | nil =>
    intro bl m k hk hv
    simp only [VRs, List.map_eq_nil_iff] at hv
    subst hv
    exact hk
  | cons x l _ ih =>
    intro bl m k hk hv
    simp only [VRs] at hv
    obtain ⟨v, vs, e, h1', h2⟩ := hv
    cases bl with
    | nil => cases e
    | cons d ds =>
      simp only [List.map_cons, List.cons.injEq] at e
      obtain ⟨rfl, rfl⟩ := e
      obtain ⟨kd, l2, h2', i2, hk2, hin⟩ := byte_cell (show (rngK x fun _ l2 h2 i2 => tri l2 h2 i2 l1 h1 i1 (wcntK l1 h1 i1 l m k) (wcntK l1 h1 i1 l (Nat.succ m) k) false) = true from hk) h1'
      rw [List.count_cons]
      rcases tri_spec hk2 hin hr with ⟨hne, g⟩ | ⟨he, g⟩ | g
      · have := ih m g h2
        rw [u8_ne hn hne]
        simpa using this
      · have := ih (m + 1) g h2
        have e2 := u8_eq he
        rw [← e2] at this ⊢
        have e3 : m + 1 + ds.count d = m + (ds.count d + if (d == d) = true then 1 else 0) := by simp; omega
        rw [e3] at this
        exact this
      · cases g
  | _ => intro bl m k hk hv; simp only [VRs] at hv
theorem hkIndexByteW_ok {g : Nat} {fn : Func} (hf : P.funcs[g]? = some fn) (hname : (fn.name == "runtime.NumGoroutine") = false) (hb : fn.body.isNone = true) (hn : Extern.findNext fn = none) (he : Extern.find fn = some Extern.BytealgIndexByte.indexByte) : HookOk P ng g hkIndexByteW := by
  intro args h nx K Kp hk ρ w vs s _ hv
  obtain ⟨c, lo, hi, i, b, n, hk2, hlt, hin, hbv, rfl⟩ := textRng_spec hk hv
  have hk3 := widxK_spec (bl := b.data.toList) hlt hin 0 hk2 hbv
  have hr := Lib.run_indexByteString (P := P) b (n : Int) w
  have e : ((n : Int).toNat.toUInt8) = UInt8.ofNat n := by simp
  rw [e] at hr
  have hge := Lib.indexByte_ge b.data.toList (UInt8.ofNat n)
  refine UponOK.val (upon_extern hf hname hb hn he hr) ?_ s (Ext.refl _ _ _) hk3
  simp only [VR]
  congr 1
  split <;> omega
theorem hkCountW_ok {g : Nat} {fn : Func} (hf : P.funcs[g]? = some fn) (hname : (fn.name == "runtime.NumGoroutine") = false) (hb : fn.body.isNone = true) (hn : Extern.findNext fn = none) (he : Extern.find fn = some Extern.BytealgCount.count) : HookOk P ng g hkCountW := by
  intro args h nx K Kp hk ρ w vs s _ hv
  obtain ⟨c, lo, hi, i, b, n, hk2, hlt, hin, hbv, rfl⟩ := textRng_spec hk hv
  have hk3 := wcntK_spec (bl := b.data.toList) hlt hin 0 hk2 hbv
  rw [Nat.zero_add] at hk3
  have hr := Lib.run_countString (P := P) b (n : Int) w
  have e : Lib.countByte b.data.toList ((n : Int).toNat.toUInt8) = b.data.toList.count (UInt8.ofNat n) := by simp [Lib.countByte]
  rw [e] at hr
  exact UponOK.val (upon_extern hf hname hb hn he hr) (VRi _ _ _) s (Ext.refl _ _ _) hk3
end
end Go.Mx
namespace Go.Mx
noncomputable section
variable {P : Program}
def atomsV (lo hi n : Nat) : Nat → V → V := Nat.rec (motive := fun _ => Nat → V → V) (fun _ r => r) (fun _ ih i r => .cons (.x i .u8 lo hi) (ih (Nat.succ i) r)) n
def atomsR (ng : Nat) (vals : List Nat) : Ren := fun i => if i < ng then none else (vals[i - ng]?).map fun n => ⟨0, n, 0⟩
theorem atomsR_at {ng : Nat} {vals : List Nat} {j n : Nat} (h : vals[j]? = some n) : ∃ L, atomsR ng vals (ng + j) = some L ∧ L.base = n := by
  refine ⟨⟨0, n, 0⟩, ?_, rfl⟩
  unfold atomsR
  rw [if_neg (by omega)]
  simp [h]
theorem VRs_atoms {ρ : Ren} {lo hi : Nat} {r : V} {rs : List Value} (hr : VRs ρ r rs) : ∀ (bl : List UInt8) (i : Nat), (∀ c ∈ bl, lo ≤ c.toNat ∧ c.toNat ≤ hi) → (∀ j c, bl[j]? = some c → ∃ L, ρ (i + j) = some L ∧ L.base = c.toNat) →
    VRs ρ (atomsV lo hi bl.length i r) (bl.map byteV ++ rs)
  | [], _, _, _ => hr
  | c :: bl, i, h1, h2 => by
    have ih := VRs_atoms hr bl (i + 1) (fun d hd => h1 d (List.mem_cons_of_mem _ hd)) (fun j d hj => by
      have := h2 (j + 1) d (by simpa using hj)
      rwa [show i + (j + 1) = i + 1 + j by omega] at this)
    obtain ⟨L, e1, e2⟩ := h2 0 c rfl
    have h3 := h1 c (List.mem_cons_self ..)
    show VRs ρ (.cons (.x i .u8 lo hi) (atomsV lo hi bl.length (i + 1) r)) (byteV c :: (bl.map byteV ++ rs))
    simp only [VRs]
    exact ⟨_, _, rfl, by simp only [VR]; exact ⟨L, e1, by omega, by omega, by rw [e2]; rfl⟩, ih⟩
theorem VR_word {ρ : Ren} {lo hi i : Nat} {s : ByteArray} {n : Nat} (hn : s.size = n) (h1 : ∀ c ∈ s.data.toList, lo ≤ c.toNat ∧ c.toNat ≤ hi) (h2 : ∀ (j : Nat) c, s.data.toList[j]? = some c → ∃ L, ρ (i + j) = some L ∧ L.base = c.toNat) : VR ρ (.w (atomsV lo hi n i .nil)) (.string s) := by
  simp only [VR]
  refine ⟨s, rfl, ?_⟩
  have := VRs_atoms (r := .nil) (rs := []) (by simp [VRs]) s.data.toList i h1 h2
  rw [List.append_nil] at this
  have hl : s.data.toList.length = n := by rw [← hn]; rfl
  rw [hl] at this
  exact this
theorem VR_front {ρ : Ren} {lo hi lo' hi' i a blo bhi : Nat} {s : ByteArray} {k : Nat} {d : UInt8} (hk : s.data.toList[k]? = some d) (h1 : ∀ c ∈ s.data.toList.take k, lo ≤ c.toNat ∧ c.toNat ≤ hi) (hd : lo' ≤ d.toNat ∧ d.toNat ≤ hi')
    (h2 : ∀ (j : Nat) c, s.data.toList[j]? = some c → j ≤ k → ∃ L, ρ (i + j) = some L ∧ L.base = c.toNat) (ha : ∃ L, ρ a = some L ∧ L.base = s.size) (hb : blo ≤ s.size ∧ s.size ≤ bhi) :
    VR ρ (.y (atomsV lo hi k i (.cons (.x (i + k) .u8 lo' hi') .nil)) a blo bhi) (.string s) := by
  simp only [VR]
  obtain ⟨L, e1, e2⟩ := ha
  obtain ⟨M, e3, e4⟩ := h2 k d hk (Nat.le_refl _)
  refine ⟨s, L, k + 1, rfl, e1, e2, hb.1, hb.2, ?_⟩
  have hlt : k < s.data.toList.length := (List.getElem?_eq_some_iff.1 hk).1
  have := VRs_atoms (ρ := ρ) (lo := lo) (hi := hi) (r := .cons (.x (i + k) .u8 lo' hi') .nil) (rs := [byteV d]) (by
    simp only [VRs]
    exact ⟨_, _, rfl, by simp only [VR]; exact ⟨M, e3, by omega, by omega, by rw [e4]; rfl⟩, rfl⟩) (s.data.toList.take k) i h1 (fun j c hj => by
      have hjk : j < k := by
        have := (List.getElem?_eq_some_iff.1 hj).1
        simp at this
        omega
      rw [List.getElem?_take_of_lt hjk] at hj
      exact h2 j c hj (by omega))
  have hl : (s.data.toList.take k).length = k := by simp at hlt ⊢; omega
  rw [hl] at this
  have e : (bytesV s).take (k + 1) = (s.data.toList.take k).map byteV ++ [byteV d] := by
    unfold bytesV
    rw [← List.map_take, List.take_add_one, hk]
    simp
  rw [e]
  exact this
theorem VR_long {ρ : Ren} {a blo bhi : Nat} {s : ByteArray} (ha : ∃ L, ρ a = some L ∧ L.base = s.size) (hb : blo ≤ s.size ∧ s.size ≤ bhi) : VR ρ (.y .nil a blo bhi) (.string s) := by
  simp only [VR]
  obtain ⟨L, e1, e2⟩ := ha
  exact ⟨s, L, 0, rfl, e1, e2, hb.1, hb.2, by simp [VRs]⟩
theorem words (lo hi bound : Nat) (s : ByteArray) : bound < s.size ∨ (s.size ≤ bound ∧ ∀ c ∈ s.data.toList, lo ≤ c.toNat ∧ c.toNat ≤ hi) ∨
    ∃ (k : Nat) (d : UInt8), s.size ≤ bound ∧ s.data.toList[k]? = some d ∧ (∀ c ∈ s.data.toList.take k, lo ≤ c.toNat ∧ c.toNat ≤ hi) ∧ (d.toNat < lo ∨ hi < d.toNat) := by
  rcases Nat.lt_or_ge bound s.size with h | h
  · exact .inl h
  refine .inr ?_
  have key : ∀ l : List UInt8, (∀ c ∈ l, lo ≤ c.toNat ∧ c.toNat ≤ hi) ∨ ∃ (k : Nat) (d : UInt8), l[k]? = some d ∧ (∀ c ∈ l.take k, lo ≤ c.toNat ∧ c.toNat ≤ hi) ∧ (d.toNat < lo ∨ hi < d.toNat) := by
    intro l
    induction l with
    | nil => exact .inl (by simp)
    | cons c l ih =>
      by_cases hc : lo ≤ c.toNat ∧ c.toNat ≤ hi
      · rcases ih with ih | ⟨k, d, h1, h2, h3⟩
        · refine .inl fun e he => ?_
          rcases List.mem_cons.1 he with rfl | he
          · exact hc
          · exact ih e he
        · refine .inr ⟨k + 1, d, by simpa using h1, fun e he => ?_, h3⟩
          rw [List.take_succ_cons] at he
          rcases List.mem_cons.1 he with rfl | he
          · exact hc
          · exact h2 e he
      · exact .inr ⟨0, c, rfl, by simp, by omega⟩
  rcases key s.data.toList with g | ⟨k, d, g⟩
  · exact .inl ⟨h, g⟩
  · exact .inr ⟨k, d, h, g⟩
def allN (n : Nat) (f : Nat → Bool) : Bool := Nat.rec (motive := fun _ => Bool) true (fun m ih => ite1 (f m) ih) n
theorem allN_spec {f : Nat → Bool} : ∀ {n : Nat}, allN n f = true → ∀ m, m < n → f m = true
  | 0, _, m, hm => by omega
  | n + 1, h, m, hm => by
    obtain ⟨h1, h2⟩ := ite1_spec (show ite1 (f n) (allN n f) = true from h)
    by_cases e : m = n
    · subst e; exact h1
    · exact allN_spec h2 m (by omega)
theorem top_run_x (hm : P.follows .mixedOrders = true) (hn : NameOK P) {hk : Nat → Option HookF} {ng : Nat} (hh : HKok P ng hk) {n g : Nat} {fn : Func} {cd : Code} (hf : P.funcs[g]? = some fn) (hb : fn.body = some cd)
    {l : List (Nat × V)} {x : Bool} {args : V} {vs : List Value} (hl : inT ng l = true) {vals : List Nat} {nx : Nat} (hnx : nx = ng + vals.length) (hv : VRs (atomsR ng vals) args vs)
    (hrun : ∀ τ, mkTK τ l .leaf (fun h0 => run P ng hk n g args h0 nx (fun v _ _ => isB x v) (fun _ _ _ => false)) = true) {W : World} (tab : HasTables l W) :
    Calls P g ⟨vs⟩ W fun e W' => e = .returned (.bool x) ∧ Stays W W' := by
  let τ : Nat → Nat := fun i => match W.heap[i]? with
    | some (.cells _ ty _) => ty
    | _ => 0
  let sz : Nat → Nat := fun i => match W.heap[i]? with
    | some (.cells arr _ _) => arr.size
    | _ => 0
  have hrun := hrun τ
  rw [mkTK_eq] at hrun
  let ρr : Ren := fun i => if i < ng then some ⟨i, 0, sz i⟩ else atomsR ng vals i
  have hin := inT_spec hl
  have at0 := mkT_at τ l (.leaf : T O)
  have live0 : ∀ i, (gt O.none i (mkTb τ l .leaf)).live → ∃ p ∈ l, p.1 = i ∧ gt O.none i (mkTb τ l .leaf) = tabO p.2 (τ i) := fun i hi => by
    rcases at0 i with h1 | ⟨_, h2⟩
    · exact h1
    · rw [h2, gt_leaf] at hi; exact hi.elim
  have nowr : ∀ i, ¬ (gt O.none i (mkTb τ l .leaf)).wr := fun i hi => by
    obtain ⟨p, _, _, e⟩ := live0 i (O.live_of_wr hi)
    rw [e] at hi
    exact Bool.noConfusion (show false = true from hi)
  have sr : St ρr (mkTb τ l .leaf) nx W := by
    refine ⟨fun id L hi hL => ?_, fun i j L M hi => (nowr i hi).elim, fun i hi => ?_, fun i hi hl' => ?_⟩
    · obtain ⟨p, hp, rfl, e⟩ := live0 id hi
      have hlt := (hin p hp).1
      have hL' : L = ⟨p.1, 0, sz p.1⟩ := by simpa [ρr, hlt, eq_comm] using hL
      subst hL'
      obtain ⟨arr, ty, h1, h2⟩ := tab p hp
      refine ⟨_, h1, ?_⟩
      have et : τ p.1 = ty := by simp only [τ, h1]
      have es : sz p.1 = arr.size := by simp only [sz, h1]
      rw [e, et]
      exact ⟨arr, (0, 0), rfl, es.symm, (fun hf => by cases hf), Nat.zero_le _, by simpa using plain_CR (hin p hp).2 h2⟩
    · have h1 : ¬ i < ng := by omega
      have h2 : vals.length ≤ i - ng := by omega
      simp [ρr, h1, atomsR, List.getElem?_eq_none h2]
    · obtain ⟨p, hp, rfl, e⟩ := live0 i hl'
      have := (hin p hp).1
      omega
  have gr : RG ng ρr := fun i hi => ⟨⟨i, 0, sz i⟩, by simp [ρr, hi], rfl, rfl⟩
  have hv' : VRs ρr args vs := hv.mono (fun i L e => by
    by_cases h : i < ng
    · simp [atomsR, h] at e
    · simp only [ρr, h, if_false]
      exact e)
  have up := run_sound hm hn hh n g args (mkTb τ l .leaf) nx (fun v _ _ => isB x v) (fun _ _ _ => false) hrun ρr W vs sr gr hv'
  let o : Oper := { (default : Oper) with dst := some 0 }
  let a : Act := { tmps := #[undef], defers := [] }
  have h := up o a (fun a' W' => a'.tmps[0]? = some (.bool x) ∧ Stays W W') (fun _ _ _ => False) (fun ρ' y h' nx' v w' hv' _ hx hky => ?_) (fun ρ' y h' nx' v w' _ _ _ hky => Bool.noConfusion hky)
  · rw [callFunc_enter hn hf hb, Oper.upon_enter] at h
    refine h.mono fun e W' hr => ?_
    cases e with
    | returned v =>
      obtain ⟨h1, h2⟩ := hr
      have : v = .bool x := by simpa [Act.put, o, a] using h1
      exact ⟨by rw [this], h2⟩
    | panicked c => exact hr.elim
    | outgrown => obtain ⟨_, _, hq⟩ := hr; exact hq.elim
  · obtain ⟨b, rfl, hb⟩ := vB_spec (show vB y (fun b => bs_eq b x) = true from hky)
    have hbx : b = x := by cases b <;> cases x <;> first | rfl | exact Bool.noConfusion hb
    subst hbx
    simp only [VR] at hv'
    subst hv'
    exact ⟨by simp [Act.put, o, a], hx.size, hx.os, hx.tape, hx.output, fun b hb => (hx.kept b hb fun id L hw _ => (nowr id hw).elim).1⟩
end
end Go.Mx
namespace Go.Mx
noncomputable section
variable {P : Program} {ng : Nat}
theorem VR_back {ρ ρ' : Ren} (hle : Ren.le ρ ρ') : ∀ x : V, (∀ v0 v, VR ρ x v0 → VR ρ' x v → VR ρ x v) ∧ (∀ vs0 vs, VRs ρ x vs0 → VRs ρ' x vs → VRs ρ x vs) := by
  have same : ∀ {i : Nat} {L L' : Loc}, ρ i = some L → ρ' i = some L' → L' = L := fun h h' => by
    have := hle _ _ h
    rw [h'] at this
    exact Option.some.inj this
  intro x
  induction x with
  | nil => exact ⟨fun v0 v _ _ => by simp [VR], fun vs0 vs _ h' => by simpa [VRs] using h'⟩
  | cons x l ihx ihl =>
    refine ⟨fun v0 v h => by simp [VR] at h, fun vs0 vs h h' => ?_⟩
    simp only [VRs] at h h' ⊢
    obtain ⟨y0, ys0, rfl, a1, a2⟩ := h
    obtain ⟨y, ys, rfl, b1, b2⟩ := h'
    exact ⟨y, ys, rfl, ihx.1 _ _ a1 b1, ihl.2 _ _ a2 b2⟩
  | b x => exact ⟨fun v0 v _ h' => by simpa [VR] using h', fun vs0 vs h => by simp [VRs] at h⟩
  | i k n => exact ⟨fun v0 v _ h' => by simpa [VR] using h', fun vs0 vs h => by simp [VRs] at h⟩
  | s l => exact ⟨fun v0 v _ h' => by simpa [VR] using h', fun vs0 vs h => by simp [VRs] at h⟩
  | p id off =>
    refine ⟨fun v0 v h h' => ?_, fun vs0 vs h => by simp [VRs] at h⟩
    simp only [VR] at h h' ⊢
    obtain ⟨L0, a1, _⟩ := h
    obtain ⟨L, b1, b2⟩ := h'
    have := same a1 b1
    subst this
    exact ⟨_, a1, b2⟩
  | pn => exact ⟨fun v0 v _ h' => by simpa [VR] using h', fun vs0 vs h => by simp [VRs] at h⟩
  | sl id off len sz =>
    refine ⟨fun v0 v h h' => ?_, fun vs0 vs h => by simp [VRs] at h⟩
    simp only [VR] at h h' ⊢
    obtain ⟨L0, _, a1, _⟩ := h
    obtain ⟨L, cap, b1, b2⟩ := h'
    have := same a1 b1
    subst this
    exact ⟨_, cap, a1, b2⟩
  | sn => exact ⟨fun v0 v _ h' => by simpa [VR] using h', fun vs0 vs h => by simp [VRs] at h⟩
  | se => exact ⟨fun v0 v _ h' => by simpa [VR] using h', fun vs0 vs h => by simp [VRs] at h⟩
  | s0 => exact ⟨fun v0 v _ h' => by simpa [VR] using h', fun vs0 vs h => by simp [VRs] at h⟩
  | m id =>
    refine ⟨fun v0 v h h' => ?_, fun vs0 vs h => by simp [VRs] at h⟩
    simp only [VR] at h h' ⊢
    obtain ⟨L0, a1, _⟩ := h
    obtain ⟨L, b1, b2⟩ := h'
    have := same a1 b1
    subst this
    exact ⟨_, a1, b2⟩
  | mn => exact ⟨fun v0 v _ h' => by simpa [VR] using h', fun vs0 vs h => by simp [VRs] at h⟩
  | f g c ih =>
    refine ⟨fun v0 v h h' => ?_, fun vs0 vs h => by simp [VRs] at h⟩
    simp only [VR] at h h' ⊢
    obtain ⟨vs0, a1, _⟩ := h
    obtain ⟨vs, b1, b2⟩ := h'
    exact ⟨vs, ih.2 _ _ a1 b1, b2⟩
  | fn => exact ⟨fun v0 v _ h' => by simpa [VR] using h', fun vs0 vs h => by simp [VRs] at h⟩
  | e t x ih =>
    refine ⟨fun v0 v h h' => ?_, fun vs0 vs h => by simp [VRs] at h⟩
    simp only [VR] at h h' ⊢
    obtain ⟨y0, a1, _⟩ := h
    obtain ⟨y, b1, b2⟩ := h'
    exact ⟨y, ih.1 _ _ a1 b1, b2⟩
  | en => exact ⟨fun v0 v _ h' => by simpa [VR] using h', fun vs0 vs h => by simp [VRs] at h⟩
  | a l ih =>
    refine ⟨fun v0 v h h' => ?_, fun vs0 vs h => by simp [VRs] at h⟩
    simp only [VR] at h h' ⊢
    obtain ⟨vs0, a1, _⟩ := h
    obtain ⟨vs, b1, b2⟩ := h'
    exact ⟨vs, ih.2 _ _ a1 b1, b2⟩
  | t l ih =>
    refine ⟨fun v0 v h h' => ?_, fun vs0 vs h => by simp [VRs] at h⟩
    simp only [VR] at h h' ⊢
    obtain ⟨vs0, a1, _⟩ := h
    obtain ⟨vs, b1, b2⟩ := h'
    exact ⟨vs, ih.2 _ _ a1 b1, b2⟩
  | x a k lo hi =>
    refine ⟨fun v0 v h h' => ?_, fun vs0 vs h => by simp [VRs] at h⟩
    simp only [VR] at h h' ⊢
    obtain ⟨L0, a1, _⟩ := h
    obtain ⟨L, b1, b2⟩ := h'
    have := same a1 b1
    subst this
    exact ⟨_, a1, b2⟩
  | w l ih =>
    refine ⟨fun v0 v h h' => ?_, fun vs0 vs h => by simp [VRs] at h⟩
    simp only [VR] at h h' ⊢
    obtain ⟨b0, _, a1⟩ := h
    obtain ⟨b, b2, b1⟩ := h'
    exact ⟨b, b2, ih.2 _ _ a1 b1⟩
  | y l a lo hi ih =>
    refine ⟨fun v0 v h h' => ?_, fun vs0 vs h => by simp [VRs] at h⟩
    simp only [VR] at h h' ⊢
    obtain ⟨b0, L0, n0, _, a1, _, _, _, a2⟩ := h
    obtain ⟨b, L, n, b1, b2, b3, b4, b5, b6⟩ := h'
    have := same a1 b2
    subst this
    exact ⟨b, _, n, b1, a1, b3, b4, b5, ih.2 _ _ a2 b6⟩
  | o t l a lo hi ih =>
    refine ⟨fun v0 v h h' => ?_, fun vs0 vs h => by simp [VRs] at h⟩
    simp only [VR] at h h' ⊢
    rcases h' with h' | ⟨e, vs, b1, b2⟩
    · rcases h with h | ⟨e, vs0, a1, _⟩
      · left
        unfold OV at h h' ⊢
        rcases h' with ⟨e1, b, g1, g2⟩ | ⟨e1, n, g1, g2⟩ | ⟨e1, L, n, cap, g1, g2, g3⟩ | ⟨e1, x, g1, g2⟩
        · rcases h with ⟨_, b0, q1, q2⟩ | ⟨e2, _⟩ | ⟨e2, _⟩ | ⟨e2, _⟩ <;> first | omega | skip
          exact .inl ⟨e1, b, g1, by have := (q2.mono hle).fn g2; rw [← this]; exact q2⟩
        · rcases h with ⟨e2, _⟩ | ⟨_, n0, q1, q2⟩ | ⟨e2, _⟩ | ⟨e2, _⟩ <;> first | omega | skip
          exact .inr (.inl ⟨e1, n, by have := (q1.mono hle).fn g1; rw [← this]; exact q1, g2⟩)
        · rcases h with ⟨e2, _⟩ | ⟨e2, _⟩ | ⟨_, L0, n0, cap0, q1, q2, _⟩ | ⟨e2, _⟩ <;> first | omega | skip
          have := same q1 g1
          subst this
          have := (q2.mono hle).fn g2
          exact .inr (.inr (.inl ⟨e1, _, n, cap, q1, by rw [← this]; exact q2, g3⟩))
        · rcases h with ⟨e2, _⟩ | ⟨e2, _⟩ | ⟨e2, _⟩ | ⟨_, x0, q1, q2⟩ <;> first | omega | skip
          refine .inr (.inr (.inr ⟨e1, x, g1, ?_⟩))
          rcases g2 with g2 | ⟨n, g2, g3⟩
          · exact .inl g2
          · rcases q2 with q2 | ⟨n0, q2, _⟩
            · exact .inl q2
            · exact .inr ⟨n, by have := (q2.mono hle).fn g2; rw [← this]; exact q2, g3⟩
      · unfold OV at h'
        rcases h' with ⟨e1, _⟩ | ⟨e1, _⟩ | ⟨e1, _⟩ | ⟨e1, _⟩ <;> omega
    · rcases h with h | ⟨_, vs0, a1, _⟩
      · unfold OV at h
        rcases h with ⟨e1, _⟩ | ⟨e1, _⟩ | ⟨e1, _⟩ | ⟨e1, _⟩ <;> omega
      · exact .inr ⟨e, vs, ih.2 _ _ a1 b1, b2⟩
abbrev LH := List (Nat × Nat × Nat × Nat × Nat × List Nat × Nat × Nat)
def lkOf (lk : LH) (nt r : Nat) (d : Bool) (k : Nat → Nat → Nat → List Nat → Nat → Nat → Bool) : Bool :=
  List.rec (motive := fun _ => Bool) d (fun p _ ih => Bool.rec ih (k p.2.2.1 p.2.2.2.1 p.2.2.2.2.1 p.2.2.2.2.2.1 p.2.2.2.2.2.2.1 p.2.2.2.2.2.2.2) (ite1 (Nat.beq nt p.1) (Nat.beq r p.2.1))) lk
theorem lkOf_cases {nt r : Nat} {d : Bool} {k : Nat → Nat → Nat → List Nat → Nat → Nat → Bool} : ∀ lk : LH, lkOf lk nt r d k = d ∨ ∃ u q t mods lo hi, lkOf lk nt r d k = k u q t mods lo hi
  | [] => .inl rfl
  | p :: lk => by
    show (Bool.rec (lkOf lk nt r d k) (k p.2.2.1 p.2.2.2.1 p.2.2.2.2.1 p.2.2.2.2.2.1 p.2.2.2.2.2.2.1 p.2.2.2.2.2.2.2) (ite1 (Nat.beq nt p.1) (Nat.beq r p.2.1)) : Bool) = d ∨ ∃ u q t mods lo hi, (Bool.rec (lkOf lk nt r d k) (k p.2.2.1 p.2.2.2.1 p.2.2.2.2.1 p.2.2.2.2.2.1 p.2.2.2.2.2.2.1 p.2.2.2.2.2.2.2) (ite1 (Nat.beq nt p.1) (Nat.beq r p.2.1)) : Bool) = k u q t mods lo hi
    cases ite1 (Nat.beq nt p.1) (Nat.beq r p.2.1) with
    | false => exact lkOf_cases lk
    | true => exact .inr ⟨_, _, _, _, _, _, rfl⟩
def rid (c : Code) : Nat := Code.rec (motive := fun _ => Nat) 0 (fun id _ _ => id) (fun _ _ a _ => a) (fun _ _ _ a _ => a) (fun _ _ a => a) (fun _ a => a) (fun _ _ _ _ _ _ => 0) (fun _ => 0) (fun _ a => a) (fun _ => 0) (fun _ => 0) 0 (fun _ => 0) c
def cpN (mods : List Nat) (tm : T V) (n : Nat) : T V → (T V → Bool) → Bool := Nat.rec (motive := fun _ => T V → (T V → Bool) → Bool) (fun b k => k b) (fun i ih b k => Bool.rec (stK V.nil (gt V.nil i tm) i b fun b => ih b k) (ih b k) (memN i mods)) n
theorem cpN_spec {mods : List Nat} {tm : T V} : ∀ {n : Nat} {b : T V} {k : T V → Bool}, cpN mods tm n b k = true → ∃ b', k b' = true ∧ ∀ i, gt V.nil i b' = if i < n ∧ memN i mods = false then gt V.nil i tm else gt V.nil i b := by
  intro n
  induction n with
  | zero => intro b k hk; exact ⟨b, hk, fun i => by rw [if_neg (by omega)]⟩
  | succ n ih =>
    intro b k hk
    have hk : (Bool.rec (stK V.nil (gt V.nil n tm) n b fun b => cpN mods tm n b k) (cpN mods tm n b k) (memN n mods) : Bool) = true := hk
    cases e : memN n mods with
    | true =>
      rw [e] at hk
      obtain ⟨b', h1, h2⟩ := ih hk
      refine ⟨b', h1, fun i => ?_⟩
      rw [h2 i]
      by_cases c : i < n ∧ memN i mods = false
      · rw [if_pos c, if_pos ⟨by omega, c.2⟩]
      · rw [if_neg c, if_neg]
        rintro ⟨c1, c2⟩
        by_cases ei : i = n
        · subst ei; rw [e] at c2; cases c2
        · exact c ⟨by omega, c2⟩
    | false =>
      rw [e] at hk
      have hk : stK V.nil (gt V.nil n tm) n b (fun b => cpN mods tm n b k) = true := hk
      rw [stK_eq] at hk
      obtain ⟨b', h1, h2⟩ := ih hk
      refine ⟨b', h1, fun i => ?_⟩
      rw [h2 i]
      by_cases ei : i = n
      · subst ei
        rw [if_neg (by omega), if_pos ⟨by omega, e⟩, gt_st_same]
      · rw [gt_st_ne _ _ (Ne.symm ei)]
        by_cases c : i < n ∧ memN i mods = false
        · rw [if_pos c, if_pos ⟨by omega, c.2⟩]
        · rw [if_neg c, if_neg]
          rintro ⟨c1, c2⟩
          exact c ⟨by omega, c2⟩
def anyP (a : Nat) : V := .o 1 (.m 0) a 0 4611686018427387904
def txtB (n lo hi : Nat) : V := .o 0 (.cons (anyP n) (.cons (.x (Nat.succ n) .u8 lo hi) (.cons (anyP (Nat.succ (Nat.succ n))) .nil))) 0 0 0
def cntB (n : Nat) : V := .o 2 (.cons (anyP n) .nil) 3 0 0
def noD (D : V) : Bool := chain true (fun _ _ _ => false) D
def nextB (nt t : Nat) (mods : List Nat) (n : Nat) (tmB : T V) : KX := fun x tm' D' U' _ _ => X.rec (motive := fun _ => Bool)
  (ite1 (noD D') <| ite1 (sameV U' (.b false)) <| ite1 (linK (gt V.nil t tm') fun kd l => ite1 (Nat.beq kd 3) <| addLK (Int.negSucc 0) (.cons (anyP n) .nil) l fun d => cstK d (fun c => ieq c (Int.ofNat 1)) false) <|
    allN nt fun i => ior (Nat.beq i t) (ior (memN i mods) (sameV (gt V.nil i tm') (gt V.nil i tmB)))) (fun _ => false) false (fun _ => false) x
def ropD (v : V) (k : V → Bool) (d : Bool) : Bool := V.rec (motive := fun _ => Bool) (d) (fun _ _ _ _ => d) (fun _ => d) (fun _ _ => d) (fun _ => d) (fun _ _ => d) (d) (fun _ _ _ _ => d) (d) (d) (d) (fun _ => d) (d) (fun _ _ _ => d) (d) (fun _ _ _ => d) (d) (fun _ _ => d) (fun _ _ => d) (fun _ _ _ _ => d) (fun _ _ => d) (fun _ _ _ _ _ => d) (fun t l _ _ _ _ => Bool.rec d (k l) (Nat.beq t 0)) v
theorem ropD_spec {v : V} {k : V → Bool} {d : Bool} (h : ropD v k d = true) : d = true ∨ ∃ l x y z, v = .o 0 l x y z ∧ k l = true := by
  cases v <;> first | exact .inl h | skip
  case o t l x y z =>
    have h : (Bool.rec d (k l) (Nat.beq t 0) : Bool) = true := h
    cases e : Nat.beq t 0 with
    | false => rw [e] at h; exact .inl h
    | true => rw [e] at h; have e := Nat.eq_of_beq_eq_true e; subst e; exact .inr ⟨_, _, _, _, rfl, h⟩
def pieceD (v : V) (k : Nat → Bool) (d : Bool) : Bool := V.rec (motive := fun _ => Bool) (d) (fun _ _ _ _ => d) (fun _ => d) (fun _ _ => d) (fun _ => d) (fun _ _ => d) (d) (fun _ _ _ _ => d) (d) (d) (d) (fun _ => d) (d) (fun _ _ _ => d) (d) (fun _ _ _ => d) (d) (fun _ _ => d) (fun _ _ => d) (fun _ _ _ _ => d) (fun _ _ => d) (fun _ _ _ _ _ => d) (fun t l _ _ _ _ => Bool.rec d (k (mskV l)) (Nat.beq t 1)) v
theorem pieceD_spec {v : V} {k : Nat → Bool} {d : Bool} (h : pieceD v k d = true) : d = true ∨ ∃ l x y z, v = .o 1 l x y z ∧ k (mskV l) = true := by
  cases v <;> first | exact .inl h | skip
  case o t l x y z =>
    have h : (Bool.rec d (k (mskV l)) (Nat.beq t 1) : Bool) = true := h
    cases e : Nat.beq t 1 with
    | false => rw [e] at h; exact .inl h
    | true => rw [e] at h; have e := Nat.eq_of_beq_eq_true e; subst e; exact .inr ⟨_, _, _, _, rfl, h⟩
def ruleL (ih : EX) (c : Code) (nt u t : Nat) (mods : List Nat) (lo hi : Nat) (tm : T V) (D U : V) (h : T O) (nx : Nat) (k : KX) (l S y : V) (kd m : Nat) : Bool :=
    ite1 (Nat.beq kd 3) <| ite1 (noD D) <| ite1 (sameV U (.b false)) <| ite1 (allN 256 fun q => ior (tbN m q) (ite1 (Nat.ble lo q) (Nat.ble q hi))) <| ite1 (inot (memN u mods)) <| ite1 (inot (Nat.beq u t)) <| ite1 (Nat.blt u nt) <|
    atMost l 4611686018427387904 fun _ => cpN mods tm nt .leaf fun tm0 =>
    ite1 (stK V.nil (txtB nx lo hi) u tm0 fun tm1 => stK V.nil (cntB nx) t tm1 fun tmB => ih c nt tmB .nil (.b false) .leaf (Nat.add nx 3) (nextB nt t mods nx tmB)) <|
    lenE y S fun S2 => mkR 3 S2 fun s2 => stK V.nil s2 t tm0 fun tm2 => ih (.loop c) nt tm2 .nil (.b false) h nx k
def scanL (ih : EX) (c : Code) (nt u t : Nat) (mods : List Nat) (lo hi : Nat) (tm : T V) (D U : V) (h : T O) (nx : Nat) (k : KX) (d : Bool) : Bool :=
  ropD (gt V.nil u tm) (fun l => linK (gt V.nil t tm) fun kd S => splS S fun n ls => dropL l n ls (fun r => chain d (fun y _ _ => pieceD y (fun m => ruleL ih c nt u t mods lo hi tm D U h nx k l S y kd m) d) r) d) d
theorem noD_spec {ρ : Ren} {D : V} {ds : List Deferred} (hk : noD D = true) (hd : DR ρ D ds) : D = .nil ∧ ds = [] := by
  cases D <;> first | (simp only [DR] at hd; done) | skip
  case nil => simp only [DR] at hd; exact ⟨rfl, hd⟩
  case cons x l => exact Bool.noConfusion hk
theorem ior_cases {a b : Bool} (h : ior a b = true) : a = true ∨ b = true := by
  cases a
  · exact .inr h
  · exact .inl rfl
theorem inot_cases {a : Bool} (h : inot a = true) : a = false := by
  cases a
  · rfl
  · exact Bool.noConfusion h
theorem scan_sound {ex : EX} (ih : EXok P ng ex) {c : Code} {nt u t : Nat} {mods : List Nat} {lo hi : Nat} {tm : T V} {D U : V} {h : T O} {nx : Nat} {k : KX} {d : Bool} (hk : scanL ex c nt u t mods lo hi tm D U h nx k d = true)
    {dk : Bool} {c0 : Frame} {cs0 : List Frame} {ρ0 : Ren} {h0 : T O} {w0 : World} {Q : Exit → Act → List Frame → World → Prop} (hq : QOK ng nt dk c0 cs0 ρ0 h0 w0 k Q)
    {ρ : Ren} {a : Act} {cs : List Frame} {w : World} (s : St ρ h nx w) (x : Ext ρ0 h0 w0 ρ h w) (g : RG ng ρ) (ht : TR ρ tm a) (hn : nt ≤ a.tmps.size) (hd : DR ρ D a.defers) (hu : UR ρ dk U c0 cs0 cs) : d = true ∨ WL P dk c Q a cs w := by
  replace hk := ropD_spec hk
  rcases hk with hk | ⟨l, x1, x2, x3, hR, hk⟩
  · exact .inl hk
  have hu0 := ht u
  rw [hR] at hu0
  obtain ⟨b, hb, hrr⟩ := rope_of rfl hu0
  replace hk := linK_spec hk
  obtain ⟨kd, S, hk, hS⟩ := hk
  obtain ⟨n0, hSn, hvt⟩ := hS ρ _ (ht t)
  replace hk := splS_spec hk (LR_isC hSn)
  obtain ⟨n, ls, hk, hc, hnl⟩ := hk
  replace hk := dropL_spec hk (RR_isC hrr) hc
  rcases hk with hk | ⟨r, hk, _, hr⟩
  · exact .inl hk
  obtain ⟨uu, g1, g2⟩ := hnl ρ n0 hSn
  obtain ⟨j, q0, q1, q2⟩ := hr ρ _ uu hrr g1
  have ej : n0 = (j : Int) := by omega
  subst ej
  obtain h5 | ⟨y, r', rfl, h5⟩ : d = true ∨ ∃ y r', r = .cons y r' ∧ pieceD y (fun m => ruleL ex c nt u t mods lo hi tm D U h nx k l S y kd m) d = true := by
    cases r <;> first | exact .inl hk | exact .inr ⟨_, _, rfl, hk⟩
  · exact .inl h5
  clear hk
  replace h5 := pieceD_spec h5
  rcases h5 with hk | ⟨lm, pa, plo, phi, rfl, hk⟩
  · exact .inl hk
  right
  unfold ruleL at hk
  replace hk := ite1_spec hk
  obtain ⟨e1, hk⟩ := hk
  have e1 := beq_spec e1
  subst e1
  replace hk := ite1_spec hk
  obtain ⟨e2, hk⟩ := hk
  obtain ⟨rfl, hdn⟩ := noD_spec e2 hd
  replace hk := ite1_spec hk
  obtain ⟨e3, hk⟩ := hk
  have e3 := sameV_eq e3
  subst e3
  replace hk := ite1_spec hk
  obtain ⟨e4, hk⟩ := hk
  replace hk := ite1_spec hk
  obtain ⟨e5, hk⟩ := hk
  have e5 := inot_cases e5
  replace hk := ite1_spec hk
  obtain ⟨e6, hk⟩ := hk
  have e6 := Nat.ne_of_beq_eq_false (inot_cases e6)
  replace hk := ite1_spec hk
  obtain ⟨e7, hk⟩ := hk
  have e7 := Nat.blt_eq.mp e7
  replace hk := atMost_spec hk
  obtain ⟨_, hk, hmost⟩ := hk
  have hlen := (hmost ρ _ hrr).2
  replace hk := cpN_spec hk
  obtain ⟨tm0, hk, hcp⟩ := hk
  replace hk := ite1_spec hk
  obtain ⟨hB, hk⟩ := hk
  rw [stK_eq, stK_eq] at hB
  replace hk := lenE_spec hk (LR_isC hSn)
  obtain ⟨S2, hk, _, hS2⟩ := hk
  replace hk := mkR_spec hk
  obtain ⟨s2, hk, hs2⟩ := hk
  rw [stK_eq] at hk
  cases dk with
  | true =>
    obtain ⟨v, _, hum⟩ := hu
    simp only [UM] at hum
  | false =>
  obtain ⟨_, rfl⟩ := hu
  simp only [RR] at q2
  obtain ⟨sy, s3, hpr, _, hsplit⟩ := q2
  have hpr0 := hpr
  simp only [PR] at hpr0
  obtain ⟨_, Ly, _, _, _, _, hmask, _⟩ := hpr0.resolve_right fun ⟨z, _⟩ => by omega
  have hcls : ∀ q ∈ sy, lo ≤ q.toNat ∧ q.toNat ≤ hi := fun q hq => by
    have h1 := allN_spec e4 q.toNat (UInt8.toNat_lt q)
    rcases ior_cases h1 with h2 | h2
    · rw [hmask q hq] at h2; cases h2
    · obtain ⟨h3, h4⟩ := ite1_spec h2
      exact ⟨Nat.ble_eq.mp h3, Nat.ble_eq.mp h4⟩
  have main : ∀ (dd m : Nat) (a' : Act) (w' : World), m + dd = sy.length → St ρ h nx w' → Ext ρ0 h0 w0 ρ h w' →
      (∀ i, i < nt → i ≠ t → memN i mods = false → VR ρ (gt V.nil i tm) (a'.tmps.getD i undef)) → a'.tmps.getD t undef = .int .i64 ((j + m : Nat) : Int) → nt ≤ a'.tmps.size → a'.defers = [] → WL P false c Q a' cs w' := by
    intro dd
    induction dd with
    | zero =>
      intro m a' w' hm s' x' hsl htt hn' hd'
      refine (ih (.loop c) nt _ .nil (.b false) h nx k hk false c0 cs ρ0 h0 w0 Q hq ρ a' cs w' s' x' g (fun i => ?_) hn' (by simp only [DR]; exact hd') ⟨rfl, rfl⟩).2 c rfl
      by_cases ei : t = i
      · subst ei
        rw [gt_st_same, htt]
        have h1 := (hs2 ρ _ (hS2 ρ _ sy hSn hpr)).1
        have h2 : ((j : Int) + sy.length) = ((j + m : Nat) : Int) := by omega
        rw [h2] at h1
        exact h1
      · rw [gt_st_ne _ _ ei, hcp i]
        by_cases ci : i < nt ∧ memN i mods = false
        · rw [if_pos ci]; exact hsl i ci.1 (Ne.symm ei) ci.2
        · rw [if_neg ci, gt_leaf]; simp only [VR]
    | succ dd ihd =>
      intro m a' w' hm s' x' hsl htt hn' hd'
      have hlt : m < sy.length := by omega
      obtain ⟨ch, hch⟩ : ∃ ch, sy[m]? = some ch := ⟨sy[m], List.getElem?_eq_getElem hlt⟩
      have hat : b.data.toList[j + m]? = some ch := by
        have h1 : (b.data.toList.drop j)[m]? = some ch := by rw [hsplit, List.getElem?_append_left hlt]; exact hch
        rwa [List.getElem?_drop] at h1
      have hpl : j + m < b.data.toList.length := (List.getElem?_eq_some_iff.1 hat).1
      have hcut : b.data.toList = b.data.toList.take (j + m) ++ ([ch] ++ b.data.toList.drop (j + m + 1)) := by
        have h1 := List.drop_eq_getElem_cons hpl
        have h2 : b.data.toList[j + m] = ch := (List.getElem?_eq_some_iff.1 hat).2
        rw [h2] at h1
        have h3 := (List.take_append_drop (j + m) b.data.toList).symm
        rw [h1] at h3
        exact h3
      let ρB : Ren := fun i => if i = nx then some ⟨0, enc (b.data.toList.take (j + m)), 0⟩ else if i = nx + 1 then some ⟨0, ch.toNat, 0⟩ else if i = nx + 2 then some ⟨0, enc (b.data.toList.drop (j + m + 1)), 0⟩ else ρ i
      have r0 : ρB nx = some ⟨0, enc (b.data.toList.take (j + m)), 0⟩ := by simp [ρB]
      have r1 : ρB (nx + 1) = some ⟨0, ch.toNat, 0⟩ := by simp [ρB]
      have r2 : ρB (nx + 2) = some ⟨0, enc (b.data.toList.drop (j + m + 1)), 0⟩ := by simp [ρB]
      have hle : Ren.le ρ ρB := fun i L hi => by
        have hlt : i < nx := Nat.lt_of_not_le fun hge => by rw [s.fresh i hge] at hi; cases hi
        simp only [ρB]
        rw [if_neg (by omega), if_neg (by omega), if_neg (by omega)]
        exact hi
      have htake : (b.data.toList.take (j + m)).length = j + m := by rw [List.length_take]; omega
      have hdrop : (b.data.toList.drop (j + m + 1)).length ≤ 4611686018427387904 := by rw [List.length_drop]; omega
      have none0 : ∀ q : UInt8, tbN 0 q.toNat = false := fun q => by
        simp only [tbN]
        have : Nat.shiftRight 0 q.toNat = 0 := Nat.zero_shiftRight _
        rw [this]
        rfl
      have p0 : PR ρB (anyP nx) (b.data.toList.take (j + m)) := by
        simp only [anyP, PR]
        exact .inl ⟨trivial, _, r0, rfl, Nat.zero_le _, by rw [htake]; omega, fun q _ => none0 q, trivial⟩
      have p2 : PR ρB (anyP (nx + 2)) (b.data.toList.drop (j + m + 1)) := by
        simp only [anyP, PR]
        exact .inl ⟨trivial, _, r2, rfl, Nat.zero_le _, hdrop, fun q _ => none0 q, trivial⟩
      have pc : PR ρB (.x (nx + 1) .u8 lo hi) [ch] := by
        simp only [PR]
        have := hcls ch (List.mem_of_getElem? hch)
        exact ⟨trivial, ch, _, rfl, r1, this.1, this.2, rfl⟩
      have rB : RR ρB (.cons (anyP nx) (.cons (.x (nx + 1) .u8 lo hi) (.cons (anyP (nx + 2)) .nil))) b.data.toList := by
        simp only [RR]
        exact ⟨_, _, p0, ⟨_, _, pc, ⟨_, _, p2, rfl, (List.append_nil _).symm⟩, rfl⟩, hcut⟩
      have sB : St ρB .leaf (nx + 3) w' := by
        refine ⟨fun id L hi => ?_, fun i j L M hi => ?_, fun i hi => ?_, fun i _ hi => ?_⟩
        · rw [gt_leaf] at hi; exact hi.elim
        · rw [gt_leaf] at hi; exact hi.elim
        · simp only [ρB]
          rw [if_neg (by omega), if_neg (by omega), if_neg (by omega)]
          exact s.fresh i (by omega)
        · rw [gt_leaf] at hi; exact hi.elim
      have htxt := hsl u e7 e6 e5
      rw [hR] at htxt
      obtain ⟨b', hb', hrr'⟩ := rope_of rfl htxt
      have hbb : b'.data.toList = b.data.toList := hrr'.fn hrr
      have lB : LR ρB (.cons (anyP nx) .nil) ((j + m : Nat) : Int) := by
        simp only [LR]
        refine ⟨_, 0, ?_, rfl, (Int.add_zero _).symm⟩
        have := PR_MR (y := anyP nx) rfl p0
        rwa [htake] at this
      refine WL.round (ih c nt _ .nil (.b false) .leaf (Nat.add nx 3) _ hB false c0 cs ρB .leaf w' _ (fun ρ' z tm' D' U' h' nx' a'' cs' w'' hkz s1 x1' g1' t1 hn1 hd1 hu1 => ?_) ρB a' cs w' sB (Ext.refl _ _ _) (g.mono hle) (fun i => ?_) hn' (by simp only [DR]; exact hd') ⟨rfl, rfl⟩).1
      · cases z <;> first | exact Bool.noConfusion hkz | skip
        replace hkz := ite1_spec hkz
        obtain ⟨f1, hkz⟩ := hkz
        obtain ⟨_, hd2⟩ := noD_spec f1 hd1
        replace hkz := ite1_spec hkz
        obtain ⟨f2, hkz⟩ := hkz
        obtain ⟨f3, f4⟩ := ite1_spec hkz
        obtain ⟨_, rfl⟩ := hu1
        have kept : ∀ q, q < w'.heap.size → w''.heap[q]? = w'.heap[q]? := fun q hq => (x1'.kept q hq fun id L hw => by rw [gt_leaf] at hw; exact hw.elim).1
        have s2' : St ρ h nx w'' := by
          refine ⟨fun id L hi hL => ?_, s'.inj, s'.fresh, s'.dead⟩
          obtain ⟨o, o1, o2⟩ := s'.rel id L hi hL
          exact ⟨o, by rw [kept L.blk (Array.getElem?_eq_some_iff.1 o1).1]; exact o1, o2⟩
        have x2' : Ext ρ0 h0 w0 ρ h w'' := x'.trans ⟨Ren.le.refl _, x1'.size, x1'.os, x1'.tape, x1'.output, fun q hq hw => ⟨kept q hq, hw⟩, fun _ _ hh => ⟨hh, rfl⟩⟩
        refine ihd (m + 1) a'' w'' (by omega) s2' x2' (fun i hi hit him => ?_) ?_ hn1 hd2
        · have h1 := allN_spec f4 i hi
          rcases ior_cases h1 with h2 | h2
          · exact absurd (Nat.eq_of_beq_eq_true h2) hit
          rcases ior_cases h2 with h2 | h2
          · rw [him] at h2; cases h2
          have h3 := sameV_eq h2
          have h4 := t1 i
          rw [h3, gt_st_ne _ _ (Ne.symm hit)] at h4
          by_cases ei : u = i
          · subst ei
            rw [gt_st_same] at h4
            obtain ⟨b2, hb2, hr2⟩ := rope_of rfl h4
            have e9 : b2.data.toList = b.data.toList := hr2.fn (rB.mono x1'.le)
            rw [hR, hb2]
            exact VR_rope (by rw [e9]; exact hrr)
          · rw [gt_st_ne _ _ ei, hcp i, if_pos ⟨hi, him⟩] at h4
            exact (VR_back (hle.trans x1'.le) _).1 _ _ (hsl i hi hit him) h4
        · obtain ⟨kd2, l2, f5, hl2⟩ := linK_spec f3
          obtain ⟨f6, f7⟩ := ite1_spec f5
          have f6 := beq_spec f6
          subst f6
          obtain ⟨nn, hnn, hvv⟩ := hl2 ρ' _ (t1 t)
          obtain ⟨dd2, f8, _, hdd⟩ := addLK_spec f7 (LR_isC hnn)
          have hdn := hdd ρ' nn _ hnn (lB.mono x1'.le)
          rcases cstK_spec f8 with ⟨cc, hcc, hc2⟩ | hcc
          · have h5 := hc2 ρ' _ hdn
            rw [ieq_eq] at hcc
            have hcc : cc = 1 := by simpa using hcc
            have z : (Int.negSucc 0) * ((j + m : Nat) : Int) = -((j + m : Nat) : Int) := by
              have : (Int.negSucc 0 : Int) = -1 := rfl
              rw [this]; omega
            rw [z] at h5
            rw [hvv]
            have h6 : nn = ((j + (m + 1) : Nat) : Int) := by omega
            rw [h6]
            rfl
          · exact Bool.noConfusion hcc
      · by_cases ei : t = i
        · subst ei
          rw [gt_st_same, htt]
          exact VR_lin lB
        · rw [gt_st_ne _ _ ei]
          by_cases eu : u = i
          · subst eu
            rw [gt_st_same, hb']
            exact VR_rope (by rw [hbb]; exact rB)
          · rw [gt_st_ne _ _ eu, hcp i]
            by_cases ci : i < nt ∧ memN i mods = false
            · rw [if_pos ci]; exact (hsl i ci.1 (Ne.symm ei) ci.2).mono hle
            · rw [if_neg ci, gt_leaf]; simp only [VR]
  exact main sy.length 0 a w (by omega) s x (fun i _ _ _ => ht i) (by rw [hvt]; rfl) hn hdn
def slK (v : V) (k : Nat → Nat → Nat → Nat → Bool) : Bool := V.rec (motive := fun _ => Bool) (false) (fun _ _ _ _ => false) (fun _ => false) (fun _ _ => false) (fun _ => false) (fun _ _ => false) (false) (fun id off len sz => k id off len sz) (false) (false) (false) (fun _ => false) (false) (fun _ _ _ => false) (false) (fun _ _ _ => false) (false) (fun _ _ => false) (fun _ _ => false) (fun _ _ _ _ => false) (fun _ _ => false) (fun _ _ _ _ _ => false) (fun _ _ _ _ _ _ => false) v
theorem slK_spec {v : V} {k : Nat → Nat → Nat → Nat → Bool} (hk : slK v k = true) : ∃ id off len sz, v = .sl id off len sz ∧ k id off len sz = true := by
  cases v <;> first | exact Bool.noConfusion hk | exact ⟨_, _, _, _, rfl, hk⟩
def padV (n : Nat) (r : V) : V := Nat.rec (motive := fun _ => V) r (fun _ ih => .cons .nil ih) n
theorem padV_CR {ρ : Ren} {x : V} : ∀ {n : Nat} {vs : List Value} {v : Value}, vs[n]? = some v → VR ρ x v → CR ρ (padV n (.cons x .nil)) vs := by
  intro n
  induction n with
  | zero =>
    intro vs v hv hx
    cases vs with
    | nil => cases hv
    | cons a as =>
      have : a = v := by simpa using hv
      subst this
      show CR ρ (.cons x .nil) (a :: as)
      simp only [CR]
      exact ⟨_, _, rfl, hx, trivial⟩
  | succ n ih =>
    intro vs v hv hx
    cases vs with
    | nil => cases hv
    | cons a as =>
      show CR ρ (.cons .nil (padV n (.cons x .nil))) (a :: as)
      simp only [CR]
      exact ⟨_, _, rfl, by simp only [VR], ih (by simpa using hv) hx⟩
def ruleL2 (ih : EX) (c : Code) (nt id ty pos t : Nat) (mods : List Nat) (lo hi : Nat) (tm : T V) (D U : V) (h : T O) (nx : Nat) (k : KX) (l S y : V) (kd m : Nat) : Bool :=
    ite1 (Nat.beq kd 3) <| ite1 (noD D) <| ite1 (sameV U (.b false)) <| ite1 (allN 256 fun q => ior (tbN m q) (ite1 (Nat.ble lo q) (Nat.ble q hi))) <|
    atMost l 4611686018427387904 fun _ => cpN mods tm nt .leaf fun tm0 =>
    ite1 (stK O.none (.c (padV pos (.cons (txtB nx lo hi) .nil)) ty false) id .leaf fun hB => stK V.nil (cntB nx) t tm0 fun tmB => ih c nt tmB .nil (.b false) hB (Nat.add nx 3) (nextB nt t mods nx tmB)) <|
    lenE y S fun S2 => mkR 3 S2 fun s2 => stK V.nil s2 t tm0 fun tm2 => ih (.loop c) nt tm2 .nil (.b false) h nx k
def scanL2 (ih : EX) (c : Code) (nt u q t : Nat) (mods : List Nat) (lo hi : Nat) (tm : T V) (D U : V) (h : T O) (nx : Nat) (k : KX) (d : Bool) : Bool :=
  slK (gt V.nil u tm) fun id off _ sz => vN (gt V.nil q tm) fun jj => oC (gt O.none id h) fun cs ty _ => nthK cs (Nat.add off (Nat.mul jj sz)) fun xc =>
  ropD xc (fun l => linK (gt V.nil t tm) fun kd S => splS S fun n ls => dropL l n ls (fun r => chain d (fun y _ _ => pieceD y (fun m => ruleL2 ih c nt id ty (Nat.add off (Nat.mul jj sz)) t mods lo hi tm D U h nx k l S y kd m) d) r) d) d
theorem scan_sound2 {ex : EX} (ih : EXok P ng ex) {c : Code} {nt u q t : Nat} {mods : List Nat} {lo hi : Nat} {tm : T V} {D U : V} {h : T O} {nx : Nat} {k : KX} {d : Bool} (hk : scanL2 ex c nt u q t mods lo hi tm D U h nx k d = true)
    {dk : Bool} {c0 : Frame} {cs0 : List Frame} {ρ0 : Ren} {h0 : T O} {w0 : World} {Q : Exit → Act → List Frame → World → Prop} (hq : QOK ng nt dk c0 cs0 ρ0 h0 w0 k Q)
    {ρ : Ren} {a : Act} {cs : List Frame} {w : World} (s : St ρ h nx w) (x : Ext ρ0 h0 w0 ρ h w) (g : RG ng ρ) (ht : TR ρ tm a) (hn : nt ≤ a.tmps.size) (hd : DR ρ D a.defers) (hu : UR ρ dk U c0 cs0 cs) : d = true ∨ WL P dk c Q a cs w := by
  replace hk := slK_spec hk
  obtain ⟨id, off, len, sz, hU, hk⟩ := hk
  replace hk := vN_spec hk
  obtain ⟨kq, jj, hQ, hk⟩ := hk
  replace hk := oC_spec hk
  obtain ⟨cs0', ty, wr, ho, hk⟩ := hk
  replace hk := nthK_spec hk
  obtain ⟨xc, hk, hnth⟩ := hk
  replace hk := ropD_spec hk
  rcases hk with hk | ⟨l, x1, x2, x3, hR, hk⟩
  · exact .inl hk
  subst hR
  have hu0 := ht u
  rw [hU] at hu0
  simp only [VR] at hu0
  obtain ⟨LU, capU, hLU, _⟩ := hu0
  obtain ⟨oU, hoU, arrU, fzU, hoU2, qU2, qU3, qU4, qU5⟩ := s.relC ho hLU
  obtain ⟨vc, hvc1, hvc2⟩ := hnth ρ _ qU5
  obtain ⟨b, rfl, hrr⟩ := rope_of rfl hvc2
  replace hk := linK_spec hk
  obtain ⟨kd, S, hk, hS⟩ := hk
  obtain ⟨n0, hSn, hvt⟩ := hS ρ _ (ht t)
  replace hk := splS_spec hk (LR_isC hSn)
  obtain ⟨n, ls, hk, hc, hnl⟩ := hk
  replace hk := dropL_spec hk (RR_isC hrr) hc
  rcases hk with hk | ⟨r, hk, _, hr⟩
  · exact .inl hk
  obtain ⟨uu, g1, g2⟩ := hnl ρ n0 hSn
  obtain ⟨j, q0, q1, q2⟩ := hr ρ _ uu hrr g1
  have ej : n0 = (j : Int) := by omega
  subst ej
  obtain h5 | ⟨y, r', rfl, h5⟩ : d = true ∨ ∃ y r', r = .cons y r' ∧ pieceD y (fun m => ruleL2 ex c nt id ty (Nat.add off (Nat.mul jj sz)) t mods lo hi tm D U h nx k l S y kd m) d = true := by
    cases r <;> first | exact .inl hk | exact .inr ⟨_, _, rfl, hk⟩
  · exact .inl h5
  clear hk
  replace h5 := pieceD_spec h5
  rcases h5 with hk | ⟨lm, pa, plo, phi, rfl, hk⟩
  · exact .inl hk
  right
  unfold ruleL2 at hk
  replace hk := ite1_spec hk
  obtain ⟨e1, hk⟩ := hk
  have e1 := beq_spec e1
  subst e1
  replace hk := ite1_spec hk
  obtain ⟨e2, hk⟩ := hk
  obtain ⟨rfl, hdn⟩ := noD_spec e2 hd
  replace hk := ite1_spec hk
  obtain ⟨e3, hk⟩ := hk
  have e3 := sameV_eq e3
  subst e3
  replace hk := ite1_spec hk
  obtain ⟨e4, hk⟩ := hk
  replace hk := atMost_spec hk
  obtain ⟨_, hk, hmost⟩ := hk
  have hlen := (hmost ρ _ hrr).2
  replace hk := cpN_spec hk
  obtain ⟨tm0, hk, hcp⟩ := hk
  replace hk := ite1_spec hk
  obtain ⟨hB, hk⟩ := hk
  rw [stK_eq, stK_eq] at hB
  replace hk := lenE_spec hk (LR_isC hSn)
  obtain ⟨S2, hk, _, hS2⟩ := hk
  replace hk := mkR_spec hk
  obtain ⟨s2, hk, hs2⟩ := hk
  rw [stK_eq] at hk
  cases dk with
  | true =>
    obtain ⟨v, _, hum⟩ := hu
    simp only [UM] at hum
  | false =>
  obtain ⟨_, rfl⟩ := hu
  simp only [RR] at q2
  obtain ⟨sy, s3, hpr, _, hsplit⟩ := q2
  have hpr0 := hpr
  simp only [PR] at hpr0
  obtain ⟨_, Ly, _, _, _, _, hmask, _⟩ := hpr0.resolve_right fun ⟨z, _⟩ => by omega
  have hcls : ∀ q ∈ sy, lo ≤ q.toNat ∧ q.toNat ≤ hi := fun q hq => by
    have h1 := allN_spec e4 q.toNat (UInt8.toNat_lt q)
    rcases ior_cases h1 with h2 | h2
    · rw [hmask q hq] at h2; cases h2
    · obtain ⟨h3, h4⟩ := ite1_spec h2
      exact ⟨Nat.ble_eq.mp h3, Nat.ble_eq.mp h4⟩
  have main : ∀ (dd m : Nat) (a' : Act) (w' : World), m + dd = sy.length → St ρ h nx w' → Ext ρ0 h0 w0 ρ h w' →
      (∀ i, i < nt → i ≠ t → memN i mods = false → VR ρ (gt V.nil i tm) (a'.tmps.getD i undef)) → a'.tmps.getD t undef = .int .i64 ((j + m : Nat) : Int) → nt ≤ a'.tmps.size → a'.defers = [] → WL P false c Q a' cs w' := by
    intro dd
    induction dd with
    | zero =>
      intro m a' w' hm s' x' hsl htt hn' hd'
      refine (ih (.loop c) nt _ .nil (.b false) h nx k hk false c0 cs ρ0 h0 w0 Q hq ρ a' cs w' s' x' g (fun i => ?_) hn' (by simp only [DR]; exact hd') ⟨rfl, rfl⟩).2 c rfl
      by_cases ei : t = i
      · subst ei
        rw [gt_st_same, htt]
        have h1 := (hs2 ρ _ (hS2 ρ _ sy hSn hpr)).1
        have h2 : ((j : Int) + sy.length) = ((j + m : Nat) : Int) := by omega
        rw [h2] at h1
        exact h1
      · rw [gt_st_ne _ _ ei, hcp i]
        by_cases ci : i < nt ∧ memN i mods = false
        · rw [if_pos ci]; exact hsl i ci.1 (Ne.symm ei) ci.2
        · rw [if_neg ci, gt_leaf]; simp only [VR]
    | succ dd ihd =>
      intro m a' w' hm s' x' hsl htt hn' hd'
      have hlt : m < sy.length := by omega
      obtain ⟨ch, hch⟩ : ∃ ch, sy[m]? = some ch := ⟨sy[m], List.getElem?_eq_getElem hlt⟩
      have hat : b.data.toList[j + m]? = some ch := by
        have h1 : (b.data.toList.drop j)[m]? = some ch := by rw [hsplit, List.getElem?_append_left hlt]; exact hch
        rwa [List.getElem?_drop] at h1
      have hpl : j + m < b.data.toList.length := (List.getElem?_eq_some_iff.1 hat).1
      have hcut : b.data.toList = b.data.toList.take (j + m) ++ ([ch] ++ b.data.toList.drop (j + m + 1)) := by
        have h1 := List.drop_eq_getElem_cons hpl
        have h2 : b.data.toList[j + m] = ch := (List.getElem?_eq_some_iff.1 hat).2
        rw [h2] at h1
        have h3 := (List.take_append_drop (j + m) b.data.toList).symm
        rw [h1] at h3
        exact h3
      let ρB : Ren := fun i => if i = nx then some ⟨0, enc (b.data.toList.take (j + m)), 0⟩ else if i = nx + 1 then some ⟨0, ch.toNat, 0⟩ else if i = nx + 2 then some ⟨0, enc (b.data.toList.drop (j + m + 1)), 0⟩ else ρ i
      have r0 : ρB nx = some ⟨0, enc (b.data.toList.take (j + m)), 0⟩ := by simp [ρB]
      have r1 : ρB (nx + 1) = some ⟨0, ch.toNat, 0⟩ := by simp [ρB]
      have r2 : ρB (nx + 2) = some ⟨0, enc (b.data.toList.drop (j + m + 1)), 0⟩ := by simp [ρB]
      have hle : Ren.le ρ ρB := fun i L hi => by
        have hlt : i < nx := Nat.lt_of_not_le fun hge => by rw [s.fresh i hge] at hi; cases hi
        simp only [ρB]
        rw [if_neg (by omega), if_neg (by omega), if_neg (by omega)]
        exact hi
      have htake : (b.data.toList.take (j + m)).length = j + m := by rw [List.length_take]; omega
      have hdrop : (b.data.toList.drop (j + m + 1)).length ≤ 4611686018427387904 := by rw [List.length_drop]; omega
      have none0 : ∀ q : UInt8, tbN 0 q.toNat = false := fun q => by
        simp only [tbN]
        have : Nat.shiftRight 0 q.toNat = 0 := Nat.zero_shiftRight _
        rw [this]
        rfl
      have p0 : PR ρB (anyP nx) (b.data.toList.take (j + m)) := by
        simp only [anyP, PR]
        exact .inl ⟨trivial, _, r0, rfl, Nat.zero_le _, by rw [htake]; omega, fun q _ => none0 q, trivial⟩
      have p2 : PR ρB (anyP (nx + 2)) (b.data.toList.drop (j + m + 1)) := by
        simp only [anyP, PR]
        exact .inl ⟨trivial, _, r2, rfl, Nat.zero_le _, hdrop, fun q _ => none0 q, trivial⟩
      have pc : PR ρB (.x (nx + 1) .u8 lo hi) [ch] := by
        simp only [PR]
        have := hcls ch (List.mem_of_getElem? hch)
        exact ⟨trivial, ch, _, rfl, r1, this.1, this.2, rfl⟩
      have rB : RR ρB (.cons (anyP nx) (.cons (.x (nx + 1) .u8 lo hi) (.cons (anyP (nx + 2)) .nil))) b.data.toList := by
        simp only [RR]
        exact ⟨_, _, p0, ⟨_, _, pc, ⟨_, _, p2, rfl, (List.append_nil _).symm⟩, rfl⟩, hcut⟩
      obtain ⟨oV, hoV, arrV, fzV, hoV2, qV2, _, qV4, qV5⟩ := s'.relC ho hLU
      obtain ⟨vc', hvc1', hvc2'⟩ := hnth ρ _ qV5
      obtain ⟨b', rfl, hrr'⟩ := rope_of rfl hvc2'
      have hbb : b'.data.toList = b.data.toList := hrr'.fn hrr
      have hidx : id < nx := Nat.lt_of_not_le fun hge => by rw [s.fresh id hge] at hLU; cases hLU
      have hBat : ∀ i, gt O.none i (st O.none (.c (padV (Nat.add off (Nat.mul jj sz)) (.cons (txtB nx lo hi) .nil)) ty false) id .leaf) = if i = id then .c (padV (Nat.add off (Nat.mul jj sz)) (.cons (txtB nx lo hi) .nil)) ty false else O.none := fun i => by
        by_cases e : i = id
        · subst e; rw [gt_st_same, if_pos rfl]
        · rw [gt_st_ne _ _ (Ne.symm e), if_neg e, gt_leaf]
      have hBw : ∀ i, ¬ (gt O.none i (st O.none (.c (padV (Nat.add off (Nat.mul jj sz)) (.cons (txtB nx lo hi) .nil)) ty false) id .leaf)).wr := fun i hi => by
        rw [hBat i] at hi
        by_cases e : i = id
        · rw [if_pos e] at hi; exact Bool.noConfusion (show false = true from hi)
        · rw [if_neg e] at hi; exact hi.elim
      have hBl : ∀ i, (gt O.none i (st O.none (.c (padV (Nat.add off (Nat.mul jj sz)) (.cons (txtB nx lo hi) .nil)) ty false) id .leaf)).live → i = id := fun i hi => by
        rw [hBat i] at hi
        by_cases e : i = id
        · exact e
        · rw [if_neg e] at hi; exact hi.elim
      have sB : St ρB (st O.none (.c (padV (Nat.add off (Nat.mul jj sz)) (.cons (txtB nx lo hi) .nil)) ty false) id .leaf) (nx + 3) w' := by
        refine ⟨fun i L hi hL => ?_, fun i j L M hi => (hBw i hi).elim, fun i hi => ?_, fun i hi hlv => ?_⟩
        · have ei := hBl i hi
          subst ei
          rw [hle _ _ hLU] at hL
          have := Option.some.inj hL
          subst this
          refine ⟨oV, hoV, ?_⟩
          rw [hBat i, if_pos rfl]
          refine ⟨arrV, fzV, hoV2, qV2, (fun hf => by cases hf), qV4, ?_⟩
          exact padV_CR hvc1' (VR_rope (by rw [hbb]; exact rB))
        · simp only [ρB]
          rw [if_neg (by omega), if_neg (by omega), if_neg (by omega)]
          exact s.fresh i (by omega)
        · have := hBl i hlv
          omega
      have lB : LR ρB (.cons (anyP nx) .nil) ((j + m : Nat) : Int) := by
        simp only [LR]
        refine ⟨_, 0, ?_, rfl, (Int.add_zero _).symm⟩
        have := PR_MR (y := anyP nx) rfl p0
        rwa [htake] at this
      refine WL.round (ih c nt _ .nil (.b false) _ (Nat.add nx 3) _ hB false c0 cs ρB _ w' _ (fun ρ' z tm' D' U' h' nx' a'' cs' w'' hkz s1 x1' g1' t1 hn1 hd1 hu1 => ?_) ρB a' cs w' sB (Ext.refl _ _ _) (g.mono hle) (fun i => ?_) hn' (by simp only [DR]; exact hd') ⟨rfl, rfl⟩).1
      · cases z <;> first | exact Bool.noConfusion hkz | skip
        replace hkz := ite1_spec hkz
        obtain ⟨f1, hkz⟩ := hkz
        obtain ⟨_, hd2⟩ := noD_spec f1 hd1
        replace hkz := ite1_spec hkz
        obtain ⟨f2, hkz⟩ := hkz
        obtain ⟨f3, f4⟩ := ite1_spec hkz
        obtain ⟨_, rfl⟩ := hu1
        have kept : ∀ q, q < w'.heap.size → w''.heap[q]? = w'.heap[q]? := fun q hq => (x1'.kept q hq fun i L hw => (hBw i hw).elim).1
        have s2' : St ρ h nx w'' := by
          refine ⟨fun id L hi hL => ?_, s'.inj, s'.fresh, s'.dead⟩
          obtain ⟨o, o1, o2⟩ := s'.rel id L hi hL
          exact ⟨o, by rw [kept L.blk (Array.getElem?_eq_some_iff.1 o1).1]; exact o1, o2⟩
        have x2' : Ext ρ0 h0 w0 ρ h w'' := x'.trans ⟨Ren.le.refl _, x1'.size, x1'.os, x1'.tape, x1'.output, fun q hq hw => ⟨kept q hq, hw⟩, fun _ _ hh => ⟨hh, rfl⟩⟩
        refine ihd (m + 1) a'' w'' (by omega) s2' x2' (fun i hi hit him => ?_) ?_ hn1 hd2
        · have h1 := allN_spec f4 i hi
          rcases ior_cases h1 with h2 | h2
          · exact absurd (Nat.eq_of_beq_eq_true h2) hit
          rcases ior_cases h2 with h2 | h2
          · rw [him] at h2; cases h2
          have h3 := sameV_eq h2
          have h4 := t1 i
          rw [h3, gt_st_ne _ _ (Ne.symm hit)] at h4
          rw [hcp i, if_pos ⟨hi, him⟩] at h4
          exact (VR_back (hle.trans x1'.le) _).1 _ _ (hsl i hi hit him) h4
        · obtain ⟨kd2, l2, f5, hl2⟩ := linK_spec f3
          obtain ⟨f6, f7⟩ := ite1_spec f5
          have f6 := beq_spec f6
          subst f6
          obtain ⟨nn, hnn, hvv⟩ := hl2 ρ' _ (t1 t)
          obtain ⟨dd2, f8, _, hdd⟩ := addLK_spec f7 (LR_isC hnn)
          have hdn := hdd ρ' nn _ hnn (lB.mono x1'.le)
          rcases cstK_spec f8 with ⟨cc, hcc, hc2⟩ | hcc
          · have h5 := hc2 ρ' _ hdn
            rw [ieq_eq] at hcc
            have hcc : cc = 1 := by simpa using hcc
            have z : (Int.negSucc 0) * ((j + m : Nat) : Int) = -((j + m : Nat) : Int) := by
              have : (Int.negSucc 0 : Int) = -1 := rfl
              rw [this]; omega
            rw [z] at h5
            rw [hvv]
            have h6 : nn = ((j + (m + 1) : Nat) : Int) := by omega
            rw [h6]
            rfl
          · exact Bool.noConfusion hcc
      · by_cases ei : t = i
        · subst ei
          rw [gt_st_same, htt]
          exact VR_lin lB
        · rw [gt_st_ne _ _ ei]
          rw [hcp i]
          by_cases ci : i < nt ∧ memN i mods = false
          · rw [if_pos ci]; exact (hsl i ci.1 (Ne.symm ei) ci.2).mono hle
          · rw [if_neg ci, gt_leaf]; simp only [VR]
  exact main sy.length 0 a w (by omega) s x (fun i _ _ _ => ht i) (by rw [hvt]; rfl) hn hdn
def execL (P : Program) (ng : Nat) (hk : Nat → Option (V → T O → Nat → KV → Bool)) (lk : LH) (n : Nat) : Code → Nat → T V → V → V → T O → Nat → KX → Bool :=
  Nat.rec (motive := fun _ => Code → Nat → T V → V → V → T O → Nat → KX → Bool) (fun _ _ _ _ _ _ _ _ => false)
    (fun _ ih c nt tm D U h nx k => Code.rec (motive := fun _ => Program → Nat → HK → LH → EX → Nat → T V → V → V → T O → Nat → KX → Bool)
      (fun _ _ _ _ _ _ tm D U h nx k => k .n tm D U h nx)
      (fun _ ops dr P ng hk _ ih nt tm D U h nx k => Bool.rec (regK P ng (callX P hk ih) nt ops (fun v tm D U h nx => k (.pk v) tm D U h nx) ops.toList tm D U h nx (fun tm D U h nx => k .n tm D U h nx))
        (coinK (coinOf P nt ops) tm (fun tm => k .n tm D U h nx) (runP (drawP P ops (Nat.succ ops.size) ⟨0, 0, 0, .leaf, .leaf⟩) P ng (callX P hk ih) nt ops (fun v h nx => k (.pk v) .leaf D U h nx) (fun tm h nx => k .n tm D U h nx) tm h nx)) dr)
      (fun a b _ _ _ _ _ _ ih nt tm D U h nx k => ih a nt tm D U h nx fun x tm D U h nx => X.rec (motive := fun _ => Bool) (ih b nt tm D U h nx k) (fun id => k (.x id) tm D U h nx) (k .r tm D U h nx) (fun v => k (.pk v) tm D U h nx) x)
      (fun c a b _ _ _ ng _ _ ih nt tm D U h nx k => vBf (ev ng tm c) fun q => Bool.rec (ih b nt tm D U h nx k) (ih a nt tm D U h nx k) q)
      (fun id c _ _ _ _ _ ih nt tm D U h nx k => ih c nt tm D U h nx fun x tm D U h nx => X.rec (motive := fun _ => Bool) (k .n tm D U h nx) (fun id' => Bool.rec (k (.x id') tm D U h nx) (k .n tm D U h nx) (Nat.beq id' id)) (k .r tm D U h nx) (fun v => k (.pk v) tm D U h nx) x)
      (fun c _ _ _ _ lk ih nt tm D U h nx k => (fun d => lkOf lk nt (rid c) d fun u q t mods lo hi => Nat.rec (motive := fun _ => Bool) (scanL ih c nt u t mods lo hi tm D U h nx k d) (fun q _ => scanL2 ih c nt u q t mods lo hi tm D U h nx k d) q)
        (ih c nt tm D U h nx fun x tm D U h nx => X.rec (motive := fun _ => Bool) (ih (.loop c) nt tm D U h nx k) (fun id => k (.x id) tm D U h nx) (k .r tm D U h nx) (fun v => k (.pk v) tm D U h nx) x))
      (fun _ _ _ _ _ _ _ _ _ _ _ _ _ _ _ _ _ _ => false)
      (fun id _ _ _ _ _ _ tm D U h nx k => k (.x id) tm D U h nx)
      (fun c _ _ _ _ _ ih nt tm D U h nx k => ih c nt tm D U h nx k)
      (fun _ _ _ _ _ _ _ tm D U h nx k => k .n tm D U h nx)
      (fun _ _ _ _ _ _ _ _ _ _ _ _ _ => false)
      (fun _ _ _ _ _ _ tm D U h nx k => k .r tm D U h nx)
      (fun _ _ _ _ _ _ _ _ _ _ _ _ _ => false) c P ng hk lk ih nt tm D U h nx k) n
def runL (P : Program) (ng : Nat) (hk : Nat → Option (V → T O → Nat → KV → Bool)) (lk : LH) (n : Nat) : CK := callX P hk (execL P ng hk lk n)
variable {hk : Nat → Option (V → T O → Nat → KV → Bool)} {lk : LH}
theorem execL_step (hm : P.follows .mixedOrders = true) {n : Nat} (ih : EXok P ng (execL P ng hk lk n)) (hck : CKok P ng (callX P hk (execL P ng hk lk n))) : EXok P ng (execL P ng hk lk (n + 1)) := by
  intro c nt tm D U h nx k he dk c0 cs0 ρ0 h0 w0 Q hq ρ a cs w s x g t hn hd hu
  cases c <;> try exact Bool.noConfusion he
  case skip => exact ⟨.skip (hq ρ .n tm D U h nx a cs w he s x g t hn hd hu), by simp⟩
  case exit id => exact ⟨.exit (hq ρ (.x id) tm D U h nx a cs w he s x g t hn hd hu), by simp⟩
  case label l => exact ⟨.label (hq ρ .n tm D U h nx a cs w he s x g t hn hd hu), by simp⟩
  case ret => exact ⟨.ret (hq ρ .r tm D U h nx a cs w he s x g t hn hd hu), by simp⟩
  case region id o dr =>
    refine ⟨?_, by simp⟩
    cases dr with
    | false =>
      have he : regK P ng (callX P hk (execL P ng hk lk n)) nt o (fun v tm D U h nx => k (.pk v) tm D U h nx) o.toList tm D U h nx (fun tm D U h nx => k .n tm D U h nx) = true := he
      have := regK_sound hck hq o.toList 0 tm D U h nx a cs w ρ (fun q => by simp) he s x g t hn hd hu
      refine opsG.region ?_
      rw [List.range_eq_range']
      simpa using this
    | true =>
      have he : coinK (coinOf P nt o) tm (fun tm => k .n tm D U h nx) (rp P ng (callX P hk (execL P ng hk lk n)) nt o (fun v h nx => k (.pk v) .leaf D U h nx) (fun tm h nx => k .n tm D U h nx) (drawP P o (Nat.succ o.size) ⟨0, 0, 0, .leaf, .leaf⟩) tm h nx) = true := he
      cases hcoin : coinOf P nt o with
      | some p =>
        obtain ⟨d0, d1, b1, b2⟩ := p
        rw [hcoin] at he
        have he : stK V.nil V.nil d0 tm (fun tm => ite1 (stK V.nil (.b b1) d1 tm fun tm => k .n tm D U h nx) (stK V.nil (.b b2) d1 tm fun tm => k .n tm D U h nx)) = true := he
        rw [stK_eq] at he
        obtain ⟨he1, he2⟩ := ite1_spec he
        rw [stK_eq] at he1 he2
        refine .of_wp (coin_sound hm hcoin s t hn (fun b a' w' hb s' x' t' hn' hd' => ?_))
        have hkb : k .n (st V.nil (.b b) d1 (st V.nil V.nil d0 tm)) D U h nx = true := by rcases hb with rfl | rfl <;> assumption
        exact hq ρ .n _ D U h nx a' cs w' hkb s' (x.trans x') g t' hn' (by rw [hd']; exact hd) hu
      | none =>
      rw [hcoin] at he
      have he : rp P ng (callX P hk (execL P ng hk lk n)) nt o (fun v h nx => k (.pk v) .leaf D U h nx) (fun tm h nx => k .n tm D U h nx) (drawP P o (Nat.succ o.size) ⟨0, 0, 0, .leaf, .leaf⟩) tm h nx = true := he
      rw [drawP_run] at he
      have he : drawK P ng (callX P hk (execL P ng hk lk n)) nt o (fun v h nx => k (.pk v) .leaf D U h nx) (fun tm h nx => k .n tm D U h nx) (Nat.succ o.size) ⟨0, 0, 0, .leaf, .leaf⟩ tm h nx = true := he
      refine .of_wp (drawK_sound hm hck he s g t hn (fun ρ' tm' h' nx' a' w' hk2 s' x' g' t' hn' hd' => ?_) (fun ρ' y h' nx' v a' w' hk2 hv s' x' g' hn' hd' => ?_))
      · exact hq ρ' .n tm' D U h' nx' a' cs w' hk2 s' (x.trans x') g' t' hn' (by rw [hd']; exact hd.mono x'.le) (hu.mono x'.le)
      · exact hq ρ' (.pk y) .leaf D U h' nx' a' cs w' hk2 s' (x.trans x') g' (fun q => by rw [gt_leaf]; simp [VR]) hn' (by rw [hd']; exact hd.mono x'.le) (hu.mono x'.le) v hv
  case seq c1 c2 =>
    refine ⟨.seq (ih c1 nt tm D U h nx _ he dk c0 cs0 ρ0 h0 w0 _ (fun ρ z tm D U h nx a cs w hk s x g t hn hd hu => ?_) ρ a cs w s x g t hn hd hu).1, by simp⟩
    cases z with
    | n => exact (ih c2 nt tm D U h nx k hk dk c0 cs0 ρ0 h0 w0 Q hq ρ a cs w s x g t hn hd hu).1
    | x id => exact hq ρ (.x id) tm D U h nx a cs w hk s x g t hn hd hu
    | r => exact hq ρ .r tm D U h nx a cs w hk s x g t hn hd hu
    | pk v => exact hq ρ (.pk v) tm D U h nx a cs w hk s x g t hn hd hu
  case scope c1 =>
    refine ⟨.scope (ih c1 nt tm D U h nx k he dk c0 cs0 ρ0 h0 w0 _ (fun ρ z tm D U h nx a cs w hk s x g t hn hd hu => ?_) ρ a cs w s x g t hn hd hu).1, by simp⟩
    have := hq ρ z tm D U h nx a cs w hk s x g t hn hd hu
    cases z <;> exact this
  case block id c1 =>
    refine ⟨.block (ih c1 nt tm D U h nx _ he dk c0 cs0 ρ0 h0 w0 _ (fun ρ z tm D U h nx a cs w hk s x g t hn hd hu => ?_) ρ a cs w s x g t hn hd hu).1, by simp⟩
    cases z with
    | n => exact hq ρ .n tm D U h nx a cs w hk s x g t hn hd hu
    | x id' =>
      have hk : (Bool.rec (k (.x id') tm D U h nx) (k .n tm D U h nx) (Nat.beq id' id) : Bool) = true := hk
      show if id' = id then _ else _
      cases e : Nat.beq id' id with
      | true => rw [e] at hk; rw [if_pos (beq_spec e)]; exact hq ρ .n tm D U h nx a cs w hk s x g t hn hd hu
      | false => rw [e] at hk; rw [if_neg (Nat.ne_of_beq_eq_false e)]; exact hq ρ (.x id') tm D U h nx a cs w hk s x g t hn hd hu
    | r => exact hq ρ .r tm D U h nx a cs w hk s x g t hn hd hu
    | pk v => exact hq ρ (.pk v) tm D U h nx a cs w hk s x g t hn hd hu
  case loop c1 =>
    have plain : (execL P ng hk lk n c1 nt tm D U h nx fun x tm D U h nx => X.rec (motive := fun _ => Bool) (execL P ng hk lk n (.loop c1) nt tm D U h nx k) (fun id => k (.x id) tm D U h nx) (k .r tm D U h nx) (fun v => k (.pk v) tm D U h nx) x) = true → WL P dk c1 Q a cs w := fun he => by
      refine .round (ih c1 nt tm D U h nx _ he dk c0 cs0 ρ0 h0 w0 _ (fun ρ z tm D U h nx a cs w hk s x g t hn hd hu => ?_) ρ a cs w s x g t hn hd hu).1
      cases z with
      | n => exact (ih (.loop c1) nt tm D U h nx k hk dk c0 cs0 ρ0 h0 w0 Q hq ρ a cs w s x g t hn hd hu).2 c1 rfl
      | x id => exact hq ρ (.x id) tm D U h nx a cs w hk s x g t hn hd hu
      | r => exact hq ρ .r tm D U h nx a cs w hk s x g t hn hd hu
      | pk v => exact hq ρ (.pk v) tm D U h nx a cs w hk s x g t hn hd hu
    have key : WL P dk c1 Q a cs w := by
      have he : (fun d => lkOf lk nt (rid c1) d fun u q t mods lo hi => Nat.rec (motive := fun _ => Bool) (scanL (execL P ng hk lk n) c1 nt u t mods lo hi tm D U h nx k d) (fun q _ => scanL2 (execL P ng hk lk n) c1 nt u q t mods lo hi tm D U h nx k d) q)
        (execL P ng hk lk n c1 nt tm D U h nx fun x tm D U h nx => X.rec (motive := fun _ => Bool) (execL P ng hk lk n (.loop c1) nt tm D U h nx k) (fun id => k (.x id) tm D U h nx) (k .r tm D U h nx) (fun v => k (.pk v) tm D U h nx) x) = true := he
      rcases lkOf_cases (nt := nt) (r := rid c1) (d := (execL P ng hk lk n c1 nt tm D U h nx fun x tm D U h nx => X.rec (motive := fun _ => Bool) (execL P ng hk lk n (.loop c1) nt tm D U h nx k) (fun id => k (.x id) tm D U h nx) (k .r tm D U h nx) (fun v => k (.pk v) tm D U h nx) x))
        (k := fun u q t mods lo hi => Nat.rec (motive := fun _ => Bool) (scanL (execL P ng hk lk n) c1 nt u t mods lo hi tm D U h nx k (execL P ng hk lk n c1 nt tm D U h nx fun x tm D U h nx => X.rec (motive := fun _ => Bool) (execL P ng hk lk n (.loop c1) nt tm D U h nx k) (fun id => k (.x id) tm D U h nx) (k .r tm D U h nx) (fun v => k (.pk v) tm D U h nx) x)) (fun q _ => scanL2 (execL P ng hk lk n) c1 nt u q t mods lo hi tm D U h nx k (execL P ng hk lk n c1 nt tm D U h nx fun x tm D U h nx => X.rec (motive := fun _ => Bool) (execL P ng hk lk n (.loop c1) nt tm D U h nx k) (fun id => k (.x id) tm D U h nx) (k .r tm D U h nx) (fun v => k (.pk v) tm D U h nx) x)) q) lk with e | ⟨u, q, tt, mods, lo, hi, e⟩
      · exact plain (e.symm.trans he)
      · have he2 := e.symm.trans he
        cases q with
        | zero =>
          rcases scan_sound ih he2 hq s x g t hn hd hu with h1 | h1
          · exact plain h1
          · exact h1
        | succ q =>
          rcases scan_sound2 ih (q := q) he2 hq s x g t hn hd hu with h1 | h1
          · exact plain h1
          · exact h1
    exact ⟨key.loop, fun c' e => by cases e; exact key⟩
  case cond c1 c2 c3 =>
    obtain ⟨q, hv, he2⟩ := vBf_spec (show vBf (ev ng tm c1) (fun q => Bool.rec (execL P ng hk lk n c3 nt tm D U h nx k) (execL P ng hk lk n c2 nt tm D U h nx k) q) = true from he) (ev_rel g t c1)
    refine ⟨.cond hv ?_, by simp⟩
    cases q with
    | true => exact (ih c2 nt tm D U h nx k he2 dk c0 cs0 ρ0 h0 w0 Q hq ρ a cs w s x g t hn hd hu).1
    | false => exact (ih c3 nt tm D U h nx k he2 dk c0 cs0 ρ0 h0 w0 Q hq ρ a cs w s x g t hn hd hu).1
theorem execL_sound (hm : P.follows .mixedOrders = true) (hn : NameOK P) (hh : HKok P ng hk) : ∀ n, EXok P ng (execL P ng hk lk n)
  | 0 => fun _c _nt _tm _D _U _h _nx _k he => Bool.noConfusion he
  | n + 1 => execL_step hm (execL_sound hm hn hh n) (call_step hn hh (execL_sound hm hn hh n))
theorem runL_sound (hm : P.follows .mixedOrders = true) (hn : NameOK P) (hh : HKok P ng hk) (n : Nat) : CKok P ng (runL P ng hk lk n) :=
  call_step hn hh (execL_sound hm hn hh n)
end
end Go.Mx
