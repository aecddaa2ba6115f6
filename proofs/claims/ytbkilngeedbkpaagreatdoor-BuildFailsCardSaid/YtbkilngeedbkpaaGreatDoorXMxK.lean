/-
  A part of a small executor of the model, proved sound (18 of 33). No condition.
-/
import Derived.Test.YtbkilngeedbkpaaGreatDoorXMxG
import Derived.Lib.IndexAny
import Derived.Carry
namespace Go.Mx
open Instr Builtin
noncomputable section
variable {P : Program} {ρ : Ren} {h : T O} {nx : Nat} {w : World} {ng : Nat}
theorem upon_of_calls (hn : NameOK P) {g : Nat} {fn : Func} {c : Code} (hf : P.funcs[g]? = some fn) (hb : fn.body = some c) {vs : List Value} {y : V} (hc : Calls P g ⟨vs⟩ w fun e w' => ∃ v, e = .returned v ∧ VR ρ y v ∧ Stays w w')
    (s : St ρ h nx w) {K Kp : KV} (hk : K y h nx = true) : UponOK P ((callFunc g ⟨vs⟩).run P w) ρ h w K Kp := by
  intro o a next Q h1 _
  rw [callFunc_enter hn hf hb, Oper.upon_enter]
  refine hc.mono fun e w' ⟨v, he, hv, hs⟩ => ?_
  subst he
  refine h1 ρ y h nx v w' hv ⟨fun id L hi hL => ?_, s.inj, s.fresh, s.dead⟩ ⟨Ren.le.refl _, hs.size, hs.os, hs.tape, hs.output, fun b hb hk => ⟨hs.heap b hb, hk⟩, fun _ _ k => ⟨k, rfl⟩⟩ hk
  obtain ⟨o, g1, g2⟩ := s.rel id L hi hL
  exact ⟨o, by rw [hs.heap L.blk (Array.getElem?_eq_some_iff.1 g1).1]; exact g1, g2⟩
def isL (v : V) : Bool := vS v fun _ => true
def plainTB (args : V) : Bool := arg0 args fun x r => arg0 r fun y _ => ite1 (isL x) (isI y)
def hkOr (f g : HookF) : HookF := fun args h nx K => Bool.rec (g args h nx K) (f args h nx K) (plainTB args)
theorem hkOr_ok {g : Nat} {a b : HookF} (ha : HookOk P ng g a) (hb : HookOk P ng g b) : HookOk P ng g (hkOr a b) := by
  intro args h nx K Kp hk
  unfold hkOr at hk
  cases e : plainTB args with
  | true => rw [e] at hk; exact ha args h nx K Kp hk
  | false => rw [e] at hk; exact hb args h nx K Kp hk
def strC (v : V) (k : V → Bool) : Bool := V.rec (motive := fun _ => Bool) false (fun _ _ _ _ => false) (fun _ => false) (fun _ _ => false) (fun l => chbK l k) (fun _ _ => false) false (fun _ _ _ _ => false) false false false (fun _ => false) false (fun _ _ _ => false) false (fun _ _ _ => false) false (fun _ _ => false) (fun _ _ => false) (fun _ _ _ _ => false) (fun l _ => k l) (fun _ _ _ _ _ => false) (fun _ _ _ _ _ _ => false) v
theorem strC_spec {v : V} {k : V → Bool} {x : Value} (hk : strC v k = true) (hx : VR ρ v x) : ∃ c b, k c = true ∧ x = .string b ∧ VRs ρ c (bytesV b) := by
  cases v <;> first | exact Bool.noConfusion hk | skip
  case s l =>
    simp only [VR] at hx
    obtain ⟨rfl, hl⟩ := hx
    obtain ⟨c, h1, h2⟩ := chbK_bytes (show chbK l k = true from hk) hl
    exact ⟨c, _, h1, rfl, h2 ρ⟩
  case w l =>
    simp only [VR] at hx
    obtain ⟨b, rfl, hb⟩ := hx
    exact ⟨l, b, hk, rfl, hb⟩
def textRng (args : V) (k : V → Nat → Nat → Nat → Bool) : Bool := arg0 args fun x r => arg0 r fun y r' => chain (strC x fun c => rngK y fun kd lo hi i => ite1 (keq kd .u8) <| ite1 (Nat.ble hi 255) <| k c lo hi i) (fun _ _ _ => false) r'
theorem textRng_spec {args : V} {k : V → Nat → Nat → Nat → Bool} {vs : List Value} (hk : textRng args k = true) (hv : VRs ρ args vs) :
    ∃ c lo hi i b n, k c lo hi i = true ∧ n < 256 ∧ InR ρ lo hi i n ∧ VRs ρ c (bytesV b) ∧ vs = [.string b, .int .u8 (n : Int)] := by
  obtain ⟨x, r, rfl, hk2⟩ := arg0_spec hk
  obtain ⟨y, r', rfl, hk3⟩ := arg0_spec hk2
  simp only [VRs] at hv
  obtain ⟨v1, l1, rfl, h1, v2, l2, rfl, h2, h3⟩ := hv
  cases r' <;> first | (simp only [VRs] at h3; done) | exact Bool.noConfusion hk3 | skip
  simp only [VRs] at h3
  subst h3
  obtain ⟨c, b, hk4, rfl, hb⟩ := strC_spec (show strC x (fun c => rngK y fun kd lo hi i => ite1 (keq kd .u8) <| ite1 (Nat.ble hi 255) <| k c lo hi i) = true from hk3) h1
  obtain ⟨kd, lo, hi, i, hk5, hr⟩ := rngK_spec hk4
  obtain ⟨e1, hk6⟩ := ite1_spec hk5
  have e1 := keq_eq e1
  subst e1
  obtain ⟨e2, hk7⟩ := ite1_spec hk6
  have e2 := Nat.le_of_ble_eq_true e2
  obtain ⟨n, rfl, hn⟩ := hr ρ _ h2
  exact ⟨c, lo, hi, i, b, n, hk7, by have := hn.2.1; omega, hn, hb, rfl⟩
def widxK (l1 h1 i1 : Nat) (c : V) : Nat → (Int → Bool) → Bool := chain (M := Nat → (Int → Bool) → Bool) (fun _ k => k (Int.negSucc 0)) (fun x _ ih i k => rngK x fun _ l2 h2 i2 => tri l2 h2 i2 l1 h1 i1 (ih (Nat.succ i) k) (k (Int.ofNat i)) false) c
def wcntK (l1 h1 i1 : Nat) (c : V) : Nat → (Nat → Bool) → Bool := chain (M := Nat → (Nat → Bool) → Bool) (fun n k => k n) (fun x _ ih n k => rngK x fun _ l2 h2 i2 => tri l2 h2 i2 l1 h1 i1 (ih n k) (ih (Nat.succ n) k) false) c
def hkIndexByteW : HookF := fun args h nx K => textRng args fun c lo hi i => widxK lo hi i c 0 fun n => K (.i .i64 n) h nx
def hkCountW : HookF := fun args h nx K => textRng args fun c lo hi i => wcntK lo hi i c 0 fun n => K (.i .i64 (Int.ofNat n)) h nx
theorem u8_ne {c : UInt8} {n : Nat} (hn : n < 256) (h : c.toNat ≠ n) : (c == UInt8.ofNat n) = false := by
  rw [beq_eq_false_iff_ne]
  intro e
  apply h
  rw [e]
  simp [UInt8.toNat_ofNat', Nat.mod_eq_of_lt hn]
theorem u8_eq {c : UInt8} {n : Nat} (h : c.toNat = n) : c = UInt8.ofNat n := by
  rw [← h]; simp
theorem byte_cell {x : V} {c : UInt8} {k : IntKind → Nat → Nat → Nat → Bool} (hk : rngK x k = true) (hx : VR ρ x (byteV c)) : ∃ kd lo hi i, k kd lo hi i = true ∧ InR ρ lo hi i c.toNat := by
  obtain ⟨kd, lo, hi, i, h1, h2⟩ := rngK_spec hk
  obtain ⟨n, e, hn⟩ := h2 ρ _ hx
  simp only [byteV, Value.int.injEq] at e
  have e2 : c.toNat = n := by omega
  exact ⟨kd, lo, hi, i, h1, e2 ▸ hn⟩
theorem widxK_spec {l1 h1 i1 n : Nat} (hn : n < 256) (hr : InR ρ l1 h1 i1 n) : ∀ {c : V} {bl : List UInt8} (i : Nat) {k : Int → Bool}, widxK l1 h1 i1 c i k = true → VRs ρ c (bl.map byteV) → k (let r := Lib.indexByte bl (UInt8.ofNat n); if r < 0 then -1 else (i : Int) + r) = true := by
  intro c
  induction c with
  | nil =>
    intro bl i k hk hv
    simp only [VRs, List.map_eq_nil_iff] at hv
    subst hv
    exact hk
  | cons x l _ ih =>
    intro bl i k hk hv
    simp only [VRs] at hv
    obtain ⟨v, vs, e, h1', h2⟩ := hv
    cases bl with
    | nil => cases e
    | cons d ds =>
      simp only [List.map_cons, List.cons.injEq] at e
      obtain ⟨rfl, rfl⟩ := e
      obtain ⟨kd, l2, h2', i2, hk2, hin⟩ := byte_cell (show (rngK x fun _ l2 h2 i2 => tri l2 h2 i2 l1 h1 i1 (widxK l1 h1 i1 l (Nat.succ i) k) (k (Int.ofNat i)) false) = true from hk) h1'
      have hge := Lib.indexByte_ge ds (UInt8.ofNat n)
      have ei : Lib.indexByte (d :: ds) (UInt8.ofNat n) = if (d == UInt8.ofNat n) = true then 0 else if Lib.indexByte ds (UInt8.ofNat n) == -1 then -1 else Lib.indexByte ds (UInt8.ofNat n) + 1 := rfl
      rw [ei]
      rcases tri_spec hk2 hin hr with ⟨hne, g⟩ | ⟨he, g⟩ | g
      · have := ih (i + 1) g h2
        rw [u8_ne hn hne]
        generalize Lib.indexByte ds (UInt8.ofNat n) = q at hge this
        by_cases hq : q = -1
        · subst hq; simpa using this
        · have q1 : ¬ q < 0 := by omega
          have q2 : ¬ q + 1 < 0 := by omega
          simp only [q1, if_false] at this
          simp only [Bool.false_eq_true, if_false, beq_iff_eq, hq, q2]
          have e3 : ((i + 1 : Nat) : Int) + q = (i : Int) + (q + 1) := by omega
          rwa [e3] at this
      · have e2 := u8_eq he
        rw [← e2]
        simpa using g
      · cases g
  | _ => intro bl i k hk hv; simp only [VRs] at hv
theorem wcntK_spec {l1 h1 i1 n : Nat} (hn : n < 256) (hr : InR ρ l1 h1 i1 n) : ∀ {c : V} {bl : List UInt8} (m : Nat) {k : Nat → Bool}, wcntK l1 h1 i1 c m k = true → VRs ρ c (bl.map byteV) → k (m + bl.count (UInt8.ofNat n)) = true := by
  intro c
  induction c with
  | nil =>
    intro bl m k hk hv
    simp only [VRs, List.map_eq_nil_iff] at hv
    subst hv
    exact hk
  | cons x l _ ih =>
    intro bl m k hk hv
    simp only [VRs] at hv
    obtain ⟨v, vs, e, h1', h2⟩ := hv
    cases bl with
    | nil => cases e
    | cons d ds =>
      simp only [List.map_cons, List.cons.injEq] at e
      obtain ⟨rfl, rfl⟩ := e
      obtain ⟨kd, l2, h2', i2, hk2, hin⟩ := byte_cell (show (rngK x fun _ l2 h2 i2 => tri l2 h2 i2 l1 h1 i1 (wcntK l1 h1 i1 l m k) (wcntK l1 h1 i1 l (Nat.succ m) k) false) = true from hk) h1'
      rw [List.count_cons]
      rcases tri_spec hk2 hin hr with ⟨hne, g⟩ | ⟨he, g⟩ | g
      · have := ih m g h2
        rw [u8_ne hn hne]
        simpa using this
      · have := ih (m + 1) g h2
        have e2 := u8_eq he
        rw [← e2] at this ⊢
        have e3 : m + 1 + ds.count d = m + (ds.count d + if (d == d) = true then 1 else 0) := by simp; omega
        rw [e3] at this
        exact this
      · cases g
  | _ => intro bl m k hk hv; simp only [VRs] at hv
theorem hkIndexByteW_ok {g : Nat} {fn : Func} (hf : P.funcs[g]? = some fn) (hname : (fn.name == "runtime.NumGoroutine") = false) (hb : fn.body.isNone = true) (hn : Extern.findNext fn = none) (he : Extern.find fn = some Extern.BytealgIndexByte.indexByte) : HookOk P ng g hkIndexByteW := by
  intro args h nx K Kp hk ρ w vs s _ hv
  obtain ⟨c, lo, hi, i, b, n, hk2, hlt, hin, hbv, rfl⟩ := textRng_spec hk hv
  have hk3 := widxK_spec (bl := b.data.toList) hlt hin 0 hk2 hbv
  have hr := Lib.run_indexByteString (P := P) b (n : Int) w
  have e : ((n : Int).toNat.toUInt8) = UInt8.ofNat n := by simp
  rw [e] at hr
  have hge := Lib.indexByte_ge b.data.toList (UInt8.ofNat n)
  refine UponOK.val (upon_extern hf hname hb hn he hr) ?_ s (Ext.refl _ _ _) hk3
  simp only [VR]
  congr 1
  split <;> omega
theorem hkCountW_ok {g : Nat} {fn : Func} (hf : P.funcs[g]? = some fn) (hname : (fn.name == "runtime.NumGoroutine") = false) (hb : fn.body.isNone = true) (hn : Extern.findNext fn = none) (he : Extern.find fn = some Extern.BytealgCount.count) : HookOk P ng g hkCountW := by
  intro args h nx K Kp hk ρ w vs s _ hv
  obtain ⟨c, lo, hi, i, b, n, hk2, hlt, hin, hbv, rfl⟩ := textRng_spec hk hv
  have hk3 := wcntK_spec (bl := b.data.toList) hlt hin 0 hk2 hbv
  rw [Nat.zero_add] at hk3
  have hr := Lib.run_countString (P := P) b (n : Int) w
  have e : Lib.countByte b.data.toList ((n : Int).toNat.toUInt8) = b.data.toList.count (UInt8.ofNat n) := by simp [Lib.countByte]
  rw [e] at hr
  exact UponOK.val (upon_extern hf hname hb hn he hr) (VRi _ _ _) s (Ext.refl _ _ _) hk3
end
end Go.Mx
namespace Go.Mx
noncomputable section
variable {P : Program}
def atomsV (lo hi n : Nat) : Nat → V → V := Nat.rec (motive := fun _ => Nat → V → V) (fun _ r => r) (fun _ ih i r => .cons (.x i .u8 lo hi) (ih (Nat.succ i) r)) n
def atomsR (ng : Nat) (vals : List Nat) : Ren := fun i => if i < ng then none else (vals[i - ng]?).map fun n => ⟨0, n, 0⟩
theorem atomsR_at {ng : Nat} {vals : List Nat} {j n : Nat} (h : vals[j]? = some n) : ∃ L, atomsR ng vals (ng + j) = some L ∧ L.base = n := by
  refine ⟨⟨0, n, 0⟩, ?_, rfl⟩
  unfold atomsR
  rw [if_neg (by omega)]
  simp [h]
theorem VRs_atoms {ρ : Ren} {lo hi : Nat} {r : V} {rs : List Value} (hr : VRs ρ r rs) : ∀ (bl : List UInt8) (i : Nat), (∀ c ∈ bl, lo ≤ c.toNat ∧ c.toNat ≤ hi) → (∀ j c, bl[j]? = some c → ∃ L, ρ (i + j) = some L ∧ L.base = c.toNat) →
    VRs ρ (atomsV lo hi bl.length i r) (bl.map byteV ++ rs)
  | [], _, _, _ => hr
  | c :: bl, i, h1, h2 => by
    have ih := VRs_atoms hr bl (i + 1) (fun d hd => h1 d (List.mem_cons_of_mem _ hd)) (fun j d hj => by
      have := h2 (j + 1) d (by simpa using hj)
      rwa [show i + (j + 1) = i + 1 + j by omega] at this)
    obtain ⟨L, e1, e2⟩ := h2 0 c rfl
    have h3 := h1 c (List.mem_cons_self ..)
    show VRs ρ (.cons (.x i .u8 lo hi) (atomsV lo hi bl.length (i + 1) r)) (byteV c :: (bl.map byteV ++ rs))
    simp only [VRs]
    exact ⟨_, _, rfl, by simp only [VR]; exact ⟨L, e1, by omega, by omega, by rw [e2]; rfl⟩, ih⟩
theorem VR_word {ρ : Ren} {lo hi i : Nat} {s : ByteArray} {n : Nat} (hn : s.size = n) (h1 : ∀ c ∈ s.data.toList, lo ≤ c.toNat ∧ c.toNat ≤ hi) (h2 : ∀ (j : Nat) c, s.data.toList[j]? = some c → ∃ L, ρ (i + j) = some L ∧ L.base = c.toNat) : VR ρ (.w (atomsV lo hi n i .nil)) (.string s) := by
  simp only [VR]
  refine ⟨s, rfl, ?_⟩
  have := VRs_atoms (r := .nil) (rs := []) (by simp [VRs]) s.data.toList i h1 h2
  rw [List.append_nil] at this
  have hl : s.data.toList.length = n := by rw [← hn]; rfl
  rw [hl] at this
  exact this
theorem VR_front {ρ : Ren} {lo hi lo' hi' i a blo bhi : Nat} {s : ByteArray} {k : Nat} {d : UInt8} (hk : s.data.toList[k]? = some d) (h1 : ∀ c ∈ s.data.toList.take k, lo ≤ c.toNat ∧ c.toNat ≤ hi) (hd : lo' ≤ d.toNat ∧ d.toNat ≤ hi')
    (h2 : ∀ (j : Nat) c, s.data.toList[j]? = some c → j ≤ k → ∃ L, ρ (i + j) = some L ∧ L.base = c.toNat) (ha : ∃ L, ρ a = some L ∧ L.base = s.size) (hb : blo ≤ s.size ∧ s.size ≤ bhi) :
    VR ρ (.y (atomsV lo hi k i (.cons (.x (i + k) .u8 lo' hi') .nil)) a blo bhi) (.string s) := by
  simp only [VR]
  obtain ⟨L, e1, e2⟩ := ha
  obtain ⟨M, e3, e4⟩ := h2 k d hk (Nat.le_refl _)
  refine ⟨s, L, k + 1, rfl, e1, e2, hb.1, hb.2, ?_⟩
  have hlt : k < s.data.toList.length := (List.getElem?_eq_some_iff.1 hk).1
  have := VRs_atoms (ρ := ρ) (lo := lo) (hi := hi) (r := .cons (.x (i + k) .u8 lo' hi') .nil) (rs := [byteV d]) (by
    simp only [VRs]
    exact ⟨_, _, rfl, by simp only [VR]; exact ⟨M, e3, by omega, by omega, by rw [e4]; rfl⟩, rfl⟩) (s.data.toList.take k) i h1 (fun j c hj => by
      have hjk : j < k := by
        have := (List.getElem?_eq_some_iff.1 hj).1
        simp at this
        omega
      rw [List.getElem?_take_of_lt hjk] at hj
      exact h2 j c hj (by omega))
  have hl : (s.data.toList.take k).length = k := by simp at hlt ⊢; omega
  rw [hl] at this
  have e : (bytesV s).take (k + 1) = (s.data.toList.take k).map byteV ++ [byteV d] := by
    unfold bytesV
    rw [← List.map_take, List.take_add_one, hk]
    simp
  rw [e]
  exact this
theorem VR_long {ρ : Ren} {a blo bhi : Nat} {s : ByteArray} (ha : ∃ L, ρ a = some L ∧ L.base = s.size) (hb : blo ≤ s.size ∧ s.size ≤ bhi) : VR ρ (.y .nil a blo bhi) (.string s) := by
  simp only [VR]
  obtain ⟨L, e1, e2⟩ := ha
  exact ⟨s, L, 0, rfl, e1, e2, hb.1, hb.2, by simp [VRs]⟩
theorem words (lo hi bound : Nat) (s : ByteArray) : bound < s.size ∨ (s.size ≤ bound ∧ ∀ c ∈ s.data.toList, lo ≤ c.toNat ∧ c.toNat ≤ hi) ∨
    ∃ (k : Nat) (d : UInt8), s.size ≤ bound ∧ s.data.toList[k]? = some d ∧ (∀ c ∈ s.data.toList.take k, lo ≤ c.toNat ∧ c.toNat ≤ hi) ∧ (d.toNat < lo ∨ hi < d.toNat) := by
  rcases Nat.lt_or_ge bound s.size with h | h
  · exact .inl h
  refine .inr ?_
  have key : ∀ l : List UInt8, (∀ c ∈ l, lo ≤ c.toNat ∧ c.toNat ≤ hi) ∨ ∃ (k : Nat) (d : UInt8), l[k]? = some d ∧ (∀ c ∈ l.take k, lo ≤ c.toNat ∧ c.toNat ≤ hi) ∧ (d.toNat < lo ∨ hi < d.toNat) := by
    intro l
    induction l with
    | nil => exact .inl (by simp)
    | cons c l ih =>
      by_cases hc : lo ≤ c.toNat ∧ c.toNat ≤ hi
      · rcases ih with ih | ⟨k, d, h1, h2, h3⟩
        · refine .inl fun e he => ?_
          rcases List.mem_cons.1 he with rfl | he
          · exact hc
          · exact ih e he
        · refine .inr ⟨k + 1, d, by simpa using h1, fun e he => ?_, h3⟩
          rw [List.take_succ_cons] at he
          rcases List.mem_cons.1 he with rfl | he
          · exact hc
          · exact h2 e he
      · exact .inr ⟨0, c, rfl, by simp, by omega⟩
  rcases key s.data.toList with g | ⟨k, d, g⟩
  · exact .inl ⟨h, g⟩
  · exact .inr ⟨k, d, h, g⟩
def allN (n : Nat) (f : Nat → Bool) : Bool := Nat.rec (motive := fun _ => Bool) true (fun m ih => ite1 (f m) ih) n
theorem allN_spec {f : Nat → Bool} : ∀ {n : Nat}, allN n f = true → ∀ m, m < n → f m = true
  | 0, _, m, hm => by omega
  | n + 1, h, m, hm => by
    obtain ⟨h1, h2⟩ := ite1_spec (show ite1 (f n) (allN n f) = true from h)
    by_cases e : m = n
    · subst e; exact h1
    · exact allN_spec h2 m (by omega)
theorem top_run_x (hm : P.follows .mixedOrders = true) (hn : NameOK P) {hk : Nat → Option HookF} {ng : Nat} (hh : HKok P ng hk) {n g : Nat} {fn : Func} {cd : Code} (hf : P.funcs[g]? = some fn) (hb : fn.body = some cd)
    {l : List (Nat × V)} {x : Bool} {args : V} {vs : List Value} (hl : inT ng l = true) {vals : List Nat} {nx : Nat} (hnx : nx = ng + vals.length) (hv : VRs (atomsR ng vals) args vs)
    (hrun : ∀ τ, mkTK τ l .leaf (fun h0 => run P ng hk n g args h0 nx (fun v _ _ => isB x v) (fun _ _ _ => false)) = true) {W : World} (tab : HasTables l W) :
    Calls P g ⟨vs⟩ W fun e W' => e = .returned (.bool x) ∧ Stays W W' := by
  let τ : Nat → Nat := fun i => match W.heap[i]? with
    | some (.cells _ ty _) => ty
    | _ => 0
  let sz : Nat → Nat := fun i => match W.heap[i]? with
    | some (.cells arr _ _) => arr.size
    | _ => 0
  have hrun := hrun τ
  rw [mkTK_eq] at hrun
  let ρr : Ren := fun i => if i < ng then some ⟨i, 0, sz i⟩ else atomsR ng vals i
  have hin := inT_spec hl
  have at0 := mkT_at τ l (.leaf : T O)
  have live0 : ∀ i, (gt O.none i (mkTb τ l .leaf)).live → ∃ p ∈ l, p.1 = i ∧ gt O.none i (mkTb τ l .leaf) = tabO p.2 (τ i) := fun i hi => by
    rcases at0 i with h1 | ⟨_, h2⟩
    · exact h1
    · rw [h2, gt_leaf] at hi; exact hi.elim
  have nowr : ∀ i, ¬ (gt O.none i (mkTb τ l .leaf)).wr := fun i hi => by
    obtain ⟨p, _, _, e⟩ := live0 i (O.live_of_wr hi)
    rw [e] at hi
    exact Bool.noConfusion (show false = true from hi)
  have sr : St ρr (mkTb τ l .leaf) nx W := by
    refine ⟨fun id L hi hL => ?_, fun i j L M hi => (nowr i hi).elim, fun i hi => ?_, fun i hi hl' => ?_⟩
    · obtain ⟨p, hp, rfl, e⟩ := live0 id hi
      have hlt := (hin p hp).1
      have hL' : L = ⟨p.1, 0, sz p.1⟩ := by simpa [ρr, hlt, eq_comm] using hL
      subst hL'
      obtain ⟨arr, ty, h1, h2⟩ := tab p hp
      refine ⟨_, h1, ?_⟩
      have et : τ p.1 = ty := by simp only [τ, h1]
      have es : sz p.1 = arr.size := by simp only [sz, h1]
      rw [e, et]
      exact ⟨arr, (0, 0), rfl, es.symm, (fun hf => by cases hf), Nat.zero_le _, by simpa using plain_CR (hin p hp).2 h2⟩
    · have h1 : ¬ i < ng := by omega
      have h2 : vals.length ≤ i - ng := by omega
      simp [ρr, h1, atomsR, List.getElem?_eq_none h2]
    · obtain ⟨p, hp, rfl, e⟩ := live0 i hl'
      have := (hin p hp).1
      omega
  have gr : RG ng ρr := fun i hi => ⟨⟨i, 0, sz i⟩, by simp [ρr, hi], rfl, rfl⟩
  have hv' : VRs ρr args vs := hv.mono (fun i L e => by
    by_cases h : i < ng
    · simp [atomsR, h] at e
    · simp only [ρr, h, if_false]
      exact e)
  have up := run_sound hm hn hh n g args (mkTb τ l .leaf) nx (fun v _ _ => isB x v) (fun _ _ _ => false) hrun ρr W vs sr gr hv'
  let o : Oper := { (default : Oper) with dst := some 0 }
  let a : Act := { tmps := #[undef], defers := [] }
  have h := up o a (fun a' W' => a'.tmps[0]? = some (.bool x) ∧ Stays W W') (fun _ _ _ => False) (fun ρ' y h' nx' v w' hv' _ hx hky => ?_) (fun ρ' y h' nx' v w' _ _ _ hky => Bool.noConfusion hky)
  · rw [callFunc_enter hn hf hb, Oper.upon_enter] at h
    refine h.mono fun e W' hr => ?_
    cases e with
    | returned v =>
      obtain ⟨h1, h2⟩ := hr
      have : v = .bool x := by simpa [Act.put, o, a] using h1
      exact ⟨by rw [this], h2⟩
    | panicked c => exact hr.elim
    | outgrown => obtain ⟨_, _, hq⟩ := hr; exact hq.elim
  · obtain ⟨b, rfl, hb⟩ := vB_spec (show vB y (fun b => bs_eq b x) = true from hky)
    have hbx : b = x := by cases b <;> cases x <;> first | rfl | exact Bool.noConfusion hb
    subst hbx
    simp only [VR] at hv'
    subst hv'
    exact ⟨by simp [Act.put, o, a], hx.size, hx.os, hx.tape, hx.output, fun b hb => (hx.kept b hb fun id L hw _ => (nowr id hw).elim).1⟩
end
end Go.Mx
namespace Go.Mx
noncomputable section
variable {P : Program} {ρ : Ren} {h : T O} {nx : Nat} {w : World} {ng : Nat}
theorem small_run (hm : P.follows .mixedOrders = true) (hn : NameOK P) {hk : Nat → Option HookF} (hh : HKok P ng hk) {N g : Nat} {args : V} {R : V → Bool} (hrun : run P ng hk N g args .leaf ng (fun v _ _ => R v) (fun _ _ _ => false) = true)
    {vs : List Value} (hv : VRs (fun _ => none) args vs) (gr : RG ng ρ) {o : Oper} {a : Act} {next : Act → World → Prop} {Q : Exit → Act → World → Prop}
    (h1 : ∀ ρ' y v w', R y = true → VR ρ' y v → Stays w w' → next (a.put o.dst v) w') : o.upon P a next Q ((callFunc g ⟨vs⟩).run P w) := by
  let ρr : Ren := fun i => if i < ng then ρ i else none
  have dead : ∀ i, ¬ (gt O.none i (.leaf : T O)).live := fun i hi => by rw [gt_leaf] at hi; exact hi
  have sr : St ρr .leaf ng w := ⟨fun id L hi _ => (dead id hi).elim, fun i j L M hi => (dead i (O.live_of_wr hi)).elim, fun i hi => by
    have : ¬ i < ng := by omega
    simp [ρr, this], fun i _ => dead i⟩
  have gr' : RG ng ρr := fun i hi => by
    obtain ⟨L, e1, e2, e3⟩ := gr i hi
    exact ⟨L, by simpa [ρr, hi] using e1, e2, e3⟩
  have up := run_sound hm hn hh N g args .leaf ng (fun v _ _ => R v) (fun _ _ _ => false) hrun ρr w vs sr gr' (hv.mono (fun i L e => by cases e))
  refine up o a next Q (fun ρ' y h' nx' v w' hv' _ hx hky => ?_) (fun ρ' y h' nx' v w' _ _ _ hky => Bool.noConfusion hky)
  exact h1 ρ' y v w' hky hv' ⟨hx.size, hx.os, hx.tape, hx.output, fun b hb => (hx.kept b hb fun id L hw _ => (dead id (O.live_of_wr hw)).elim).1⟩
def eqB (x : Bool) (v : V) : Bool := vB v fun b => bs_eq b x
theorem eqB_spec {x : Bool} {v : V} (h : eqB x v = true) : v = .b x := by
  obtain ⟨b, rfl, hb⟩ := vB_spec h
  rw [bs_eq_spec] at hb
  rw [eq_of_beq hb]
end
end Go.Mx
namespace Go.Mx
open Go.RowKit
noncomputable section
variable {P : Program} {ρ : Ren} {h : T O} {nx : Nat} {w : World} {ng : Nat}
def inAny (l2 h2 i2 : Nat) (cs : List Nat) (kn ks : Bool) : Bool := List.rec (motive := fun _ => Bool) kn (fun c _ ih => tri l2 h2 i2 c c 0 ih ks false) cs
def wanyK (cs : List Nat) (c : V) : Nat → (Int → Bool) → Bool := chain (M := Nat → (Int → Bool) → Bool) (fun _ k => k (Int.negSucc 0)) (fun x _ ih i k => rngK x fun _ l2 h2 i2 => ite1 (Nat.blt h2 128) <| inAny l2 h2 i2 cs (ih (Nat.succ i) k) (k (Int.ofNat i))) c
def ascB (l : List Nat) : Bool := List.rec (motive := fun _ => Bool) true (fun c _ ih => ite1 (Nat.blt c 128) ih) l
theorem ascB_spec : ∀ {l : List Nat}, ascB l = true → ∀ c ∈ l, c < 128
  | [], _ => by simp
  | c :: l, h => by
    obtain ⟨h1, h2⟩ := ite1_spec (show ite1 (Nat.blt c 128) (ascB l) = true from h)
    intro d hd
    rcases List.mem_cons.1 hd with rfl | hd
    · exact Nat.blt_eq.mp h1
    · exact ascB_spec h2 d hd
theorem inAny_spec {l2 h2 i2 : Nat} {kn ks : Bool} {c : UInt8} (hin : InR ρ l2 h2 i2 c.toNat) : ∀ {cs : List Nat}, (∀ n ∈ cs, n < 256) → inAny l2 h2 i2 cs kn ks = true → ((cs.map UInt8.ofNat).contains c = false ∧ kn = true) ∨ ((cs.map UInt8.ofNat).contains c = true ∧ ks = true)
  | [], _, h => .inl ⟨rfl, h⟩
  | n :: cs, hl, h => by
    have hn := hl n (List.mem_cons_self ..)
    rcases tri_spec (show tri l2 h2 i2 n n 0 (inAny l2 h2 i2 cs kn ks) ks false = true from h) hin (InR.lit ρ n) with ⟨hne, g⟩ | ⟨he, g⟩ | g
    · have e : (c == UInt8.ofNat n) = false := u8_ne hn hne
      rcases inAny_spec hin (fun m hm => hl m (List.mem_cons_of_mem _ hm)) g with ⟨g1, g2⟩ | ⟨g1, g2⟩
      · exact .inl ⟨by rw [List.map_cons, List.contains_cons, e, g1]; rfl, g2⟩
      · exact .inr ⟨by rw [List.map_cons, List.contains_cons, e, g1]; rfl, g2⟩
    · exact .inr ⟨by rw [List.map_cons, List.contains_cons, ← u8_eq he]; simp, g⟩
    · cases g
theorem wanyK_spec {cs : List Nat} (hl : ∀ n ∈ cs, n < 256) : ∀ {c : V} {bl : List UInt8} (i : Nat) {k : Int → Bool}, wanyK cs c i k = true → VRs ρ c (bl.map byteV) →
    (∀ d ∈ bl, d.toNat < 128 ∨ 0 ≤ Lib.indexAny bl (cs.map UInt8.ofNat)) ∧ k (let r := Lib.indexAny bl (cs.map UInt8.ofNat); if r < 0 then -1 else (i : Int) + r) = true := by
  intro c
  induction c with
  | nil =>
    intro bl i k hk hv
    simp only [VRs, List.map_eq_nil_iff] at hv
    subst hv
    exact ⟨by simp, hk⟩
  | cons x l _ ih =>
    intro bl i k hk hv
    simp only [VRs] at hv
    obtain ⟨v, vs, e, h1, h2⟩ := hv
    cases bl with
    | nil => cases e
    | cons d ds =>
      simp only [List.map_cons, List.cons.injEq] at e
      obtain ⟨rfl, rfl⟩ := e
      obtain ⟨kd, l2, h2', i2, hk2, hin⟩ := byte_cell (show (rngK x fun _ l2 h2 i2 => ite1 (Nat.blt h2 128) <| inAny l2 h2 i2 cs (wanyK cs l (Nat.succ i) k) (k (Int.ofNat i))) = true from hk) h1
      obtain ⟨e1, hk3⟩ := ite1_spec hk2
      have e1 := Nat.blt_eq.mp e1
      have hd : d.toNat < 128 := by have := hin.2.1; omega
      have hge := Lib.indexAny_ge (cs.map UInt8.ofNat) ds
      have ei : Lib.indexAny (d :: ds) (cs.map UInt8.ofNat) = if (cs.map UInt8.ofNat).contains d = true then 0 else if Lib.indexAny ds (cs.map UInt8.ofNat) == -1 then -1 else Lib.indexAny ds (cs.map UInt8.ofNat) + 1 := rfl
      rw [ei]
      rcases inAny_spec hin hl hk3 with ⟨hne, g⟩ | ⟨he, g⟩
      · obtain ⟨g1, g2⟩ := ih (i + 1) g h2
        rw [hne]
        generalize Lib.indexAny ds (cs.map UInt8.ofNat) = q at hge g1 g2
        refine ⟨fun b hb => ?_, ?_⟩
        · rcases List.mem_cons.1 hb with rfl | hb
          · exact .inl hd
          · rcases g1 b hb with g3 | g3
            · exact .inl g3
            · refine .inr ?_
              have : ¬ q = -1 := by omega
              simp [this]
              omega
        · by_cases hq : q = -1
          · subst hq; simpa using g2
          · have q1 : ¬ q < 0 := by omega
            have q2 : ¬ q + 1 < 0 := by omega
            simp only [q1, if_false] at g2
            simp only [Bool.false_eq_true, if_false, beq_iff_eq, hq, q2]
            have e3 : ((i + 1 : Nat) : Int) + q = (i : Int) + (q + 1) := by omega
            rwa [e3] at g2
      · rw [he]
        exact ⟨fun b _ => .inr (by simp), by simpa using g⟩
  | _ => intro bl i k hk hv; simp only [VRs] at hv
def asc7 (c : V) : Bool := chain true (fun x _ ih => Bool.rec false ih (rngK x fun _ _ hi _ => Nat.blt hi 128)) c
theorem asc7_spec : ∀ {c : V} {bl : List UInt8}, asc7 c = true → VRs ρ c (bl.map byteV) → ∀ d ∈ bl, d.toNat < 128 := by
  intro c
  induction c with
  | nil =>
    intro bl _ hv
    simp only [VRs, List.map_eq_nil_iff] at hv
    subst hv
    simp
  | cons x l _ ih =>
    intro bl hk hv
    simp only [VRs] at hv
    obtain ⟨v, vs, e, h1, h2⟩ := hv
    cases bl with
    | nil => cases e
    | cons d ds =>
      simp only [List.map_cons, List.cons.injEq] at e
      obtain ⟨rfl, rfl⟩ := e
      have hk' : (Bool.rec false (asc7 l) (rngK x fun _ _ hi _ => Nat.blt hi 128) : Bool) = true := hk
      cases e2 : (rngK x fun _ _ hi _ => Nat.blt hi 128) with
      | false => rw [e2] at hk'; exact Bool.noConfusion hk'
      | true =>
        rw [e2] at hk'
        obtain ⟨kd, lo, hi, i, g1, g2⟩ := byte_cell e2 h1
        have g1 := Nat.blt_eq.mp g1
        intro b hb
        rcases List.mem_cons.1 hb with rfl | hb
        · have := g2.2.1; omega
        · exact ih hk' h2 b hb
  | _ => intro bl hk hv; simp only [VRs] at hv
def hkIndexAny7 : HookF := fun args h nx K => arg0 args fun x r => arg0 r fun y r' => chain (strC x fun c => vS y fun cs => ite1 (ascB cs) <| ite1 (asc7 c) <| slenK cs 0 fun m => ite1 (Nat.ble m 1000) <| lenK c 0 fun n => ite1 (Nat.ble n 1000000) <| wanyK cs c 0 fun j => K (.i .i64 j) h nx) (fun _ _ _ => false) r'
theorem hkIndexAny7_ok (hn : NameOK P) {g : Nat} {fn : Func} {cd : Code} (hf : P.funcs[g]? = some fn) (hb : fn.body = some cd)
    (hc : ∀ (s chars : ByteArray) (w : World), s.size < 4294967281 → chars.size < 4294967281 → (∀ (j : Nat) b, s.data.toList[j]? = some b → b.toNat < 128) → (∀ (j : Nat) b, chars.data.toList[j]? = some b → b.toNat < 128) →
      Calls P g #[.string s, .string chars] w fun e w' => e = .returned (.int .i64 (Lib.indexAny s.data.toList chars.data.toList)) ∧ Below w.heap.size w w') : HookOk P ng g hkIndexAny7 := by
  intro args h nx K Kp hk ρ w vs s _ hv
  obtain ⟨x, r, rfl, hk2⟩ := arg0_spec hk
  obtain ⟨y, r', rfl, hk3⟩ := arg0_spec hk2
  simp only [VRs] at hv
  obtain ⟨v1, l1, rfl, h1, v2, l2, rfl, h2, h3⟩ := hv
  cases r' <;> first | (simp only [VRs] at h3; done) | exact Bool.noConfusion hk3 | skip
  simp only [VRs] at h3
  subst h3
  obtain ⟨c, b, hk4, rfl, hbv⟩ := strC_spec (show strC x (fun c => vS y fun cs => ite1 (ascB cs) <| ite1 (asc7 c) <| slenK cs 0 fun m => ite1 (Nat.ble m 1000) <| lenK c 0 fun n => ite1 (Nat.ble n 1000000) <| wanyK cs c 0 fun j => K (.i .i64 j) h nx) = true from hk3) h1
  obtain ⟨cs, rfl, hk5⟩ := vS_spec (v := y) hk4
  simp only [VR] at h2
  obtain ⟨rfl, hcs⟩ := h2
  obtain ⟨e1, hk6⟩ := ite1_spec hk5
  have e1 := ascB_spec e1
  obtain ⟨e2, hk7⟩ := ite1_spec hk6
  have e2 := asc7_spec (bl := b.data.toList) e2 hbv
  rw [slenK_eq, Nat.zero_add] at hk7
  obtain ⟨e3, hk8⟩ := ite1_spec hk7
  have e3 := Nat.le_of_ble_eq_true e3
  obtain ⟨n, hk9, hlen, _⟩ := lenK_spec hk8 (VRs_isC hbv)
  rw [Nat.zero_add] at hk9
  have hlen := hlen ρ _ hbv
  rw [bytesV_length] at hlen
  obtain ⟨e4, hk10⟩ := ite1_spec hk9
  have e4 := Nat.le_of_ble_eq_true e4
  obtain ⟨_, hk11⟩ := wanyK_spec (ρ := ρ) (bl := b.data.toList) hcs 0 hk10 hbv
  have hcl : (bs cs).data.toList = cs.map UInt8.ofNat := by simp [bs]
  have hge := Lib.indexAny_ge (cs.map UInt8.ofNat) b.data.toList
  refine upon_of_calls hn hf hb (y := .i .i64 (if Lib.indexAny b.data.toList (cs.map UInt8.ofNat) < 0 then -1 else ((0 : Nat) : Int) + Lib.indexAny b.data.toList (cs.map UInt8.ofNat))) ?_ s hk11
  refine (hc b (bs cs) w (by omega) (by rw [bs_size]; omega) (fun j d hj => e2 d (List.mem_of_getElem? hj)) (fun j d hj => ?_)).mono fun e w' ⟨he, hbl⟩ => ⟨_, he, ?_, ?_⟩
  · rw [hcl, List.getElem?_map, Option.map_eq_some_iff] at hj
    obtain ⟨n, hn, rfl⟩ := hj
    have := e1 n (List.mem_of_getElem? hn)
    simp [UInt8.toNat_ofNat']
    omega
  · simp only [VR]
    rw [hcl]
    congr 1
    split <;> omega
  · exact ⟨hbl.size, hbl.os, hbl.tape, hbl.output, hbl.block⟩
end
end Go.Mx
