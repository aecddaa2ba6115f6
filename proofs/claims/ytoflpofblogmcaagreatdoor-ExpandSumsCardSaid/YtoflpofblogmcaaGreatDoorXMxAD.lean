/-
  A part of a small executor of the model, proved sound (24 of 34). No condition.
-/
import Derived.Test.YtoflpofblogmcaaGreatDoorXMxAB
import Derived.Test.YtoflpofblogmcaaGreatDoorXMxN
namespace Go.Mx
open Instr Builtin RowKit
noncomputable section
variable {P : Program} {ρ : Ren} {h : T O} {nx : Nat} {w : World} {ng : Nat}
def noSet (cs : List Nat) (y : V) : Bool := List.rec (motive := fun _ => Bool) true (fun n _ ih => ite1 (pieceNo n y) ih) cs
def hitSet (cs : List Nat) (y : V) : Bool := V.rec (motive := fun _ => Bool) (false) (fun _ _ _ _ => false) (fun _ => false) (fun _ n => List.rec (motive := fun _ => Bool) false (fun m _ ih => Bool.rec ih true (ieq n (Int.ofNat m))) cs) (fun _ => false) (fun _ _ => false) (false) (fun _ _ _ _ => false) (false) (false) (false) (fun _ => false) (false) (fun _ _ _ => false) (false) (fun _ _ _ => false) (false) (fun _ _ => false) (fun _ _ => false) (fun _ _ _ _ => false) (fun _ _ => false) (fun _ _ _ _ _ => false) (fun _ _ _ _ _ _ => false) y
theorem noSet_spec {y : V} {s : List UInt8} (hs : PR ρ y s) : ∀ {cs : List Nat}, noSet cs y = true → (∀ n ∈ cs, n < 256) → ∀ c ∈ s, (cs.map UInt8.ofNat).contains c = false := by
  intro cs
  induction cs with
  | nil => intro _ _ c _; rfl
  | cons n cs ih =>
    intro hk hb c hc
    obtain ⟨h1, h2⟩ := ite1_spec (show ite1 (pieceNo n y) (noSet cs y) = true from hk)
    have h3 := ih h2 (fun m hm => hb m (List.mem_cons_of_mem _ hm)) c hc
    have h4 := pieceNo_spec h1 hs c hc
    have h5 := u8_ne (hb n (List.mem_cons_self ..)) h4
    rw [List.map_cons, List.contains_cons, h3, h5]
    rfl
theorem hitSet_spec {cs : List Nat} {y : V} {s : List UInt8} (hk : hitSet cs y = true) (hs : PR ρ y s) : ∃ c, s = [c] ∧ (cs.map UInt8.ofNat).contains c = true := by
  cases y <;> first | exact Bool.noConfusion hk | skip
  case i kd n =>
    simp only [PR] at hs
    obtain ⟨_, c, rfl, rfl⟩ := hs
    refine ⟨c, rfl, ?_⟩
    have key : ∀ l : List Nat, (List.rec (motive := fun _ => Bool) false (fun m _ ih => Bool.rec ih true (ieq (c.toNat : Int) (Int.ofNat m))) l : Bool) = true → (l.map UInt8.ofNat).contains c = true := by
      intro l
      induction l with
      | nil => intro h; exact Bool.noConfusion h
      | cons m l ih =>
        intro h
        have h : (Bool.rec (List.rec (motive := fun _ => Bool) false (fun m _ ih => Bool.rec ih true (ieq (c.toNat : Int) (Int.ofNat m))) l) true (ieq (c.toNat : Int) (Int.ofNat m)) : Bool) = true := h
        rw [List.map_cons, List.contains_cons]
        cases e : ieq (c.toNat : Int) (Int.ofNat m) with
        | false => rw [e] at h; rw [ih h]; simp
        | true =>
          rw [ieq_eq] at e
          have e : (c.toNat : Int) = (m : Int) := by simpa using e
          have e : c.toNat = m := by omega
          have : (c == UInt8.ofNat m) = true := by rw [← e]; simp
          rw [this]
          rfl
    exact key cs hk
def idxG (cs : List Nat) (c : V) : V → (V → Bool) → Bool → Bool := chain (M := V → (V → Bool) → Bool → Bool) (fun _ _ d => d)
  (fun y _ ih S k d => Bool.rec (ite1 (hitSet cs y) (k S)) (lenE y S fun S' => ih S' k d) (noSet cs y)) c
theorem idxG_spec {cs : List Nat} (hb : ∀ n ∈ cs, n < 256) : ∀ {c S : V} {k : V → Bool} {d : Bool}, idxG cs c S k d = true → isC S →
    (∃ S', k S' = true ∧ ∀ ρ s n, RR ρ c s → LR ρ S n → ∃ (i : Nat) (x : UInt8), s[i]? = some x ∧ (cs.map UInt8.ofNat).contains x = true ∧ Lib.NoAny s (cs.map UInt8.ofNat) i ∧ LR ρ S' (n + i)) ∨
    (d = true ∧ ∀ ρ s, RR ρ c s → ∀ x ∈ s, (cs.map UInt8.ofNat).contains x = false) := by
  intro c
  induction c with
  | nil => intro S k d hk _; exact .inr ⟨hk, fun ρ s hs x hx => by simp only [RR] at hs; subst hs; cases hx⟩
  | cons y r _ ih =>
    intro S k d hk hc
    have hk : (Bool.rec (ite1 (hitSet cs y) (k S)) (lenE y S fun S' => idxG cs r S' k d) (noSet cs y) : Bool) = true := hk
    cases e : noSet cs y with
    | false =>
      rw [e] at hk
      obtain ⟨h1, h2⟩ := ite1_spec hk
      refine .inl ⟨S, h2, fun ρ s n hs hn => ?_⟩
      simp only [RR] at hs
      obtain ⟨s1, s2, p1, p2, rfl⟩ := hs
      obtain ⟨x, rfl, hx⟩ := hitSet_spec h1 p1
      exact ⟨0, x, rfl, hx, fun j b hj => by omega, by simpa using hn⟩
    | true =>
      rw [e] at hk
      replace hk := lenE_spec hk hc
      obtain ⟨S', hk, hc', hS'⟩ := hk
      rcases ih hk hc' with ⟨S2, h1, h2⟩ | ⟨h1, h2⟩
      · refine .inl ⟨S2, h1, fun ρ s n hs hn => ?_⟩
        simp only [RR] at hs
        obtain ⟨s1, s2, p1, p2, rfl⟩ := hs
        obtain ⟨i, x, q1, q2, q3, q4⟩ := h2 ρ s2 _ p2 (hS' ρ n s1 hn p1)
        refine ⟨s1.length + i, x, ?_, q2, fun j b hj hjb => ?_, ?_⟩
        · rw [List.getElem?_append_right (by omega)]
          simpa using q1
        · by_cases hlt : j < s1.length
          · rw [List.getElem?_append_left hlt] at hjb
            exact noSet_spec p1 e hb b (List.mem_of_getElem? hjb)
          · rw [List.getElem?_append_right (by omega)] at hjb
            exact q3 (j - s1.length) b (by omega) hjb
        · have : n + ((s1.length + i : Nat) : Int) = n + s1.length + i := by omega
          rw [this]
          exact q4
      · refine .inr ⟨h1, fun ρ s hs x hx => ?_⟩
        simp only [RR] at hs
        obtain ⟨s1, s2, p1, p2, rfl⟩ := hs
        rcases List.mem_append.1 hx with hx | hx
        · exact noSet_spec p1 e hb x hx
        · exact h2 ρ s2 p2 x hx
  | _ => intro S k d hk _; exact .inr ⟨hk, fun ρ s hs => by simp only [RR] at hs⟩
def ansK (cs : List Nat) (c : V) (K : V → Bool) : Bool := idxG cs c .nil (fun S => mkR 3 S K) (K (.i .i64 (Int.negSucc 0)))
theorem ansK_spec {cs : List Nat} (hb : ∀ n ∈ cs, n < 256) {c : V} {K : V → Bool} (hk : ansK cs c K = true) : ∃ y, K y = true ∧ ∀ ρ s, RR ρ c s → VR ρ y (.int .i64 (Lib.indexAny s (cs.map UInt8.ofNat))) := by
  rcases idxG_spec hb hk (show isC .nil from trivial) with ⟨S, h1, h2⟩ | ⟨h1, h2⟩
  · obtain ⟨y, h3, h4⟩ := mkR_spec h1
    refine ⟨y, h3, fun ρ s hs => ?_⟩
    obtain ⟨i, x, q1, q2, q3, q4⟩ := h2 ρ s 0 hs (by simp only [LR])
    rw [Lib.indexAny_hit q3 q1 q2]
    have := (h4 ρ _ q4).1
    rw [Int.zero_add] at this
    exact this
  · refine ⟨_, h1, fun ρ s hs => ?_⟩
    rw [Lib.indexAny_none fun j b _ hjb => h2 ρ s hs b (List.mem_of_getElem? hjb)]
    exact VRi _ _ _
def hkIndexByteP : HookF := fun args h nx K => arg0 args fun x r => arg0 r fun y r' => chain (M := Bool) (ropK x fun c => vI y fun kd n => ite1 (keq kd .u8) <| Int.rec (motive := fun _ => Bool) (fun m => ite1 (Nat.blt m 256) <| ansK [m] c fun v => K v h nx) (fun _ => false) n) (fun _ _ _ => false) r'
theorem hkIndexByteP_ok {g : Nat} {fn : Func} (hf : P.funcs[g]? = some fn) (hname : (fn.name == "runtime.NumGoroutine") = false) (hb : fn.body.isNone = true) (hn : Extern.findNext fn = none) (he : Extern.find fn = some Extern.BytealgIndexByte.indexByte) : HookOk P ng g hkIndexByteP := by
  intro args h nx K Kp hk ρ w vs s _ hv
  obtain ⟨x, r, rfl, hk2⟩ := arg0_spec hk
  obtain ⟨y, r', rfl, hk3⟩ := arg0_spec hk2
  simp only [VRs] at hv
  obtain ⟨v1, l1, rfl, h1, v2, l2, rfl, h2, h3⟩ := hv
  cases r' <;> first | (simp only [VRs] at h3; done) | exact Bool.noConfusion hk3 | skip
  simp only [VRs] at h3
  subst h3
  obtain ⟨c, hk4, hc⟩ := ropK_spec (show ropK x (fun c => vI y fun kd n => ite1 (keq kd .u8) <| Int.rec (motive := fun _ => Bool) (fun m => ite1 (Nat.blt m 256) <| ansK [m] c fun v => K v h nx) (fun _ => false) n) = true from hk3)
  obtain ⟨kd, n, rfl, hk5⟩ := vI_spec (v := y) hk4
  obtain ⟨e1, hk6⟩ := ite1_spec hk5
  have e1 := keq_eq e1
  subst e1
  cases n with
  | negSucc n => exact Bool.noConfusion hk6
  | ofNat n =>
    obtain ⟨e2, hk7⟩ := ite1_spec (show ite1 (Nat.blt n 256) (ansK [n] c fun v => K v h nx) = true from hk6)
    have e2 := Nat.blt_eq.mp e2
    obtain ⟨z, hk8, hz⟩ := ansK_spec (cs := [n]) (fun m hm => by rw [List.mem_singleton] at hm; omega) hk7
    simp only [VR] at h2
    subst h2
    obtain ⟨b, rfl, hb2⟩ := hc ρ _ h1
    have hr := Lib.run_indexByteString (P := P) b (n : Int) w
    have e : ((n : Int).toNat.toUInt8) = UInt8.ofNat n := by simp
    rw [e, ← Lib.indexAny_one] at hr
    exact UponOK.val (upon_extern hf hname hb hn he hr) (hz ρ _ hb2) s (Ext.refl _ _ _) hk8
def asc7R (c : V) : Bool := chain true (fun y _ ih => Bool.rec false ih (V.rec (motive := fun _ => Bool) (false) (fun _ _ _ _ => false) (fun _ => false) (fun _ n => ilt n (Int.ofNat 128)) (fun _ => false) (fun _ _ => false) (false) (fun _ _ _ _ => false) (false) (false) (false) (fun _ => false) (false) (fun _ _ _ => false) (false) (fun _ _ _ => false) (false) (fun _ _ => false) (fun _ _ => false) (fun _ _ _ hi => Nat.blt hi 128) (fun _ _ => false) (fun _ _ _ _ _ => false) (fun t l _ _ _ _ => ite1 (Nat.beq t 1) <| mskIn 0 127 (mskV l)) y)) c
theorem asc7R_spec : ∀ {c : V} {s : List UInt8}, asc7R c = true → RR ρ c s → ∀ d ∈ s, d.toNat < 128 := by
  intro c
  induction c with
  | nil => intro s _ hs d hd; simp only [RR] at hs; subst hs; cases hd
  | cons y r ihy ih =>
    clear ihy
    intro s hk hs d hd
    simp only [RR] at hs
    obtain ⟨s1, s2, h1, h2, rfl⟩ := hs
    have fin : asc7R r = true → (∀ d ∈ s1, d.toNat < 128) → d.toNat < 128 := fun hk hh => by
      rcases List.mem_append.1 hd with hd | hd
      · exact hh d hd
      · exact ih hk h2 d hd
    cases y <;> first | exact Bool.noConfusion hk | skip
    case i kd n =>
      have hk2 : (Bool.rec false (asc7R r) (ilt n (Int.ofNat 128)) : Bool) = true := hk
      cases e : ilt n (Int.ofNat 128) with
      | false => rw [e] at hk2; exact Bool.noConfusion hk2
      | true =>
        rw [e] at hk2
        have e := ilt_spec e
        simp only [PR] at h1
        obtain ⟨_, c, rfl, rfl⟩ := h1
        refine fin hk2 fun d hd => ?_
        rw [List.mem_singleton] at hd
        subst hd
        have z : Int.ofNat 128 = (128 : Int) := rfl
        omega
    case x a kd l u =>
      have hk2 : (Bool.rec false (asc7R r) (Nat.blt u 128) : Bool) = true := hk
      cases e : Nat.blt u 128 with
      | false => rw [e] at hk2; exact Bool.noConfusion hk2
      | true =>
        rw [e] at hk2
        have e := Nat.blt_eq.mp e
        simp only [PR] at h1
        obtain ⟨_, c, L, rfl, _, q1, q2, q3⟩ := h1
        refine fin hk2 fun d hd => ?_
        rw [List.mem_singleton] at hd
        subst hd
        omega
    case o t l a pl ph =>
      have hk2 : (Bool.rec false (asc7R r) (ite1 (Nat.beq t 1) <| mskIn 0 127 (mskV l)) : Bool) = true := hk
      cases e : ite1 (Nat.beq t 1) (mskIn 0 127 (mskV l)) with
      | false => rw [e] at hk2; exact Bool.noConfusion hk2
      | true =>
        rw [e] at hk2
        obtain ⟨e1, e2⟩ := ite1_spec e
        have e1 := beq_spec e1
        simp only [PR] at h1
        rcases h1 with ⟨_, L, _, _, _, _, q2, _⟩ | ⟨z, _⟩
        · exact fin hk2 fun d hd => by have := mskIn_spec e2 d (q2 d hd); omega
        · omega
  | _ => intro s _ hs; simp only [RR] at hs
def hkIndexAnyP : HookF := fun args h nx K => arg0 args fun x r => arg0 r fun y r' => chain (M := Bool) (ropK x fun c => vS y fun cs => ite1 (ascB cs) <| ite1 (asc7R c) <| slenK cs 0 fun m => ite1 (Nat.ble m 1000) <| atMost c 1000000 fun _ => ansK cs c fun v => K v h nx) (fun _ _ _ => false) r'
theorem hkIndexAnyP_ok (hn : NameOK P) {g : Nat} {fn : Func} {cd : Code} (hf : P.funcs[g]? = some fn) (hb : fn.body = some cd)
    (hc : ∀ (s chars : ByteArray) (w : World), s.size < 4294967281 → chars.size < 4294967281 → (∀ (j : Nat) b, s.data.toList[j]? = some b → b.toNat < 128) → (∀ (j : Nat) b, chars.data.toList[j]? = some b → b.toNat < 128) →
      Calls P g #[.string s, .string chars] w fun e w' => e = .returned (.int .i64 (Lib.indexAny s.data.toList chars.data.toList)) ∧ Below w.heap.size w w') : HookOk P ng g hkIndexAnyP := by
  intro args h nx K Kp hk ρ w vs s _ hv
  obtain ⟨x, r, rfl, hk2⟩ := arg0_spec hk
  obtain ⟨y, r', rfl, hk3⟩ := arg0_spec hk2
  simp only [VRs] at hv
  obtain ⟨v1, l1, rfl, h1, v2, l2, rfl, h2, h3⟩ := hv
  cases r' <;> first | (simp only [VRs] at h3; done) | exact Bool.noConfusion hk3 | skip
  simp only [VRs] at h3
  subst h3
  obtain ⟨c, hk4, hcr⟩ := ropK_spec (show ropK x (fun c => vS y fun cs => ite1 (ascB cs) <| ite1 (asc7R c) <| slenK cs 0 fun m => ite1 (Nat.ble m 1000) <| atMost c 1000000 fun _ => ansK cs c fun v => K v h nx) = true from hk3)
  obtain ⟨b, rfl, hrr⟩ := hcr ρ _ h1
  obtain ⟨cs, rfl, hk5⟩ := vS_spec (v := y) hk4
  simp only [VR] at h2
  obtain ⟨rfl, hcs⟩ := h2
  obtain ⟨e1, hk6⟩ := ite1_spec hk5
  have e1 := ascB_spec e1
  obtain ⟨e2, hk7⟩ := ite1_spec hk6
  have e2 := asc7R_spec e2 hrr
  rw [slenK_eq, Nat.zero_add] at hk7
  obtain ⟨e3, hk8⟩ := ite1_spec hk7
  have e3 := Nat.le_of_ble_eq_true e3
  obtain ⟨_, hk9, hmost⟩ := atMost_spec hk8
  have hlen := (hmost ρ _ hrr).2
  obtain ⟨z, hk10, hz⟩ := ansK_spec hcs hk9
  have hcl : (bs cs).data.toList = cs.map UInt8.ofNat := by simp [bs]
  have hsz : b.size = b.data.toList.length := rfl
  refine upon_of_calls hn hf hb (y := z) ?_ s hk10
  refine (hc b (bs cs) w (by omega) (by rw [bs_size]; omega) (fun j d hj => e2 d (List.mem_of_getElem? hj)) (fun j d hj => ?_)).mono fun e w' ⟨he, hbl⟩ => ⟨_, he, ?_, ?_⟩
  · rw [hcl, List.getElem?_map, Option.map_eq_some_iff] at hj
    obtain ⟨n, hn, rfl⟩ := hj
    have := e1 n (List.mem_of_getElem? hn)
    simp [UInt8.toNat_ofNat']
    omega
  · rw [hcl]
    exact hz ρ _ hrr
  · exact ⟨hbl.size, hbl.os, hbl.tape, hbl.output, hbl.block⟩
end
end Go.Mx
namespace Go.Mx
open Instr Builtin
noncomputable section
variable {P : Program} {ρ : Ren} {h : T O} {nx : Nat} {w : World} {ng : Nat}
def preV (pre : List Nat) (r : V) : V := List.rec (motive := fun _ => V) r (fun b _ ih => .cons (.i .u8 (Int.ofNat b)) ih) pre
theorem preV_RR {r : V} {s : List UInt8} (hr : RR ρ r s) : ∀ {pre : List Nat}, (∀ n ∈ pre, n < 256) → RR ρ (preV pre r) (pre.map UInt8.ofNat ++ s) := by
  intro pre
  induction pre with
  | nil => intro _; exact hr
  | cons b pre ih =>
    intro hb
    show RR ρ (.cons (.i .u8 (Int.ofNat b)) (preV pre r)) _
    simp only [RR]
    refine ⟨[UInt8.ofNat b], _, ?_, ih fun n hn => hb n (List.mem_cons_of_mem _ hn), by simp⟩
    simp only [PR]
    refine ⟨trivial, _, rfl, ?_⟩
    have := hb b (List.mem_cons_self ..)
    show (b : Int) = _
    simp [UInt8.toNat_ofNat', Nat.mod_eq_of_lt this]
def matchP (pre : List Nat) : V → (V → Bool) → Bool := List.rec (motive := fun _ => V → (V → Bool) → Bool) (fun r k => k r) (fun b _ ih r k => arg0 r fun y r' => vI y fun _ n => ite1 (ieq n (Int.ofNat b)) <| ih r' k) pre
theorem matchP_spec : ∀ {pre : List Nat} {r : V} {k : V → Bool}, matchP pre r k = true → ∃ r', k r' = true ∧ ∀ ρ s, RR ρ r s → ∃ s', RR ρ r' s' ∧ s = pre.map UInt8.ofNat ++ s' := by
  intro pre
  induction pre with
  | nil => intro r k hk; exact ⟨r, hk, fun ρ s hs => ⟨s, hs, rfl⟩⟩
  | cons b pre ih =>
    intro r k hk
    replace hk := arg0_spec (show arg0 r (fun y r' => vI y fun _ n => ite1 (ieq n (Int.ofNat b)) <| matchP pre r' k) = true from hk)
    obtain ⟨y, r1, rfl, hk⟩ := hk
    replace hk := vI_spec hk
    obtain ⟨kd, n, rfl, hk⟩ := hk
    replace hk := ite1_spec hk
    obtain ⟨e, hk⟩ := hk
    obtain ⟨r', h1, h2⟩ := ih hk
    refine ⟨r', h1, fun ρ s hs => ?_⟩
    simp only [RR] at hs
    obtain ⟨s1, s2, p1, p2, rfl⟩ := hs
    obtain ⟨s', q1, rfl⟩ := h2 ρ s2 p2
    simp only [PR] at p1
    obtain ⟨_, c, rfl, rfl⟩ := p1
    rw [ieq_eq] at e
    have e : (c.toNat : Int) = (b : Int) := by simpa using e
    have e : c.toNat = b := by omega
    refine ⟨s', q1, ?_⟩
    rw [← e]
    simp
def folV (fol : Option Nat) (a : Nat) : V := Option.rec (motive := fun _ => V) .nil (fun f => .cons (.i .u8 (Int.ofNat f)) (.cons (anyP a) .nil)) fol
def folT (fol : Option Nat) (r : V) (k : Bool) : Bool := Option.rec (motive := fun _ => Bool) (chain (M := Bool) k (fun _ _ _ => false) r) (fun f => arg0 r fun y _ => vI y fun _ n => ite1 (ieq n (Int.ofNat f)) k) fol
theorem folT_spec {fol : Option Nat} {r : V} {k : Bool} (hk : folT fol r k = true) : k = true ∧ ∀ ρ s, RR ρ r s → ∃ s4 : List UInt8, s4.length ≤ s.length ∧ ∀ (ρ' : Ren) (a : Nat), ρ' a = some ⟨0, enc s4, 0⟩ → s4.length ≤ 4611686018427387904 → RR ρ' (folV fol a) s := by
  cases fol with
  | none =>
    have hk : (chain (M := Bool) k (fun _ _ _ => false) r) = true := hk
    cases r <;> first | exact Bool.noConfusion hk | skip
    case nil => exact ⟨hk, fun ρ s hs => ⟨[], Nat.zero_le _, fun ρ' a _ _ => by simp only [RR] at hs; subst hs; show RR ρ' .nil []; simp only [RR]⟩⟩
    all_goals exact ⟨hk, fun ρ s hs => by simp only [RR] at hs⟩
  | some f =>
    replace hk := arg0_spec (show arg0 r (fun y _ => vI y fun _ n => ite1 (ieq n (Int.ofNat f)) k) = true from hk)
    obtain ⟨y, r', rfl, hk⟩ := hk
    replace hk := vI_spec hk
    obtain ⟨kd, n, rfl, hk⟩ := hk
    replace hk := ite1_spec hk
    obtain ⟨e, hk⟩ := hk
    refine ⟨hk, fun ρ s hs => ?_⟩
    simp only [RR] at hs
    obtain ⟨s1, s2, p1, p2, rfl⟩ := hs
    simp only [PR] at p1
    obtain ⟨_, c, rfl, rfl⟩ := p1
    rw [ieq_eq] at e
    have e : (c.toNat : Int) = (f : Int) := by simpa using e
    have e : f = c.toNat := by omega
    refine ⟨s2, by simp, fun ρ' a ha hl => ?_⟩
    show RR ρ' (.cons (.i .u8 (Int.ofNat f)) (.cons (anyP a) .nil)) _
    simp only [RR]
    refine ⟨[c], s2, ?_, ⟨s2, [], anyP_PR ha hl, rfl, (List.append_nil _).symm⟩, rfl⟩
    simp only [PR]
    exact ⟨trivial, c, rfl, by rw [e]; rfl⟩
theorem RR_cat {r : V} {t : List UInt8} (lo hi : Nat) (hr : RR ρ r t) : ∀ (bl : List UInt8) (i : Nat), (∀ c ∈ bl, lo ≤ c.toNat ∧ c.toNat ≤ hi) → (∀ j c, bl[j]? = some c → ρ (i + j) = some ⟨0, c.toNat, 0⟩) → RR ρ (atomsV lo hi bl.length i r) (bl ++ t)
  | [], _, _, _ => hr
  | c :: bl, i, h1, h2 => by
    have ih := RR_cat lo hi hr bl (i + 1) (fun d hd => h1 d (List.mem_cons_of_mem _ hd)) (fun j d hj => by
      have := h2 (j + 1) d (by simpa using hj)
      rwa [show i + (j + 1) = i + 1 + j by omega] at this)
    have h3 := h1 c (List.mem_cons_self ..)
    show RR ρ (.cons (.x i .u8 lo hi) (atomsV lo hi bl.length (i + 1) r)) (c :: (bl ++ t))
    simp only [RR]
    refine ⟨[c], _, ?_, ih, rfl⟩
    simp only [PR]
    exact ⟨trivial, c, _, rfl, h2 0 c rfl, h3.1, h3.2, rfl⟩
def tokT (ng lo hi n : Nat) (pre : List Nat) (fol : Option Nat) : V := .cons (anyP (ng + 1)) (preV pre (atomsV lo hi n (ng + 3) (folV fol (ng + 2))))
def tokO (ng lo hi n : Nat) (pre : List Nat) (fol : Option Nat) (ty : Nat) : List (Nat × O) := [(ng, .c (.cons (.o 0 (tokT ng lo hi n pre fol) 0 0 0) (.cons (cntB (ng + 1)) (.cons (.i .i64 (Int.ofNat 0)) .nil))) ty true)]
def partC (t : V) : V := .cons (.i .i64 (Int.ofNat 1)) (.cons t (.cons (.s []) (.cons (.s []) (.cons .sn (.cons (.b false) .nil)))))
def slD (v : V) (k : Nat → Bool) : Bool := V.rec (motive := fun _ => Bool) (false) (fun _ _ _ _ => false) (fun _ => false) (fun _ _ => false) (fun _ => false) (fun _ _ => false) (false) (fun id off len sz => ite1 (Nat.beq off 0) <| ite1 (Nat.beq len 1) <| ite1 (Nat.beq sz 6) <| k id) (false) (false) (false) (fun _ => false) (false) (fun _ _ _ => false) (false) (fun _ _ _ => false) (false) (fun _ _ => false) (fun _ _ => false) (fun _ _ _ _ => false) (fun _ _ => false) (fun _ _ _ _ _ => false) (fun _ _ _ _ _ _ => false) v
theorem slD_spec {v : V} {k : Nat → Bool} (hk : slD v k = true) : ∃ id, v = .sl id 0 1 6 ∧ k id = true := by
  cases v <;> first | exact Bool.noConfusion hk | skip
  case sl id off len sz =>
    replace hk := ite1_spec (show ite1 (Nat.beq off 0) (ite1 (Nat.beq len 1) <| ite1 (Nat.beq sz 6) <| k id) = true from hk)
    obtain ⟨e1, hk⟩ := hk
    replace hk := ite1_spec hk
    obtain ⟨e2, hk⟩ := hk
    replace hk := ite1_spec hk
    obtain ⟨e3, hk⟩ := hk
    have e1 := beq_spec e1
    have e2 := beq_spec e2
    have e3 := beq_spec e3
    subst e1
    subst e2
    subst e3
    exact ⟨id, rfl, hk⟩
def tokK (ng lo hi n : Nat) (pre : List Nat) (fol : Option Nat) (ty tyP : Nat) : KV := fun v h1 _ => vA v fun c => arg0 c fun k1 c => arg0 c fun t1 c => arg0 c fun w1 c => ite1 (sameV c .nil) <| ite1 (sameV k1 (.i .i64 (Int.ofNat 1))) <| ite1 (sameV t1 (.s [])) <| slD w1 fun id => ite1 (inot (Nat.beq id ng)) <|
  oC (gt O.none id h1) fun c ty1 wr => ite1 wr <| ite1 (Nat.beq ty1 tyP) <| arg0 c fun k2 c => arg0 c fun t2 c => ite1 (sameV k2 (.i .i64 (Int.ofNat 1))) <| ite1 (sameV c (.cons (.s []) (.cons (.s []) (.cons .sn (.cons (.b false) .nil))))) <| ropK t2 fun d => ite1 (sameV d (preV pre (atomsV lo hi n (ng + 3) .nil))) <|
  oC (gt O.none ng h1) fun c ty2 wr2 => ite1 wr2 <| ite1 (Nat.beq ty2 ty) <| arg0 c fun s2 c => arg0 c fun i2 c => ite1 (sameV s2 (.o 0 (tokT ng lo hi n pre fol) 0 0 0)) <| ite1 (sameV c (.cons (.i .i64 (Int.ofNat 0)) .nil)) <|
  linK i2 fun kd S => ite1 (Nat.beq kd 3) <| addLK (Int.negSucc 0) (.cons (anyP (ng + 1)) .nil) S fun D => cstK D (fun q => ieq q (Int.ofNat (Nat.add pre.length n))) false
def addN (m : Nat) (S : V) (k : V → Bool) : Bool := Nat.rec (motive := fun _ => Bool) (k S) (fun m' _ => insK oneV (Int.ofNat (Nat.succ m')) S k) m
theorem addN_spec {m : Nat} {S : V} {k : V → Bool} (hk : addN m S k = true) (hc : isC S) : ∃ r, k r = true ∧ ∀ ρ n, LR ρ S n → LR ρ r (n + m) := by
  cases m with
  | zero => exact ⟨S, hk, fun ρ n hn => by simpa using hn⟩
  | succ m =>
    obtain ⟨r, h1, _, h2⟩ := insK_spec (show insK oneV (Int.ofNat (Nat.succ m)) S k = true from hk) hc
    refine ⟨r, h1, fun ρ n hn => ?_⟩
    have := h2 ρ n 1 hn (MR_one ρ)
    rwa [Int.mul_one] at this
def tokB (l : List (Nat × V)) (ng lo hi M B tyS tyP : Nat) (pre : List Nat) (fol : Option Nat) (args : V) (h : T O) (nx : Nat) (K : KV) : Bool := arg0 args fun p r => ite1 (sameV r .nil) <| vP p fun id off => ite1 (Nat.beq off 0) <| ite1 (Nat.ble ng id) <| oC (gt O.none id h) fun cs ty wr => ite1 wr <| ite1 (Nat.beq ty tyS) <| arg0 cs fun sV c2 => arg0 c2 fun iV c3 => ite1 (sameV c3 (.cons (.i .i64 (Int.ofNat 0)) .nil)) <|
  ropK sV fun R => linK iV fun kd S => ite1 (Nat.beq kd 3) <| atMost R 4611686018427387904 fun _ => splS S fun n ls => dropL R n ls (fun r => matchP pre r fun r1 => arg0 r1 fun y r2 => ite1 (allIn lo hi M (.cons y .nil)) <| atMost (.cons y .nil) B fun _ => minOne (preV pre (.cons y .nil)) <| folT fol r2 <|
  lenE y S fun S1 => addN pre.length S1 fun S2 => mkR 3 S2 fun i2 => hasT l h <| strR (preV pre (.cons y .nil)) fun tV => stK O.none (.c (.cons sV (.cons i2 (.cons (.i .i64 (Int.ofNat 0)) .nil))) ty true) id h fun h1 => stK O.none (.c (partC tV) tyP true) nx h1 fun h2 =>
  K (.a (.cons (.i .i64 (Int.ofNat 1)) (.cons (.s []) (.cons (.sl nx 0 1 6) .nil)))) h2 (Nat.succ nx)) false
def hkTok (l : List (Nat × V)) (ng lo hi M B tyS tyP : Nat) (pre : List Nat) (fol : Option Nat) (e : HookF) : HookF := fun args h nx K => Bool.rec (e args h nx K) (tokB l ng lo hi M B tyS tyP pre fol args h nx K) (tokB l ng lo hi M B tyS tyP pre fol args h nx fun _ _ _ => true)
def tokR (ng : Nat) (L : Loc) (s0 sy s4 : List UInt8) : Ren := fun i => if i = ng then some L else if i = ng + 1 then some ⟨0, enc s0, 0⟩ else if i = ng + 2 then some ⟨0, enc s4, 0⟩ else if i < ng then none else (sy[i - (ng + 3)]?).map fun c => ⟨0, c.toNat, 0⟩
theorem tokR_eq (ng : Nat) (L : Loc) (s0 sy s4 : List UInt8) (i : Nat) : tokR ng L s0 sy s4 i = if i = ng then some L else if i = ng + 1 then some ⟨0, enc s0, 0⟩ else if i = ng + 2 then some ⟨0, enc s4, 0⟩ else if i < ng then none else (sy[i - (ng + 3)]?).map fun c => ⟨0, c.toNat, 0⟩ := rfl
theorem minOne_pos {c : V} {k : Bool} (hk : minOne c k = true) : k = true := (minOne_spec hk).1
theorem hkTok_ok {R : CK} (hR : CKok P ng R) {g : Nat} {l : List (Nat × V)} {lo hi M B tyS tyP : Nat} {pre : List Nat} {fol : Option Nat} {e : HookF} (he : HookOk P ng g e) (hl : inT ng l = true) (hM : mskIn lo hi M = true) (hpre : ∀ n ∈ pre, n < 256)
    (hrun : ∀ n, n ≤ B → 1 ≤ pre.length + n → ∀ τ : Nat → Nat, mkTK τ l (putO (tokO ng lo hi n pre fol tyS) .leaf) (fun h0 => R g (.cons (.p ng 0) .nil) h0 (ng + 3 + n) (tokK ng lo hi n pre fol tyS tyP) (fun _ _ _ => false)) = true) : HookOk P ng g (hkTok l ng lo hi M B tyS tyP pre fol e) := by
  intro args h nx K Kp hk ρ w vs s hg hvs
  have hk0 : (Bool.rec (e args h nx K) (tokB l ng lo hi M B tyS tyP pre fol args h nx K) (tokB l ng lo hi M B tyS tyP pre fol args h nx fun _ _ _ => true) : Bool) = true := hk
  clear hk
  generalize (tokB l ng lo hi M B tyS tyP pre fol args h nx fun _ _ _ => true) = q at hk0
  cases q with
  | false => exact he args h nx K Kp hk0 ρ w vs s hg hvs
  | true =>
  have hk : tokB l ng lo hi M B tyS tyP pre fol args h nx K = true := hk0
  clear hk0
  unfold tokB at hk
  replace hk := arg0_spec hk
  obtain ⟨p, r0, rfl, hk⟩ := hk
  replace hk := ite1_spec hk
  obtain ⟨e1, hk⟩ := hk
  have e1 := sameV_eq e1
  subst e1
  replace hk := vP_spec hk
  obtain ⟨id, off, rfl, hk⟩ := hk
  replace hk := ite1_spec hk
  obtain ⟨e2, hk⟩ := hk
  have e2 := beq_spec e2
  subst e2
  replace hk := ite1_spec hk
  obtain ⟨e3, hk⟩ := hk
  have e3 := Nat.ble_eq.mp e3
  replace hk := oC_spec hk
  obtain ⟨cs, ty, wr, ho, hk⟩ := hk
  replace hk := ite1_spec hk
  obtain ⟨e4, hk⟩ := hk
  subst e4
  replace hk := ite1_spec hk
  obtain ⟨e9, hk⟩ := hk
  have e9 := beq_spec e9
  subst e9
  replace hk := arg0_spec hk
  obtain ⟨sV, c2, rfl, hk⟩ := hk
  replace hk := arg0_spec hk
  obtain ⟨iV, c3, rfl, hk⟩ := hk
  replace hk := ite1_spec hk
  obtain ⟨e5, hk⟩ := hk
  have e5 := sameV_eq e5
  subst e5
  replace hk := ropK_spec hk
  obtain ⟨T, hk, hT⟩ := hk
  replace hk := linK_spec hk
  obtain ⟨kd, S, hk, hS⟩ := hk
  replace hk := ite1_spec hk
  obtain ⟨e6, hk⟩ := hk
  have e6 := beq_spec e6
  subst e6
  replace hk := atMost_spec hk
  obtain ⟨_, hk, hmost⟩ := hk
  simp only [VRs] at hvs
  obtain ⟨v1, vr, rfl, hv1, rfl⟩ := hvs
  simp only [VR] at hv1
  obtain ⟨L, hL, rfl⟩ := hv1
  obtain ⟨o0, ho1, arr, fz, ho2, q2, q3, q4, q5⟩ := s.relC ho hL
  simp only [CR] at q5
  obtain ⟨x1, xs1, f1, hx1, x2, xs2, f2, hx2, x3, xs3, f3, hx3, _⟩ := q5
  obtain ⟨b, rfl, hrr⟩ := hT ρ x1 hx1
  obtain ⟨n0, hSn, rfl⟩ := hS ρ x2 hx2
  have hlen := (hmost ρ _ hrr).2
  replace hk := splS_spec hk (LR_isC hSn)
  obtain ⟨n, ls, hk, hc, hnl⟩ := hk
  replace hk := dropL_spec hk (RR_isC hrr) hc
  rcases hk with hk | ⟨r, hk, _, hr⟩
  · exact Bool.noConfusion hk
  obtain ⟨uu, g1, g2⟩ := hnl ρ n0 hSn
  obtain ⟨j, q0, q1, hdr⟩ := hr ρ _ uu hrr g1
  have ej : n0 = (j : Int) := by omega
  subst ej
  replace hk := matchP_spec hk
  obtain ⟨r1, hk, hm1⟩ := hk
  obtain ⟨s1, hs1, hsp⟩ := hm1 ρ _ hdr
  replace hk := arg0_spec hk
  obtain ⟨y, r2, rfl, hk⟩ := hk
  simp only [RR] at hs1
  obtain ⟨sy, s3, hy, hr2, rfl⟩ := hs1
  have hyc : RR ρ (.cons y .nil) sy := by simp only [RR]; exact ⟨sy, [], hy, rfl, (List.append_nil _).symm⟩
  replace hk := ite1_spec hk
  obtain ⟨e7, hk⟩ := hk
  have hcls := allIn_spec hM e7 hyc
  replace hk := atMost_spec hk
  obtain ⟨_, hk, hmost2⟩ := hk
  have hsyl := (hmost2 ρ _ hyc).2
  replace hk := minOne_spec hk
  obtain ⟨hk, hone⟩ := hk
  have hone := hone ρ _ (preV_RR hyc hpre)
  rw [List.length_append, List.length_map] at hone
  replace hk := folT_spec hk
  obtain ⟨hk, hfol⟩ := hk
  obtain ⟨s4, hf0, hf1⟩ := hfol ρ _ hr2
  replace hk := lenE_spec hk (LR_isC hSn)
  obtain ⟨S1, hk, hcS1, hS1⟩ := hk
  replace hk := addN_spec hk hcS1
  obtain ⟨S2, hk, hS2⟩ := hk
  replace hk := mkR_spec hk
  obtain ⟨i2, hk, hi2⟩ := hk
  replace hk := hasT_spec hk
  obtain ⟨hk, htab⟩ := hk
  replace hk := strR_spec hk (RR_isC (preV_RR hyc hpre))
  obtain ⟨tV, hk, htV⟩ := hk
  rw [stK_eq, stK_eq] at hk
  have hi2 := (hi2 ρ _ (hS2 ρ _ (hS1 ρ _ sy hSn hy))).1
  have hL1 : b.data.toList = b.data.toList.take j ++ (pre.map UInt8.ofNat ++ (sy ++ s3)) := by rw [← hsp, List.take_append_drop]
  have htk : (b.data.toList.take j).length = j := by rw [List.length_take]; omega
  have hlen2 : b.data.toList.length = j + (pre.length + (sy.length + s3.length)) := by
    have := congrArg List.length hL1
    rw [List.length_append, List.length_append, List.length_append, List.length_map, htk] at this
    exact this
  have t0 : tokR ng L (b.data.toList.take j) sy s4 ng = some L := by simp [tokR]
  have t1 : tokR ng L (b.data.toList.take j) sy s4 (ng + 1) = some ⟨0, enc (b.data.toList.take j), 0⟩ := by rw [tokR_eq, if_neg (by omega), if_pos (by omega)]
  have t2 : tokR ng L (b.data.toList.take j) sy s4 (ng + 2) = some ⟨0, enc s4, 0⟩ := by rw [tokR_eq, if_neg (by omega), if_neg (by omega), if_pos (by omega)]
  have t3 : ∀ (k : Nat) (c : UInt8), sy[k]? = some c → tokR ng L (b.data.toList.take j) sy s4 (ng + 3 + k) = some ⟨0, c.toNat, 0⟩ := fun k c hc => by
    rw [tokR_eq, if_neg (by omega), if_neg (by omega), if_neg (by omega), if_neg (by omega), show ng + 3 + k - (ng + 3) = k by omega, hc]
    rfl
  have hs4 : s4.length ≤ 4611686018427387904 := by omega
  have p0 : PR (tokR ng L (b.data.toList.take j) sy s4) (anyP (ng + 1)) (b.data.toList.take j) := anyP_PR t1 (by omega)
  have pT : RR (tokR ng L (b.data.toList.take j) sy s4) (tokT ng lo hi sy.length pre fol) b.data.toList := by
    unfold tokT
    simp only [RR]
    exact ⟨_, _, p0, preV_RR (RR_cat lo hi (hf1 _ _ t2 hs4) sy (ng + 3) hcls t3) hpre, hL1⟩
  have pI : LR (tokR ng L (b.data.toList.take j) sy s4) (.cons (anyP (ng + 1)) .nil) (j : Int) := by
    simp only [LR]
    refine ⟨_, 0, ?_, rfl, (Int.add_zero _).symm⟩
    have := PR_MR (y := anyP (ng + 1)) rfl p0
    rwa [htk] at this
  have hg1 : ∀ i, gt O.none i (putO (tokO ng lo hi sy.length pre fol ty) .leaf) = if i = ng then .c (.cons (.o 0 (tokT ng lo hi sy.length pre fol) 0 0 0) (.cons (cntB (ng + 1)) (.cons (.i .i64 (Int.ofNat 0)) .nil))) ty true else .none := fun i => by
    show gt O.none i (st O.none _ ng .leaf) = _
    by_cases e : i = ng
    · subst e; rw [gt_st_same, if_pos rfl]
    · rw [gt_st_ne _ _ (Ne.symm e), if_neg e, gt_leaf]
  have hgl : ∀ i, (gt O.none i (putO (tokO ng lo hi sy.length pre fol ty) .leaf)).live → i = ng := fun i hi => by
    rw [hg1 i] at hi
    by_cases e : i = ng
    · exact e
    · rw [if_neg e] at hi; exact hi.elim
  have hidw : (gt O.none id h).wr := asC_wr ho
  obtain ⟨ρs, h0, hle, hwr, hsame, hSt, _, up⟩ := smallRun hR (A := .cons (.p ng 0) .nil) (vs := [.pointer (some ⟨L.blk, L.base + 0, none⟩)]) (ob := tokO ng lo hi sy.length pre fol ty) (N := ng + 3 + sy.length) hl s hg htab (ρb := tokR ng L (b.data.toList.take j) sy s4) (by omega)
    (fun i M' hi => by
      by_cases e : i < ng ∨ ng + 3 + sy.length ≤ i
      · have : tokR ng L (b.data.toList.take j) sy s4 i = none := by
          rw [tokR_eq, if_neg (by omega), if_neg (by omega), if_neg (by omega)]
          by_cases e2 : i < ng
          · rw [if_pos e2]
          · rw [if_neg e2, List.getElem?_eq_none (by omega)]
            rfl
        rw [this] at hi; cases hi
      · omega)
    (fun i hi => by
      have e := hgl i hi
      subst e
      refine ⟨Nat.le_refl _, by omega, fun M' hM' => ?_⟩
      have hLM : M' = L := by
        rw [t0] at hM'
        exact (Option.some.inj hM').symm
      subst hLM
      refine ⟨o0, ho1, ?_⟩
      rw [hg1 i, if_pos rfl]
      refine ⟨arr, fz, ho2, q2, q3, q4, ?_⟩
      simp only [CR]
      exact ⟨_, _, f1, VR_rope pT, _, _, f2, VR_lin pI, _, _, f3, by simpa only [VR] using hx3, trivial⟩)
    (fun i L1 hi hL1 => by
      have e := hgl i (O.live_of_wr hi)
      subst e
      have hLM : L1 = L := by
        rw [t0] at hL1
        exact (Option.some.inj hL1).symm
      subst hLM
      refine ⟨fun j' M' hj' _ _ => (hgl j' hj').symm, fun p hp M' hM' hbk => ?_⟩
      obtain ⟨ty', wr', ho'⟩ := htab p hp
      have := s.inj id p.1 _ M' hidw (asC_live ho') hL hM' hbk
      have := (inT_spec hl p hp).1
      omega)
    (by simp only [VRs]; exact ⟨_, _, rfl, by simp only [VR]; exact ⟨L, t0, rfl⟩, rfl⟩) (hrun sy.length hsyl (by omega))
  intro o a next Q h1 _
  refine up o a next Q (fun ρ' v h1' n1 val w' hv' hs' hx hky => ?_) (fun ρ' y h' nx' v w' _ _ _ hky => Bool.noConfusion hky)
  unfold tokK at hky
  replace hky := vA_spec hky
  obtain ⟨c, rfl, hky⟩ := hky
  replace hky := arg0_spec hky
  obtain ⟨k1, c, rfl, hky⟩ := hky
  replace hky := arg0_spec hky
  obtain ⟨tx1, c, rfl, hky⟩ := hky
  replace hky := arg0_spec hky
  obtain ⟨w1, c, rfl, hky⟩ := hky
  replace hky := ite1_spec hky
  obtain ⟨y1, hky⟩ := hky
  have y1 := sameV_eq y1
  subst y1
  replace hky := ite1_spec hky
  obtain ⟨y1, hky⟩ := hky
  have y1 := sameV_eq y1
  subst y1
  replace hky := ite1_spec hky
  obtain ⟨y1, hky⟩ := hky
  have y1 := sameV_eq y1
  subst y1
  replace hky := slD_spec hky
  obtain ⟨id', rfl, hky⟩ := hky
  replace hky := ite1_spec hky
  obtain ⟨y2, hky⟩ := hky
  have y2 : id' ≠ ng := Nat.ne_of_beq_eq_false (inot_cases y2)
  replace hky := oC_spec hky
  obtain ⟨c, ty1, wr1, ho3, hky⟩ := hky
  replace hky := ite1_spec hky
  obtain ⟨y1, hky⟩ := hky
  subst y1
  replace hky := ite1_spec hky
  obtain ⟨y1, hky⟩ := hky
  have y1 := beq_spec y1
  subst y1
  replace hky := arg0_spec hky
  obtain ⟨k2, c, rfl, hky⟩ := hky
  replace hky := arg0_spec hky
  obtain ⟨tx2, c, rfl, hky⟩ := hky
  replace hky := ite1_spec hky
  obtain ⟨y1, hky⟩ := hky
  have y1 := sameV_eq y1
  subst y1
  replace hky := ite1_spec hky
  obtain ⟨y1, hky⟩ := hky
  have y1 := sameV_eq y1
  subst y1
  replace hky := ropK_spec hky
  obtain ⟨d, hky, hd⟩ := hky
  replace hky := ite1_spec hky
  obtain ⟨y1, hky⟩ := hky
  have y1 := sameV_eq y1
  subst y1
  replace hky := oC_spec hky
  obtain ⟨c, ty2, wr2, ho4, hky⟩ := hky
  replace hky := ite1_spec hky
  obtain ⟨y1, hky⟩ := hky
  subst y1
  replace hky := ite1_spec hky
  obtain ⟨y1, hky⟩ := hky
  have y1 := beq_spec y1
  subst y1
  replace hky := arg0_spec hky
  obtain ⟨s2, c, rfl, hky⟩ := hky
  replace hky := arg0_spec hky
  obtain ⟨j2, c, rfl, hky⟩ := hky
  replace hky := ite1_spec hky
  obtain ⟨y1, hky⟩ := hky
  have y1 := sameV_eq y1
  subst y1
  replace hky := ite1_spec hky
  obtain ⟨y1, hky⟩ := hky
  have y1 := sameV_eq y1
  subst y1
  replace hky := linK_spec hky
  obtain ⟨kd2, S3, hky, hS3⟩ := hky
  replace hky := ite1_spec hky
  obtain ⟨y1, hky⟩ := hky
  have y1 := beq_spec y1
  subst y1
  simp only [VR] at hv'
  obtain ⟨vs', hvs', rfl⟩ := hv'
  simp only [VRs, VR] at hvs'
  obtain ⟨_, _, rfl, rfl, _, _, rfl, rfl', a3, as3, rfl, ⟨L', cap, hL', hcap, hfit, rfl⟩, rfl⟩ := hvs'
  have hρ'L : ρ' ng = some L := hx.le _ _ (by rw [hsame ng (Nat.le_refl _)]; exact t0)
  obtain ⟨o3, ho3a, arr3, fz3, ho3b, p2, p3, p4, p5⟩ := hs'.relC ho3 hL'
  obtain ⟨o4, ho4a, arr4, fz4, ho4b, u2, u3, u4, u5⟩ := hs'.relC ho4 hρ'L
  have w3 : (gt O.none id' h1').wr := asC_wr ho3
  have w4 : (gt O.none ng h1').wr := asC_wr ho4
  have hbk : L'.blk ≠ L.blk := fun e => y2 (hs'.inj id' ng L' L w3 (O.live_of_wr w4) hL' hρ'L e)
  have only : ∀ i L1, (gt O.none i h0).wr → ρs i = some L1 → L1 = L := fun i L1 hi hL1 => by
    have e := hgl i (O.live_of_wr (hwr i hi))
    subst e
    rw [hsame i (Nat.le_refl _), t0] at hL1
    exact (Option.some.inj hL1).symm
  have kept : ∀ q, q < w.heap.size → q ≠ L.blk → w'.heap[q]? = w.heap[q]? ∧ L'.blk ≠ q := fun q hq hne => by
    obtain ⟨k1, k2⟩ := hx.kept q hq fun i L1 hi hL1 => by rw [only i L1 hi hL1]; exact fun e => hne e.symm
    exact ⟨k1, k2 id' L' w3 hL'⟩
  have hLsz : L.blk < w.heap.size := (Array.getElem?_eq_some_iff.1 ho1).1
  have hnid : id < nx := Nat.lt_of_not_le fun hc => s.dead id hc (O.live_of_wr hidw)
  let ρN : Ren := fun i => if i = nx then some L' else ρ i
  have rN : ρN nx = some L' := by simp [ρN]
  have rO : ∀ {i : Nat}, i ≠ nx → ρN i = ρ i := fun {i} hi => by simp only [ρN, hi, if_false]
  have hleN : Ren.le ρ ρN := fun i L1 e => by
    have : i ≠ nx := fun e2 => by rw [s.fresh i (by omega)] at e; cases e
    rw [rO this]
    exact e
  have hat : ∀ i, gt O.none i (st O.none (.c (partC tV) ty1 true) nx (st O.none (.c (.cons sV (.cons i2 (.cons (.i .i64 (Int.ofNat 0)) .nil))) ty2 true) id h)) =
      if i = nx then .c (partC tV) ty1 true else if i = id then .c (.cons sV (.cons i2 (.cons (.i .i64 (Int.ofNat 0)) .nil))) ty2 true else gt O.none i h := fun i => by
    by_cases c1 : i = nx
    · subst c1; rw [gt_st_same, if_pos rfl]
    · rw [gt_st_ne _ _ (Ne.symm c1), if_neg c1]
      by_cases c2 : i = id
      · subst c2; rw [gt_st_same, if_pos rfl]
      · rw [gt_st_ne _ _ (Ne.symm c2), if_neg c2]
  have old : ∀ {i : Nat} {L1 : Loc}, i ≠ id → (gt O.none i h).live → ρ i = some L1 → L1.blk < w.heap.size ∧ L1.blk ≠ L.blk := fun {i L1} hi hl1 hL1 => by
    obtain ⟨o5, g5, _⟩ := s.rel i L1 hl1 hL1
    exact ⟨(Array.getElem?_eq_some_iff.1 g5).1, fun e => hi (s.inj id i L L1 hidw hl1 hL hL1 e.symm).symm⟩
  have live : ∀ {i : Nat}, (gt O.none i h).live → i ≠ nx := fun {i} hi e => s.dead i (by omega) hi
  refine h1 ρN _ _ (Nat.succ nx) _ w' ?_ ⟨fun i L1 hlv hL1 => ?_, fun i j' L1 M1 hi hj hL1 hM1 hb1 => ?_, fun i hi => ?_, fun i hi hl1 => ?_⟩ ⟨hleN, hx.size, hx.os, hx.tape, hx.output, fun q hq hw => ?_, fun i hi hn1 => ?_⟩ hk
  · simp only [VR]
    refine ⟨_, ?_, rfl⟩
    simp only [VRs, VR]
    exact ⟨_, _, rfl, rfl, _, _, rfl, rfl', _, _, rfl, ⟨L', cap, rN, hcap, hfit, rfl⟩, rfl⟩
  · rw [hat i] at hlv ⊢
    by_cases c1 : i = nx
    · subst c1
      rw [rN] at hL1
      have := Option.some.inj hL1
      subst this
      rw [if_pos rfl]
      refine ⟨o3, ho3a, arr3, fz3, ho3b, p2, p3, p4, ?_⟩
      simp only [CR] at p5
      obtain ⟨z1, zs1, m1, n1, z2, zs2, m2, n2, z3, zs3, m3, n3, z4, zs4, m4, n4, z5, zs5, m5, n5, z6, zs6, m6, n6, _⟩ := p5
      obtain ⟨bt, rfl, hbt⟩ := hd ρ' z2 n2
      have hw1 : RR ρ' (preV pre (atomsV lo hi sy.length (ng + 3) .nil)) (pre.map UInt8.ofNat ++ (sy ++ [])) :=
        preV_RR (RR_cat lo hi (by simp only [RR]) sy (ng + 3) hcls fun k c hc => hx.le _ _ (hle _ _ (t3 k c hc))) hpre
      have hbe := hbt.fn hw1
      rw [List.append_nil] at hbe
      simp only [partC, CR]
      refine ⟨_, _, m1, by simpa only [VR] using n1, _, _, m2, htV _ _ ?_, _, _, m3, by simpa only [VR] using n3, _, _, m4, by simpa only [VR] using n4, _, _, m5, by simpa only [VR] using n5, _, _, m6, by simpa only [VR] using n6, trivial⟩
      rw [hbe]
      exact preV_RR (hyc.mono hleN) hpre
    · rw [if_neg c1] at hlv ⊢
      rw [rO c1] at hL1
      by_cases c2 : i = id
      · subst c2
        rw [if_pos rfl]
        rw [hL] at hL1
        have := Option.some.inj hL1
        subst this
        refine ⟨o4, ho4a, arr4, fz4, ho4b, u2, u3, u4, ?_⟩
        simp only [CR] at u5
        obtain ⟨z1, zs1, m1, n1, z2, zs2, m2, n2, z3, zs3, m3, n3, _⟩ := u5
        obtain ⟨b2, rfl, hb2⟩ := rope_of rfl n1
        have hbe := hb2.fn (pT.mono (hle.trans hx.le))
        have hbb : b2 = b := bytesV_inj (by unfold bytesV; rw [hbe])
        subst hbb
        obtain ⟨nn, hnn, hvv⟩ := hS3 ρ' _ n2
        replace hky := addLK_spec hky (LR_isC hnn)
        obtain ⟨D, hky, _, hD⟩ := hky
        have hdn := hD ρ' nn _ hnn (pI.mono (hle.trans hx.le))
        obtain ⟨cc, hcc, hc2⟩ := (cstK_spec hky).resolve_right fun hcc => Bool.noConfusion hcc
        have h5 := hc2 ρ' _ hdn
        rw [ieq_eq] at hcc
        have hcc : cc = ((pre.length + sy.length : Nat) : Int) := by simpa using hcc
        have zz : (Int.negSucc 0) * (j : Int) = -(j : Int) := by
          have : (Int.negSucc 0 : Int) = -1 := rfl
          rw [this]; omega
        rw [zz] at h5
        have h6 : nn = (j : Int) + sy.length + pre.length := by omega
        simp only [CR]
        refine ⟨_, _, m1, hx1.mono hleN, _, _, m2, ?_, _, _, m3, by simpa only [VR] using n3, trivial⟩
        rw [hvv, h6]
        exact hi2.mono hleN
      · rw [if_neg c2] at hlv ⊢
        obtain ⟨o5, g5, g6⟩ := s.rel i L1 hlv hL1
        obtain ⟨k1, k2⟩ := old c2 hlv hL1
        exact ⟨o5, by rw [(kept _ k1 k2).1]; exact g5, g6.mono hleN⟩
  · rw [hat i] at hi
    rw [hat j'] at hj
    by_cases c1 : i = nx
    · subst c1
      rw [rN] at hL1
      have := Option.some.inj hL1
      subst this
      by_cases c2 : j' = i
      · exact c2.symm
      · rw [if_neg c2] at hj
        rw [rO c2] at hM1
        by_cases c3 : j' = id
        · subst c3
          rw [hL] at hM1
          have := Option.some.inj hM1
          subst this
          exact absurd hb1 hbk
        · rw [if_neg c3] at hj
          obtain ⟨k1, k2⟩ := old c3 hj hM1
          exact absurd hb1 (kept _ k1 k2).2
    · rw [if_neg c1] at hi
      rw [rO c1] at hL1
      have hiw : (gt O.none i h).wr := by
        by_cases c3 : i = id
        · subst c3; exact hidw
        · rw [if_neg c3] at hi; exact hi
      by_cases c2 : j' = nx
      · subst c2
        rw [rN] at hM1
        have := Option.some.inj hM1
        subst this
        by_cases c3 : i = id
        · subst c3
          rw [hL] at hL1
          have := Option.some.inj hL1
          subst this
          exact absurd hb1.symm hbk
        · obtain ⟨k1, k2⟩ := old c3 (O.live_of_wr hiw) hL1
          exact absurd hb1.symm (kept _ k1 k2).2
      · rw [if_neg c2] at hj
        rw [rO c2] at hM1
        have hjl : (gt O.none j' h).live := by
          by_cases c3 : j' = id
          · subst c3; exact O.live_of_wr hidw
          · rw [if_neg c3] at hj; exact hj
        exact s.inj i j' L1 M1 hiw hjl hL1 hM1 hb1
  · have hi : nx + 1 ≤ i := hi
    rw [rO (by omega)]
    exact s.fresh i (by omega)
  · have hi : nx + 1 ≤ i := hi
    rw [hat i, if_neg (by omega), if_neg (by omega)] at hl1
    exact s.dead i (by omega) hl1
  · have hne : q ≠ L.blk := fun e => hw id L hidw hL e.symm
    obtain ⟨k1, k2⟩ := kept q hq hne
    refine ⟨k1, fun i L1 hi hL1 => ?_⟩
    rw [hat i] at hi
    by_cases c1 : i = nx
    · subst c1
      rw [rN] at hL1
      have := Option.some.inj hL1
      subst this
      exact k2
    · rw [if_neg c1] at hi
      rw [rO c1] at hL1
      by_cases c2 : i = id
      · subst c2
        exact hw i L1 hidw hL1
      · rw [if_neg c2] at hi
        exact hw i L1 hi hL1
  · have c1 : i ≠ nx := live hi
    have c2 : i ≠ id := fun e => by subst e; rw [hL] at hn1; cases hn1
    rw [hat i, if_neg c1, if_neg c2, rO c1]
    exact ⟨hn1, rfl⟩
end
end Go.Mx
