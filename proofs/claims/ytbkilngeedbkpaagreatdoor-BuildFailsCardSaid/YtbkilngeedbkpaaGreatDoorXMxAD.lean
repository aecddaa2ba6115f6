/-
  A part of a small executor of the model, proved sound (24 of 33). No condition.
-/
import Derived.Test.YtbkilngeedbkpaaGreatDoorXMxAB
import Derived.Test.YtbkilngeedbkpaaGreatDoorXMxK
namespace Go.Mx
open Instr Builtin RowKit
noncomputable section
variable {P : Program} {ρ : Ren} {h : T O} {nx : Nat} {w : World} {ng : Nat}
def noSet (cs : List Nat) (y : V) : Bool := List.rec (motive := fun _ => Bool) true (fun n _ ih => ite1 (pieceNo n y) ih) cs
def hitSet (cs : List Nat) (y : V) : Bool := V.rec (motive := fun _ => Bool) (false) (fun _ _ _ _ => false) (fun _ => false) (fun _ n => List.rec (motive := fun _ => Bool) false (fun m _ ih => Bool.rec ih true (ieq n (Int.ofNat m))) cs) (fun _ => false) (fun _ _ => false) (false) (fun _ _ _ _ => false) (false) (false) (false) (fun _ => false) (false) (fun _ _ _ => false) (false) (fun _ _ _ => false) (false) (fun _ _ => false) (fun _ _ => false) (fun _ _ _ _ => false) (fun _ _ => false) (fun _ _ _ _ _ => false) (fun _ _ _ _ _ _ => false) y
theorem noSet_spec {y : V} {s : List UInt8} (hs : PR ρ y s) : ∀ {cs : List Nat}, noSet cs y = true → (∀ n ∈ cs, n < 256) → ∀ c ∈ s, (cs.map UInt8.ofNat).contains c = false := by
  intro cs
  induction cs with
  | nil => intro _ _ c _; rfl
  | cons n cs ih =>
    intro hk hb c hc
    obtain ⟨h1, h2⟩ := ite1_spec (show ite1 (pieceNo n y) (noSet cs y) = true from hk)
    have h3 := ih h2 (fun m hm => hb m (List.mem_cons_of_mem _ hm)) c hc
    have h4 := pieceNo_spec h1 hs c hc
    have h5 := u8_ne (hb n (List.mem_cons_self ..)) h4
    rw [List.map_cons, List.contains_cons, h3, h5]
    rfl
theorem hitSet_spec {cs : List Nat} {y : V} {s : List UInt8} (hk : hitSet cs y = true) (hs : PR ρ y s) : ∃ c, s = [c] ∧ (cs.map UInt8.ofNat).contains c = true := by
  cases y <;> first | exact Bool.noConfusion hk | skip
  case i kd n =>
    simp only [PR] at hs
    obtain ⟨_, c, rfl, rfl⟩ := hs
    refine ⟨c, rfl, ?_⟩
    have key : ∀ l : List Nat, (List.rec (motive := fun _ => Bool) false (fun m _ ih => Bool.rec ih true (ieq (c.toNat : Int) (Int.ofNat m))) l : Bool) = true → (l.map UInt8.ofNat).contains c = true := by
      intro l
      induction l with
      | nil => intro h; exact Bool.noConfusion h
      | cons m l ih =>
        intro h
        have h : (Bool.rec (List.rec (motive := fun _ => Bool) false (fun m _ ih => Bool.rec ih true (ieq (c.toNat : Int) (Int.ofNat m))) l) true (ieq (c.toNat : Int) (Int.ofNat m)) : Bool) = true := h
        rw [List.map_cons, List.contains_cons]
        cases e : ieq (c.toNat : Int) (Int.ofNat m) with
        | false => rw [e] at h; rw [ih h]; simp
        | true =>
          rw [ieq_eq] at e
          have e : (c.toNat : Int) = (m : Int) := by simpa using e
          have e : c.toNat = m := by omega
          have : (c == UInt8.ofNat m) = true := by rw [← e]; simp
          rw [this]
          rfl
    exact key cs hk
def idxG (cs : List Nat) (c : V) : V → (V → Bool) → Bool → Bool := chain (M := V → (V → Bool) → Bool → Bool) (fun _ _ d => d)
  (fun y _ ih S k d => Bool.rec (ite1 (hitSet cs y) (k S)) (lenE y S fun S' => ih S' k d) (noSet cs y)) c
theorem idxG_spec {cs : List Nat} (hb : ∀ n ∈ cs, n < 256) : ∀ {c S : V} {k : V → Bool} {d : Bool}, idxG cs c S k d = true → isC S →
    (∃ S', k S' = true ∧ ∀ ρ s n, RR ρ c s → LR ρ S n → ∃ (i : Nat) (x : UInt8), s[i]? = some x ∧ (cs.map UInt8.ofNat).contains x = true ∧ Lib.NoAny s (cs.map UInt8.ofNat) i ∧ LR ρ S' (n + i)) ∨
    (d = true ∧ ∀ ρ s, RR ρ c s → ∀ x ∈ s, (cs.map UInt8.ofNat).contains x = false) := by
  intro c
  induction c with
  | nil => intro S k d hk _; exact .inr ⟨hk, fun ρ s hs x hx => by simp only [RR] at hs; subst hs; cases hx⟩
  | cons y r _ ih =>
    intro S k d hk hc
    have hk : (Bool.rec (ite1 (hitSet cs y) (k S)) (lenE y S fun S' => idxG cs r S' k d) (noSet cs y) : Bool) = true := hk
    cases e : noSet cs y with
    | false =>
      rw [e] at hk
      obtain ⟨h1, h2⟩ := ite1_spec hk
      refine .inl ⟨S, h2, fun ρ s n hs hn => ?_⟩
      simp only [RR] at hs
      obtain ⟨s1, s2, p1, p2, rfl⟩ := hs
      obtain ⟨x, rfl, hx⟩ := hitSet_spec h1 p1
      exact ⟨0, x, rfl, hx, fun j b hj => by omega, by simpa using hn⟩
    | true =>
      rw [e] at hk
      replace hk := lenE_spec hk hc
      obtain ⟨S', hk, hc', hS'⟩ := hk
      rcases ih hk hc' with ⟨S2, h1, h2⟩ | ⟨h1, h2⟩
      · refine .inl ⟨S2, h1, fun ρ s n hs hn => ?_⟩
        simp only [RR] at hs
        obtain ⟨s1, s2, p1, p2, rfl⟩ := hs
        obtain ⟨i, x, q1, q2, q3, q4⟩ := h2 ρ s2 _ p2 (hS' ρ n s1 hn p1)
        refine ⟨s1.length + i, x, ?_, q2, fun j b hj hjb => ?_, ?_⟩
        · rw [List.getElem?_append_right (by omega)]
          simpa using q1
        · by_cases hlt : j < s1.length
          · rw [List.getElem?_append_left hlt] at hjb
            exact noSet_spec p1 e hb b (List.mem_of_getElem? hjb)
          · rw [List.getElem?_append_right (by omega)] at hjb
            exact q3 (j - s1.length) b (by omega) hjb
        · have : n + ((s1.length + i : Nat) : Int) = n + s1.length + i := by omega
          rw [this]
          exact q4
      · refine .inr ⟨h1, fun ρ s hs x hx => ?_⟩
        simp only [RR] at hs
        obtain ⟨s1, s2, p1, p2, rfl⟩ := hs
        rcases List.mem_append.1 hx with hx | hx
        · exact noSet_spec p1 e hb x hx
        · exact h2 ρ s2 p2 x hx
  | _ => intro S k d hk _; exact .inr ⟨hk, fun ρ s hs => by simp only [RR] at hs⟩
def ansK (cs : List Nat) (c : V) (K : V → Bool) : Bool := idxG cs c .nil (fun S => mkR 3 S K) (K (.i .i64 (Int.negSucc 0)))
theorem ansK_spec {cs : List Nat} (hb : ∀ n ∈ cs, n < 256) {c : V} {K : V → Bool} (hk : ansK cs c K = true) : ∃ y, K y = true ∧ ∀ ρ s, RR ρ c s → VR ρ y (.int .i64 (Lib.indexAny s (cs.map UInt8.ofNat))) := by
  rcases idxG_spec hb hk (show isC .nil from trivial) with ⟨S, h1, h2⟩ | ⟨h1, h2⟩
  · obtain ⟨y, h3, h4⟩ := mkR_spec h1
    refine ⟨y, h3, fun ρ s hs => ?_⟩
    obtain ⟨i, x, q1, q2, q3, q4⟩ := h2 ρ s 0 hs (by simp only [LR])
    rw [Lib.indexAny_hit q3 q1 q2]
    have := (h4 ρ _ q4).1
    rw [Int.zero_add] at this
    exact this
  · refine ⟨_, h1, fun ρ s hs => ?_⟩
    rw [Lib.indexAny_none fun j b _ hjb => h2 ρ s hs b (List.mem_of_getElem? hjb)]
    exact VRi _ _ _
def hkIndexByteP : HookF := fun args h nx K => arg0 args fun x r => arg0 r fun y r' => chain (M := Bool) (ropK x fun c => vI y fun kd n => ite1 (keq kd .u8) <| Int.rec (motive := fun _ => Bool) (fun m => ite1 (Nat.blt m 256) <| ansK [m] c fun v => K v h nx) (fun _ => false) n) (fun _ _ _ => false) r'
theorem hkIndexByteP_ok {g : Nat} {fn : Func} (hf : P.funcs[g]? = some fn) (hname : (fn.name == "runtime.NumGoroutine") = false) (hb : fn.body.isNone = true) (hn : Extern.findNext fn = none) (he : Extern.find fn = some Extern.BytealgIndexByte.indexByte) : HookOk P ng g hkIndexByteP := by
  intro args h nx K Kp hk ρ w vs s _ hv
  obtain ⟨x, r, rfl, hk2⟩ := arg0_spec hk
  obtain ⟨y, r', rfl, hk3⟩ := arg0_spec hk2
  simp only [VRs] at hv
  obtain ⟨v1, l1, rfl, h1, v2, l2, rfl, h2, h3⟩ := hv
  cases r' <;> first | (simp only [VRs] at h3; done) | exact Bool.noConfusion hk3 | skip
  simp only [VRs] at h3
  subst h3
  obtain ⟨c, hk4, hc⟩ := ropK_spec (show ropK x (fun c => vI y fun kd n => ite1 (keq kd .u8) <| Int.rec (motive := fun _ => Bool) (fun m => ite1 (Nat.blt m 256) <| ansK [m] c fun v => K v h nx) (fun _ => false) n) = true from hk3)
  obtain ⟨kd, n, rfl, hk5⟩ := vI_spec (v := y) hk4
  obtain ⟨e1, hk6⟩ := ite1_spec hk5
  have e1 := keq_eq e1
  subst e1
  cases n with
  | negSucc n => exact Bool.noConfusion hk6
  | ofNat n =>
    obtain ⟨e2, hk7⟩ := ite1_spec (show ite1 (Nat.blt n 256) (ansK [n] c fun v => K v h nx) = true from hk6)
    have e2 := Nat.blt_eq.mp e2
    obtain ⟨z, hk8, hz⟩ := ansK_spec (cs := [n]) (fun m hm => by rw [List.mem_singleton] at hm; omega) hk7
    simp only [VR] at h2
    subst h2
    obtain ⟨b, rfl, hb2⟩ := hc ρ _ h1
    have hr := Lib.run_indexByteString (P := P) b (n : Int) w
    have e : ((n : Int).toNat.toUInt8) = UInt8.ofNat n := by simp
    rw [e, ← Lib.indexAny_one] at hr
    exact UponOK.val (upon_extern hf hname hb hn he hr) (hz ρ _ hb2) s (Ext.refl _ _ _) hk8
def asc7R (c : V) : Bool := chain true (fun y _ ih => Bool.rec false ih (V.rec (motive := fun _ => Bool) (false) (fun _ _ _ _ => false) (fun _ => false) (fun _ n => ilt n (Int.ofNat 128)) (fun _ => false) (fun _ _ => false) (false) (fun _ _ _ _ => false) (false) (false) (false) (fun _ => false) (false) (fun _ _ _ => false) (false) (fun _ _ _ => false) (false) (fun _ _ => false) (fun _ _ => false) (fun _ _ _ hi => Nat.blt hi 128) (fun _ _ => false) (fun _ _ _ _ _ => false) (fun t l _ _ _ _ => ite1 (Nat.beq t 1) <| mskIn 0 127 (mskV l)) y)) c
theorem asc7R_spec : ∀ {c : V} {s : List UInt8}, asc7R c = true → RR ρ c s → ∀ d ∈ s, d.toNat < 128 := by
  intro c
  induction c with
  | nil => intro s _ hs d hd; simp only [RR] at hs; subst hs; cases hd
  | cons y r ihy ih =>
    clear ihy
    intro s hk hs d hd
    simp only [RR] at hs
    obtain ⟨s1, s2, h1, h2, rfl⟩ := hs
    have fin : asc7R r = true → (∀ d ∈ s1, d.toNat < 128) → d.toNat < 128 := fun hk hh => by
      rcases List.mem_append.1 hd with hd | hd
      · exact hh d hd
      · exact ih hk h2 d hd
    cases y <;> first | exact Bool.noConfusion hk | skip
    case i kd n =>
      have hk2 : (Bool.rec false (asc7R r) (ilt n (Int.ofNat 128)) : Bool) = true := hk
      cases e : ilt n (Int.ofNat 128) with
      | false => rw [e] at hk2; exact Bool.noConfusion hk2
      | true =>
        rw [e] at hk2
        have e := ilt_spec e
        simp only [PR] at h1
        obtain ⟨_, c, rfl, rfl⟩ := h1
        refine fin hk2 fun d hd => ?_
        rw [List.mem_singleton] at hd
        subst hd
        have z : Int.ofNat 128 = (128 : Int) := rfl
        omega
    case x a kd l u =>
      have hk2 : (Bool.rec false (asc7R r) (Nat.blt u 128) : Bool) = true := hk
      cases e : Nat.blt u 128 with
      | false => rw [e] at hk2; exact Bool.noConfusion hk2
      | true =>
        rw [e] at hk2
        have e := Nat.blt_eq.mp e
        simp only [PR] at h1
        obtain ⟨_, c, L, rfl, _, q1, q2, q3⟩ := h1
        refine fin hk2 fun d hd => ?_
        rw [List.mem_singleton] at hd
        subst hd
        omega
    case o t l a pl ph =>
      have hk2 : (Bool.rec false (asc7R r) (ite1 (Nat.beq t 1) <| mskIn 0 127 (mskV l)) : Bool) = true := hk
      cases e : ite1 (Nat.beq t 1) (mskIn 0 127 (mskV l)) with
      | false => rw [e] at hk2; exact Bool.noConfusion hk2
      | true =>
        rw [e] at hk2
        obtain ⟨e1, e2⟩ := ite1_spec e
        have e1 := beq_spec e1
        simp only [PR] at h1
        rcases h1 with ⟨_, L, _, _, _, _, q2⟩ | ⟨z, _⟩
        · exact fin hk2 fun d hd => by have := mskIn_spec e2 d (q2 d hd); omega
        · omega
  | _ => intro s _ hs; simp only [RR] at hs
def hkIndexAnyP : HookF := fun args h nx K => arg0 args fun x r => arg0 r fun y r' => chain (M := Bool) (ropK x fun c => vS y fun cs => ite1 (ascB cs) <| ite1 (asc7R c) <| slenK cs 0 fun m => ite1 (Nat.ble m 1000) <| atMost c 1000000 fun _ => ansK cs c fun v => K v h nx) (fun _ _ _ => false) r'
theorem hkIndexAnyP_ok (hn : NameOK P) {g : Nat} {fn : Func} {cd : Code} (hf : P.funcs[g]? = some fn) (hb : fn.body = some cd)
    (hc : ∀ (s chars : ByteArray) (w : World), s.size < 4294967281 → chars.size < 4294967281 → (∀ (j : Nat) b, s.data.toList[j]? = some b → b.toNat < 128) → (∀ (j : Nat) b, chars.data.toList[j]? = some b → b.toNat < 128) →
      Calls P g #[.string s, .string chars] w fun e w' => e = .returned (.int .i64 (Lib.indexAny s.data.toList chars.data.toList)) ∧ Below w.heap.size w w') : HookOk P ng g hkIndexAnyP := by
  intro args h nx K Kp hk ρ w vs s _ hv
  obtain ⟨x, r, rfl, hk2⟩ := arg0_spec hk
  obtain ⟨y, r', rfl, hk3⟩ := arg0_spec hk2
  simp only [VRs] at hv
  obtain ⟨v1, l1, rfl, h1, v2, l2, rfl, h2, h3⟩ := hv
  cases r' <;> first | (simp only [VRs] at h3; done) | exact Bool.noConfusion hk3 | skip
  simp only [VRs] at h3
  subst h3
  obtain ⟨c, hk4, hcr⟩ := ropK_spec (show ropK x (fun c => vS y fun cs => ite1 (ascB cs) <| ite1 (asc7R c) <| slenK cs 0 fun m => ite1 (Nat.ble m 1000) <| atMost c 1000000 fun _ => ansK cs c fun v => K v h nx) = true from hk3)
  obtain ⟨b, rfl, hrr⟩ := hcr ρ _ h1
  obtain ⟨cs, rfl, hk5⟩ := vS_spec (v := y) hk4
  simp only [VR] at h2
  obtain ⟨rfl, hcs⟩ := h2
  obtain ⟨e1, hk6⟩ := ite1_spec hk5
  have e1 := ascB_spec e1
  obtain ⟨e2, hk7⟩ := ite1_spec hk6
  have e2 := asc7R_spec e2 hrr
  rw [slenK_eq, Nat.zero_add] at hk7
  obtain ⟨e3, hk8⟩ := ite1_spec hk7
  have e3 := Nat.le_of_ble_eq_true e3
  obtain ⟨_, hk9, hmost⟩ := atMost_spec hk8
  have hlen := (hmost ρ _ hrr).2
  obtain ⟨z, hk10, hz⟩ := ansK_spec hcs hk9
  have hcl : (bs cs).data.toList = cs.map UInt8.ofNat := by simp [bs]
  have hsz : b.size = b.data.toList.length := rfl
  refine upon_of_calls hn hf hb (y := z) ?_ s hk10
  refine (hc b (bs cs) w (by omega) (by rw [bs_size]; omega) (fun j d hj => e2 d (List.mem_of_getElem? hj)) (fun j d hj => ?_)).mono fun e w' ⟨he, hbl⟩ => ⟨_, he, ?_, ?_⟩
  · rw [hcl, List.getElem?_map, Option.map_eq_some_iff] at hj
    obtain ⟨n, hn, rfl⟩ := hj
    have := e1 n (List.mem_of_getElem? hn)
    simp [UInt8.toNat_ofNat']
    omega
  · rw [hcl]
    exact hz ρ _ hrr
  · exact ⟨hbl.size, hbl.os, hbl.tape, hbl.output, hbl.block⟩
end
end Go.Mx
namespace Go.Mx
open Instr Builtin
noncomputable section
variable {P : Program} {ρ : Ren} {h : T O} {nx : Nat} {w : World} {ng : Nat}
end
end Go.Mx
