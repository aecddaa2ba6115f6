/-
  A part of a small executor of the model, proved sound (22 of 34). No condition.
-/
import Derived.Test.YtoflpofblogmcaaGreatDoorXMxQ
import Derived.Lib.ItoaLen
import Derived.Test.YtoflpofblogmcaaGreatDoorXRowK6
import Derived.Sort.Grow
import Derived.Lib.LaidTab
import Derived.Deep.Draws
namespace Go.Mx
open Instr Builtin
noncomputable section
variable {P : Program} {ρ : Ren} {h : T O} {nx : Nat} {w : World} {ng : Nat}
def decK (fuel : Nat) : Nat → List Nat → (List Nat → Bool) → Bool := Nat.rec (motive := fun _ => Nat → List Nat → (List Nat → Bool) → Bool) (fun _ _ _ => false)
  (fun _ ih n acc k => Bool.rec (forceN (Nat.add 48 (Nat.mod n 10)) fun d => forceN (Nat.div n 10) fun q => ih q (d :: acc) k) (forceN (Nat.add 48 n) fun d => k (d :: acc)) (Nat.blt n 10)) fuel
theorem u8_dig {n : Nat} (h : n < 10) : UInt8.ofNat (48 + n) = (UInt8.ofNat (48 + n) : UInt8) ∧ (UInt8.ofNat (48 + n)).toNat = 48 + n := ⟨rfl, by simp; omega⟩
theorem decK_spec : ∀ {fuel n : Nat} {acc : List Nat} {k : List Nat → Bool}, decK fuel n acc k = true → (∀ a ∈ acc, a < 256) → ∃ l, k l = true ∧ (∀ a ∈ l, a < 256) ∧ l.map UInt8.ofNat = Lib.decDigits n ++ acc.map UInt8.ofNat := by
  intro fuel
  induction fuel with
  | zero => intro n acc k hk _; exact Bool.noConfusion hk
  | succ fuel ih =>
    intro n acc k hk ha
    have hk' : (Bool.rec (forceN (Nat.add 48 (Nat.mod n 10)) fun d => forceN (Nat.div n 10) fun q => decK fuel q (d :: acc) k) (forceN (Nat.add 48 n) fun d => k (d :: acc)) (Nat.blt n 10) : Bool) = true := hk
    cases e : Nat.blt n 10 with
    | true =>
      have e1 := Nat.blt_eq.mp e
      rw [e] at hk'
      have hk2 : forceN (Nat.add 48 n) (fun d => k (d :: acc)) = true := hk'
      rw [forceN_eq] at hk2
      refine ⟨_, hk2, fun a h => ?_, ?_⟩
      · rcases List.mem_cons.1 h with rfl | h
        · show 48 + n < 256
          omega
        · exact ha a h
      · rw [Lib.decDigits_one e1]
        rfl
    | false =>
      have e1 : ¬ n < 10 := fun h => by rw [Nat.blt_eq.mpr h] at e; cases e
      rw [e] at hk'
      have hk2 : forceN (Nat.add 48 (Nat.mod n 10)) (fun d => forceN (Nat.div n 10) fun q => decK fuel q (d :: acc) k) = true := hk'
      rw [forceN_eq, forceN_eq] at hk2
      obtain ⟨l, h1, h2, h3⟩ := ih hk2 (fun a h => by
        rcases List.mem_cons.1 h with rfl | h
        · show 48 + n % 10 < 256
          omega
        · exact ha a h)
      refine ⟨l, h1, h2, h3.trans ?_⟩
      have e2 : Lib.decDigits n = Lib.decDigits (n / 10) ++ [UInt8.ofNat (48 + n % 10)] := by rw [Lib.decDigits, dif_neg e1]
      rw [e2, List.append_assoc]
      rfl
def decV (lo : Int) (x : V) (k : V → Bool) : Bool := linK x fun kd l => ite1 (Nat.beq kd 3) <| rgK l fun a b => ite1 (ile lo a) <| ite1 (ile b (Int.ofNat 9223372036854775807)) <|
  Bool.rec (k (.o 0 (.cons (.o 4 l 0 1 21) .nil) 0 0 0)) (Int.rec (motive := fun _ => Bool) (fun n => decK 20 n [] fun t => k (.s t)) (fun m => decK 20 (Nat.succ m) [] fun t => k (.s (45 :: t))) a) (ieq a b)
theorem itoa_len_pos (n : Int) : 1 ≤ (Lib.itoa n).length := by
  unfold Lib.itoa
  split
  · simp
  · rw [Lib.decDigits_length]
    exact Lib.nDigits_pos _
theorem bs_ofNat (l : List Nat) : (bs l) = ⟨(l.map UInt8.ofNat).toArray⟩ := by
  unfold bs
  rfl
theorem decV_spec {lo : Int} {x : V} {k : V → Bool} (hk : decV lo x k = true) (hlo : -9223372036854775808 ≤ lo) : ∃ y, k y = true ∧ ∀ ρ v, VR ρ x v → ∃ n : Int, v = .int .i64 n ∧ lo ≤ n ∧ n ≤ 9223372036854775807 ∧ VR ρ y (.string ⟨(Lib.itoa n).toArray⟩) := by
  obtain ⟨kd, l, hk1, hx⟩ := linK_spec (show linK x (fun kd l => ite1 (Nat.beq kd 3) <| rgK l fun a b => ite1 (ile lo a) <| ite1 (ile b (Int.ofNat 9223372036854775807)) <|
    Bool.rec (k (.o 0 (.cons (.o 4 l 0 1 21) .nil) 0 0 0)) (Int.rec (motive := fun _ => Bool) (fun n => decK 20 n [] fun t => k (.s t)) (fun m => decK 20 (Nat.succ m) [] fun t => k (.s (45 :: t))) a) (ieq a b)) = true from hk)
  obtain ⟨e0, hk2⟩ := ite1_spec hk1
  have e0 := Nat.eq_of_beq_eq_true e0
  subst e0
  obtain ⟨a, b, hk3, hr⟩ := rgK_spec hk2
  obtain ⟨e1, hk4⟩ := ite1_spec hk3
  obtain ⟨e2, hk5⟩ := ite1_spec hk4
  have e1 := ile_spec e1
  have e2 := ile_spec e2
  have e2' : b ≤ 9223372036854775807 := e2
  cases e : ieq a b with
  | false =>
    rw [e] at hk5
    refine ⟨_, hk5, fun ρ v hv => ?_⟩
    obtain ⟨n, h1, h2⟩ := hx ρ v hv
    have h3 := hr ρ n h1
    refine ⟨n, h2, by omega, by omega, VR_rope ?_⟩
    simp only [RR]
    refine ⟨Lib.itoa n, [], ?_, rfl, by simp⟩
    simp only [PR]
    exact .inr ⟨trivial, itoa_len_pos n, Lib.itoa_length_le n (by omega) (by omega), n, h1, rfl⟩
  | true =>
    rw [e] at hk5
    rw [ieq_eq] at e
    have e3 : a = b := by simpa using e
    subst e3
    cases a with
    | negSucc m =>
      obtain ⟨t, h1, h2, h3⟩ := decK_spec (show decK 20 (Nat.succ m) [] (fun t => k (.s (45 :: t))) = true from hk5) (fun a h => by cases h)
      refine ⟨_, h1, fun ρ v hv => ?_⟩
      obtain ⟨n, g1, g2⟩ := hx ρ v hv
      have h4 := hr ρ n g1
      have e4 : n = -((m + 1 : Nat) : Int) := by
        have z : Int.negSucc m = -((m + 1 : Nat) : Int) := rfl
        omega
      have z2 : Int.negSucc m = -((m + 1 : Nat) : Int) := rfl
      subst e4
      refine ⟨_, g2, by omega, by omega, ?_⟩
      simp only [VR]
      refine ⟨?_, fun q hq => ?_⟩
      · rw [bs_ofNat, List.map_cons, h3, itoa_neg' (by omega)]
        simp
      · rcases List.mem_cons.1 hq with rfl | hq
        · decide
        · exact h2 q hq
    | ofNat m =>
      obtain ⟨t, h1, h2, h3⟩ := decK_spec (show decK 20 m [] (fun t => k (.s t)) = true from hk5) (fun a h => by cases h)
      refine ⟨_, h1, fun ρ v hv => ?_⟩
      obtain ⟨n, g1, g2⟩ := hx ρ v hv
      have h4 := hr ρ n g1
      have e4 : n = (m : Int) := by
        have z : Int.ofNat m = (m : Int) := rfl
        omega
      subst e4
      refine ⟨_, g2, by omega, by omega, ?_⟩
      simp only [VR]
      refine ⟨?_, h2⟩
      rw [bs_ofNat, h3]
      unfold Lib.itoa
      rw [if_neg (by omega)]
      simp
def hkDec (lo : Int) : HookF := fun args h nx K => arg0 args fun x r => chain (decV lo x fun y => K y h nx) (fun _ _ _ => false) r
theorem hkDec_ok (hn : NameOK P) {lo : Int} (hlo : -9223372036854775808 ≤ lo) {g : Nat} {fn : Func} {cd : Code} (hf : P.funcs[g]? = some fn) (hb : fn.body = some cd)
    (hC : ∀ (n : Int) (w : World), lo ≤ n → n ≤ 9223372036854775807 → Calls P g #[.int .i64 n] w fun e w' => e = .returned (.string ⟨(Lib.itoa n).toArray⟩) ∧ Stays w w') : HookOk P ng g (hkDec lo) := by
  intro args h nx K Kp hk ρ w vs s _ hv
  obtain ⟨x, r, rfl, hk2⟩ := arg0_spec hk
  simp only [VRs] at hv
  obtain ⟨v1, l1, rfl, h1, h2⟩ := hv
  cases r <;> first | (simp only [VRs] at h2; done) | exact Bool.noConfusion hk2 | skip
  simp only [VRs] at h2
  subst h2
  obtain ⟨y, g1, g2⟩ := decV_spec (show decV lo x (fun y => K y h nx) = true from hk2) hlo
  obtain ⟨n, rfl, a1, a2, hv⟩ := g2 ρ _ h1
  exact upon_of_calls hn hf hb ((hC n w a1 a2).mono fun e w' ⟨h1, h2⟩ => ⟨_, h1, hv, h2⟩) s g1
end
end Go.Mx
namespace Go.Mx
open Instr Builtin
noncomputable section
variable {P : Program} {ρ : Ren} {h : T O} {nx : Nat} {w : World} {ng : Nat}
def powV : V := tabV .u64 [1, 10, 100, 1000, 10000, 100000, 1000000, 10000000, 100000000, 1000000000, 10000000000, 100000000000, 1000000000000, 10000000000000, 100000000000000, 1000000000000000, 10000000000000000, 100000000000000000, 1000000000000000000, 10000000000000000000]
theorem pow_eq : Lib.pow10Tab = [1, 10, 100, 1000, 10000, 100000, 1000000, 10000000, 100000000, 1000000000, 10000000000, 100000000000, 1000000000000, 10000000000000, 100000000000000, 1000000000000000, 10000000000000000, 100000000000000000, 1000000000000000000, 10000000000000000000] := by decide
theorem VRs_tab (k : IntKind) : ∀ {l : List Int} {vs : List Value}, VRs ρ (tabV k l) vs → vs = l.map fun n => Value.int k n
  | [], vs, h => by simpa [tabV, VRs] using h
  | n :: r, vs, h => by
    simp only [tabV, VRs] at h
    obtain ⟨y, ys, rfl, h1, h2⟩ := h
    simp only [VR] at h1
    rw [h1, VRs_tab k h2]
    rfl
theorem VRs_tab' (k : IntKind) : ∀ l : List Int, VRs ρ (tabV k l) (l.map fun n => Value.int k n)
  | [] => by simp [tabV, VRs]
  | n :: r => by
    simp only [tabV, VRs, List.map_cons]
    exact ⟨_, _, rfl, by simp [VR], VRs_tab' k r⟩
def isPow (g : Nat) (h : T O) : Bool := oV (gt O.none g h) fun l _ => sameV l powV
theorem oV_spec' {o : O} {k : V → Nat → Bool} (h : oV o k = true) : ∃ l ty, o = .v l ty ∧ k l ty = true := by cases o <;> first | (simp [oV] at h; done) | exact ⟨_, _, rfl, h⟩
theorem isPow_spec {g : Nat} {name : String} (hk : isPow g h = true) (hg : g < ng) (hnm : P.globalNamed name = some g) (s : St ρ h nx w) (gr : RG ng ρ) : Lib.TabIs P w name .u64 Lib.pow10Tab := by
  obtain ⟨l, ty, e, h1⟩ := oV_spec' hk
  have h1 := sameV_eq h1
  subst h1
  obtain ⟨L, hL, hb, _⟩ := gr g hg
  obtain ⟨o, ho, hr⟩ := s.rel g L (by rw [e]; trivial) hL
  rw [e] at hr
  obtain ⟨vs, rfl, _, _, hv⟩ := hr
  have hvs := VRs_tab .u64 hv
  subst hvs
  rw [hb] at ho
  unfold Lib.TabIs World.var?
  rw [hnm, pow_eq]
  show (match w.heap[g]? with | some (.cells cs _ _) => some cs | _ => none) = _
  rw [ho]
def hkDecT (g : Nat) (lo : Int) : HookF := fun args h nx K => ite1 (isPow g h) <| hkDec lo args h nx K
theorem stays_grow (w : World) (k : Nat) (os : Array Obj) : Stays w (Go.Sort.grow (w.drewN k) os) :=
  ⟨by show w.heap.size ≤ (w.heap ++ os).size; simp, rfl, rfl, rfl, fun b hb => by show (w.heap ++ os)[b]? = _; rw [Array.getElem?_append_left hb]⟩
theorem hkDecT_ok (hn : NameOK P) {lo : Int} (hlo : -9223372036854775808 ≤ lo) {g t : Nat} {fn : Func} {cd : Code} {name : String} (hf : P.funcs[g]? = some fn) (hb : fn.body = some cd) (ht : t < ng) (hnm : P.globalNamed name = some t)
    (hC : ∀ (n : Int) (w : World), lo ≤ n → n ≤ 9223372036854775807 → Lib.TabIs P w name .u64 Lib.pow10Tab → Calls P g #[.int .i64 n] w fun e w' => e = .returned (.string ⟨(Lib.itoa n).toArray⟩) ∧ Stays w w') : HookOk P ng g (hkDecT t lo) := by
  intro args h nx K Kp hk ρ w vs s gr hv
  obtain ⟨hp, hk⟩ := ite1_spec hk
  have htab := isPow_spec hp ht hnm s gr
  obtain ⟨x, r, rfl, hk2⟩ := arg0_spec hk
  simp only [VRs] at hv
  obtain ⟨v1, l1, rfl, h1, h2⟩ := hv
  cases r <;> first | (simp only [VRs] at h2; done) | exact Bool.noConfusion hk2 | skip
  simp only [VRs] at h2
  subst h2
  obtain ⟨y, g1, g2⟩ := decV_spec (show decV lo x (fun y => K y h nx) = true from hk2) hlo
  obtain ⟨n, rfl, a1, a2, hv⟩ := g2 ρ _ h1
  exact upon_of_calls hn hf hb ((hC n w a1 a2 htab).mono fun e w' ⟨h1, h2⟩ => ⟨_, h1, hv, h2⟩) s g1
def isBP (x : Bool) (t : Nat) (C : O → Bool) (v : V) (h : T O) : Bool := ite1 (isB x v) <| C (gt O.none t h)
def isTb (ty : Nat) (o : O) : Bool := oV o fun l u => ite1 (Nat.beq u ty) <| sameV l powV
theorem isTb_self (ty : Nat) : isTb ty (.v powV ty) = true := by
  show ite1 (Nat.beq ty ty) (sameV powV powV) = true
  rw [show Nat.beq ty ty = true from Nat.beq_refl ty]
  decide
theorem top_run_p (hm : P.follows .mixedOrders = true) (hn : NameOK P) {hk : Nat → Option HookF} {ng : Nat} (hh : HKok P ng hk) {n g : Nat} {fn : Func} {cd : Code} (hf : P.funcs[g]? = some fn) (hb : fn.body = some cd)
    {x : Bool} {args : V} {vs : List Value} {W : World} {ob : List (Nat × O)} {ρa : Ren} {nx t : Nat} (hnx : ng ≤ nx) (ht : t < ng) (hρ : ∀ i L, ρa i = some L → ng ≤ i ∧ i < nx)
    (hob : ∀ i, (gt O.none i (putO ob .leaf)).live → (ng ≤ i ∧ i < nx ∧ ¬ (gt O.none i (putO ob .leaf)).wr) ∧ ∀ L, ρa i = some L → L.blk ≠ t ∧ ∃ o, W.heap[L.blk]? = some o ∧ OR ρa L (gt O.none i (putO ob .leaf)) o)
    (hv : VRs ρa args vs)
    (hrun : ∀ (τ : Nat → Nat) (C : O → Bool), stK O.none (.v powV (τ t)) t (putO ob .leaf) (fun h0 => run P ng hk n g args h0 nx (fun v h' _ => isBP x t C v h') (fun _ _ _ => false)) = C (.v powV (τ t)))
    (tab : ∃ arr ty, W.heap[t]? = some (.cells arr ty (0, 0)) ∧ arr.toList = Lib.pow10Tab.map fun n => Value.int .u64 n) :
    Calls P g ⟨vs⟩ W fun e W' => e = .returned (.bool x) ∧ Stays W W' := by
  obtain ⟨arr, ty, w1, w2⟩ := tab
  have hrun := hrun (fun _ => ty) (isTb ty)
  rw [stK_eq, isTb_self] at hrun
  let sz : Nat → Nat := fun i => if i = t then 20 else 0
  let ρr : Ren := fun i => if i < ng then some ⟨i, 0, sz i⟩ else ρa i
  have hle : Ren.le ρa ρr := fun i L e => by
    have := (hρ i L e).1
    have h1 : ¬ i < ng := by omega
    simp only [ρr, h1, if_false]
    exact e
  have atT : gt O.none t (st O.none (.v powV ty) t (putO ob .leaf)) = .v powV ty := gt_st_same ..
  have atO : ∀ {i}, i ≠ t → gt O.none i (st O.none (.v powV ty) t (putO ob .leaf)) = gt O.none i (putO ob .leaf) := fun h => gt_st_ne _ _ (Ne.symm h) _
  have wrT : ∀ {i}, (gt O.none i (st O.none (.v powV ty) t (putO ob .leaf))).wr → i = t := fun {i} hi => by
    by_cases e : i = t
    · exact e
    · rw [atO e] at hi
      exact absurd hi (hob i (O.live_of_wr hi)).1.2.2
  have tl : ∀ {i : Nat} {L : Loc}, i < ng → ρr i = some L → L = ⟨i, 0, sz i⟩ := fun {i L} h e => by simpa [ρr, h, eq_comm] using e
  have al : ∀ {i : Nat} {L : Loc}, ng ≤ i → ρr i = some L → ρa i = some L := fun {i L} h e => by
    have h1 : ¬ i < ng := by omega
    simpa only [ρr, h1, if_false] using e
  have sr : St ρr (st O.none (.v powV ty) t (putO ob .leaf)) nx W := by
    refine ⟨fun id L hi hL => ?_, fun i j L M hi hj hL hM hb => ?_, fun i hi => ?_, fun i hi hl' => ?_⟩
    · by_cases e : id = t
      · subst e
        obtain rfl := tl ht hL
        refine ⟨_, w1, ?_⟩
        rw [atT]
        refine ⟨arr.toList, rfl, ?_, rfl, ?_⟩
        · rw [w2, List.length_map, Lib.pow10Tab_length]
          simp [sz]
        · rw [w2, pow_eq]
          exact VRs_tab' .u64 _
      · rw [atO e] at hi ⊢
        obtain ⟨⟨q1, q2, q3⟩, q4⟩ := hob id hi
        obtain ⟨_, o, g1, g2⟩ := q4 L (al q1 hL)
        exact ⟨o, g1, g2.mono hle⟩
    · have e := wrT hi
      subst e
      by_cases e : j = i
      · exact e.symm
      · rw [atO e] at hj
        obtain ⟨⟨q1, q2, q3⟩, q4⟩ := hob j hj
        obtain rfl := tl ht hL
        exact absurd hb.symm (q4 M (al q1 hM)).1
    · have h1 : ¬ i < ng := by omega
      show (if i < ng then some _ else ρa i) = none
      rw [if_neg h1]
      cases e : ρa i with
      | none => rfl
      | some L => have := (hρ i L e).2; omega
    · have e : i ≠ t := by omega
      rw [atO e] at hl'
      have := (hob i hl').1.2.1
      omega
  have gr : RG ng ρr := fun i hi => ⟨⟨i, 0, sz i⟩, by simp [ρr, hi], rfl, rfl⟩
  have up := run_sound hm hn hh n g args (st O.none (.v powV ty) t (putO ob .leaf)) nx (fun v h' _ => isBP x t (isTb ty) v h') (fun _ _ _ => false) hrun ρr W vs sr gr (hv.mono hle)
  let o : Oper := { (default : Oper) with dst := some 0 }
  let a : Act := { tmps := #[undef], defers := [] }
  have h := up o a (fun a' W' => a'.tmps[0]? = some (.bool x) ∧ Stays W W') (fun _ _ _ => False) (fun ρ' y h' nx' v w' hv' s' hx hky => ?_) (fun ρ' y h' nx' v w' _ _ _ hky => Bool.noConfusion hky)
  · rw [callFunc_enter hn hf hb, Oper.upon_enter] at h
    refine h.mono fun e W' hr => ?_
    cases e with
    | returned v =>
      obtain ⟨h1, h2⟩ := hr
      have : v = .bool x := by simpa [Act.put, o, a] using h1
      exact ⟨by rw [this], h2⟩
    | panicked c => exact hr.elim
    | outgrown => obtain ⟨_, _, hq⟩ := hr; exact hq.elim
  · obtain ⟨k1, k2⟩ := ite1_spec (show ite1 (isB x y) (oV (gt O.none t h') fun l u => ite1 (Nat.beq u ty) <| sameV l powV) = true from hky)
    obtain ⟨bb, rfl, hbb⟩ := vB_spec (show vB y (fun b => bs_eq b x) = true from k1)
    have hbx : bb = x := by cases bb <;> cases x <;> first | rfl | exact Bool.noConfusion hbb
    subst hbx
    simp only [VR] at hv'
    subst hv'
    refine ⟨by simp [Act.put, o, a], hx.size, hx.os, hx.tape, hx.output, fun b hb => ?_⟩
    by_cases e : b = t
    · subst e
      obtain ⟨l, u, e1, k3⟩ := oV_spec' k2
      obtain ⟨e2, e3⟩ := ite1_spec k3
      have e2 := Nat.eq_of_beq_eq_true e2
      have e3 := sameV_eq e3
      subst e2; subst e3
      have hL : ρr b = some ⟨b, 0, sz b⟩ := by simp [ρr, ht]
      obtain ⟨q, q1, q2⟩ := s'.rel b _ (by rw [e1]; trivial) (hx.le _ _ hL)
      rw [e1] at q2
      obtain ⟨vs', rfl, _, _, q3⟩ := q2
      have q4 := VRs_tab .u64 q3
      have : arr = ⟨vs'⟩ := by
        apply Array.ext'
        rw [w2, q4, pow_eq]
      show w'.heap[b]? = W.heap[b]?
      rw [w1, this]
      exact q1
    · refine (hx.kept b hb fun id L hw hL => ?_).1
      have e1 := wrT hw
      subst e1
      obtain rfl := tl ht hL
      exact fun h => e h.symm
theorem hkL_cons {p : Nat × HookF} {l : List (Nat × HookF)} (h1 : HookOk P ng p.1 p.2) (h2 : HKok P ng (hkL l)) : HKok P ng (hkL (p :: l)) := by
  intro g f hf
  have hf : (Bool.rec (hkL l g) (some p.2) (Nat.beq p.1 g) : Option HookF) = some f := hf
  cases e : Nat.beq p.1 g with
  | true =>
    rw [e] at hf
    cases hf
    have e := beq_spec e
    subst e
    exact h1
  | false =>
    rw [e] at hf
    exact h2 g f hf
def anyV (a : Nat) : V := .o 2 (.cons (.o 7 .nil a 18446744073709551615 18446744073709551614) .nil) 3 0 0
theorem VR_any {a : Nat} {n : Int} (ha : ∃ L, ρ a = some L ∧ L.base = zz n) (h1 : -9223372036854775808 ≤ n) (h2 : n ≤ 9223372036854775807) : VR ρ (anyV a) (.int .i64 n) := by
  obtain ⟨L, e1, e2⟩ := ha
  have lo : unzz 18446744073709551615 = -9223372036854775808 := by decide
  have hi : unzz 18446744073709551614 = 9223372036854775807 := by decide
  simp only [anyV, VR, OV]
  refine .inl (.inr (.inl ⟨trivial, n, ?_, rfl⟩))
  simp only [LR, MR]
  exact ⟨n, 0, .inr (.inr (.inr (.inl ⟨trivial, L, e1, by rw [e2, unzz_zz], by rw [lo]; exact h1, by rw [hi]; exact h2⟩))), rfl, by omega⟩
theorem put_at {ng : Nat} {x : O} (i : Nat) : gt O.none i (putO [(ng, x)] (.leaf : T O)) = if i = ng then x else O.none := by
  show gt O.none i (st O.none x ng .leaf) = _
  by_cases hin : i = ng
  · subst hin
    rw [gt_st_same, if_pos rfl]
  · rw [gt_st_ne _ _ (Ne.symm hin), gt_leaf, if_neg hin]
theorem none_ob' {nx ty t : Nat} {W : World} {ρa : Ren} (h : ng < nx) (hn : ρa ng = none) : ∀ i, (gt O.none i (putO [(ng, .c .nil ty false)] .leaf)).live → (ng ≤ i ∧ i < nx ∧ ¬ (gt O.none i (putO [(ng, .c .nil ty false)] .leaf)).wr) ∧
    ∀ L, ρa i = some L → L.blk ≠ t ∧ ∃ o, W.heap[L.blk]? = some o ∧ OR ρa L (gt O.none i (putO [(ng, .c .nil ty false)] .leaf)) o := by
  intro i hlv
  rw [put_at] at hlv ⊢
  by_cases hin : i = ng
  · subst hin
    rw [if_pos rfl]
    exact ⟨⟨Nat.le_refl _, h, fun hw => Bool.noConfusion (show false = true from hw)⟩, fun L hL => by rw [hn] at hL; cases hL⟩
  · rw [if_neg hin] at hlv
    exact hlv.elim
theorem none_ob2 {nx ty : Nat} {W : World} {ρa : Ren} (h : ng < nx) (hn : ρa ng = none) : ∀ i, (gt O.none i (putO [(ng, .c .nil ty false)] .leaf)).live → (ng ≤ i ∧ i < nx ∧ ¬ (gt O.none i (putO [(ng, .c .nil ty false)] .leaf)).wr) ∧
    ∀ L, ρa i = some L → ∃ o, W.heap[L.blk]? = some o ∧ OR ρa L (gt O.none i (putO [(ng, .c .nil ty false)] .leaf)) o := fun i hi =>
  ⟨(none_ob' (t := 0) (W := W) h hn i hi).1, fun L hL => ((none_ob' (t := 0) (W := W) h hn i hi).2 L hL).2⟩
theorem strs_ob' {b off ty nx t : Nat} {W : World} {arr : Array Value} {fz : Nat × Nat} {vals : List Nat} {x : V} {vs rest : List Value} (hbt : b ≠ t) (hnx : ng < nx) (hblk : W.heap[b]? = some (.cells arr ty fz)) (hoff : off ≤ arr.size)
    (hcs : arr.toList.drop off = vs ++ rest) (hx : VRs (strsR ng b off arr.size vals) x vs) :
    ∀ i, (gt O.none i (putO [(ng, .c x ty false)] .leaf)).live → (ng ≤ i ∧ i < nx ∧ ¬ (gt O.none i (putO [(ng, .c x ty false)] .leaf)).wr) ∧
      ∀ L, strsR ng b off arr.size vals i = some L → L.blk ≠ t ∧ ∃ o, W.heap[L.blk]? = some o ∧ OR (strsR ng b off arr.size vals) L (gt O.none i (putO [(ng, .c x ty false)] .leaf)) o := by
  intro i hlv
  obtain ⟨h1, h2⟩ := strs_ob hnx hblk hoff hcs hx i hlv
  refine ⟨h1, fun L hL => ⟨?_, h2 L hL⟩⟩
  rw [put_at] at hlv
  by_cases hin : i = ng
  · subst hin
    have : L = ⟨b, off, arr.size⟩ := by simpa [strsR, eq_comm] using hL
    subst this
    exact hbt
  · rw [if_neg hin] at hlv
    exact hlv.elim
def lenV (ng a lo hi : Nat) : V := .o 3 (.cons (.x a .i64 lo hi) .nil) ng 0 0
theorem VR_len {b off sz cap n a lo hi : Nat} {vals : List Nat} (h1 : n ≤ cap) (h2 : off + cap ≤ sz) (ha : ∃ L, strsR ng b off sz vals a = some L ∧ L.base = n) (h : lo ≤ n ∧ n ≤ hi) : VR (strsR ng b off sz vals) (lenV ng a lo hi) (.slice (some ⟨b, off, none⟩) n cap) := by
  obtain ⟨L, e1, e2⟩ := ha
  simp only [lenV, VR, OV]
  refine .inl (.inr (.inr (.inl ⟨trivial, ⟨b, off, sz⟩, n, cap, by simp [strsR], ?_, h1, h2, rfl⟩)))
  simp only [LR, MR]
  exact ⟨n, 0, ⟨L, e1, by omega, by omega, by rw [e2]⟩, rfl, by omega⟩
theorem strs_apart {W : World} {b off t : Nat} {arr arr' : Array Value} {ty ty' : Nat} {fz : Nat × Nat} {l : List ByteArray} {ns : List Int} (h0 : 0 < l.length) (hblk : W.heap[b]? = some (.cells arr ty fz)) (hcs : (arr.toList.drop off).take l.length = l.map Value.string)
    (h1 : W.heap[t]? = some (.cells arr' ty' (0, 0))) (h2 : arr'.toList = ns.map fun n => Value.int .u64 n) : b ≠ t := by
  intro e
  subst e
  rw [hblk] at h1
  obtain ⟨rfl, _, _⟩ : arr = arr' ∧ ty = ty' ∧ fz = (0, 0) := by
    have h3 := Option.some.inj h1
    injection h3 with a b c
    exact ⟨a, b, c⟩
  rw [h2] at hcs
  match l, h0, hcs with
  | s :: r, _, hcs =>
    have hm : Value.string s ∈ (List.drop off (ns.map fun n => Value.int .u64 n)).take (s :: r).length := by rw [hcs]; exact List.mem_cons_self ..
    have hm2 := List.mem_of_mem_drop (List.mem_of_mem_take hm)
    obtain ⟨n, _, hn⟩ := List.mem_map.1 hm2
    cases hn
end
end Go.Mx
namespace Go.Mx
open Instr Builtin
noncomputable section
variable {P : Program} {ρ : Ren} {h : T O} {nx : Nat} {w : World} {ng : Nat}
def dec4 (x : V) (k : V → Bool) : Bool := V.rec (motive := fun _ => Bool) false (fun _ _ _ _ => false) (fun _ => false) (fun _ _ => false) (fun _ => false) (fun _ _ => false) false (fun _ _ _ _ => false) false false false (fun _ => false) false (fun _ _ _ => false) false (fun _ _ _ => false) false (fun _ _ => false) (fun _ _ => false)
  (fun _ _ _ _ => false) (fun _ _ => false) (fun _ _ _ _ _ => false) (fun t l _ _ _ _ => ite1 (Nat.beq t 4) (k l)) x
theorem dec4_spec {x : V} {k : V → Bool} (hk : dec4 x k = true) : ∃ l, k l = true ∧ ∀ ρ s, PR ρ x s → ∃ n, LR ρ l n ∧ s = Lib.itoa n := by
  cases x <;> first | exact Bool.noConfusion hk | skip
  case o t l a lo hi =>
    obtain ⟨e, hk2⟩ := ite1_spec (show ite1 (Nat.beq t 4) (k l) = true from hk)
    have e := Nat.eq_of_beq_eq_true e
    subst e
    refine ⟨l, hk2, fun ρ s hs => ?_⟩
    simp only [PR] at hs
    rcases hs with ⟨h1, _⟩ | ⟨_, _, _, n, h1, h2⟩
    · omega
    · exact ⟨n, h1, h2⟩
def numV (x : V) (k : V → Bool) : Bool := ropK x fun c => chain (M := Bool) false (fun y r _ => chain (M := Bool) (dec4 y k) (fun _ _ _ => false) r) c
theorem numV_spec {x : V} {k : V → Bool} (hk : numV x k = true) : ∃ l, k l = true ∧ ∀ ρ v, VR ρ x v → ∃ n, LR ρ l n ∧ v = .string ⟨(Lib.itoa n).toArray⟩ := by
  obtain ⟨c, hk2, hc⟩ := ropK_spec hk
  cases c <;> first | exact Bool.noConfusion hk2 | skip
  case cons y r =>
    have hk3 : (chain (M := Bool) (dec4 y k) (fun _ _ _ => false) r : Bool) = true := hk2
    cases r with
    | cons _ _ => exact Bool.noConfusion hk3
    | nil =>
      obtain ⟨l, h1, h2⟩ := dec4_spec (show dec4 y k = true from hk3)
      refine ⟨l, h1, fun ρ v hv => ?_⟩
      obtain ⟨b, rfl, hb⟩ := hc ρ v hv
      simp only [RR] at hb
      obtain ⟨s1, s2, g1, g2, g3⟩ := hb
      subst g2
      obtain ⟨n, g4, g5⟩ := h2 ρ s1 g1
      refine ⟨n, g4, ?_⟩
      rw [List.append_nil, g5] at g3
      congr 1
      apply ByteArray.ext
      apply Array.ext'
      exact g3
    | _ =>
      obtain ⟨l, h1, h2⟩ := dec4_spec (show dec4 y k = true from hk3)
      refine ⟨l, h1, fun ρ v hv => ?_⟩
      obtain ⟨b, rfl, hb⟩ := hc ρ v hv
      simp only [RR] at hb
      obtain ⟨s1, s2, g1, g2, g3⟩ := hb
      exact g2.elim
def hkNum (m : Nat) : HookF := fun args h nx K => arg0 args fun x r => chain (M := Bool) (numV x fun l => rgK l fun lo hi => ite1 (ile (Int.negSucc 9223372036854775807) lo) <| ite1 (ile hi (Int.ofNat 9223372036854775807)) <|
  Bool.rec (ite1 (ior (ilt (Int.ofNat m) lo) (ilt hi (Int.negSucc (Nat.pred m)))) <| K (.t (.cons (.i .i64 0) (.cons (.b false) .nil))) h nx) (K (.t (.cons (.o 2 l 3 0 0) (.cons (.b true) .nil))) h nx) (ite1 (ile (Int.negSucc (Nat.pred m)) lo) (ile hi (Int.ofNat m)))) (fun _ _ _ => false) r
theorem hkNum_ok (hn : NameOK P) {m : Nat} (hm : 0 < m) {g : Nat} {fn : Func} {cd : Code} (hf : P.funcs[g]? = some fn) (hb : fn.body = some cd)
    (hC : ∀ (n : Int) (w : World), -(m : Int) ≤ n → n ≤ m → Calls P g #[.string ⟨(Lib.itoa n).toArray⟩] w fun e w' => e = .returned (.tuple #[.int .i64 n, .bool true]) ∧ Stays w w')
    (hL : ∀ (n : Int) (w : World), -9223372036854775808 ≤ n → n ≤ 9223372036854775807 → n < -(m : Int) ∨ (m : Int) < n → Calls P g #[.string ⟨(Lib.itoa n).toArray⟩] w fun e w' => e = .returned (.tuple #[.int .i64 0, .bool false]) ∧ Stays w w') : HookOk P ng g (hkNum m) := by
  intro args h nx K Kp hk ρ w vs s gr hv
  obtain ⟨x, r, rfl, hk2⟩ := arg0_spec hk
  simp only [VRs] at hv
  obtain ⟨v1, l1, rfl, h1, h2⟩ := hv
  cases r <;> first | (simp only [VRs] at h2; done) | exact Bool.noConfusion hk2 | skip
  simp only [VRs] at h2
  subst h2
  obtain ⟨l, hk3, hl⟩ := numV_spec (show numV x (fun l => rgK l fun lo hi => ite1 (ile (Int.negSucc 9223372036854775807) lo) <| ite1 (ile hi (Int.ofNat 9223372036854775807)) <|
    Bool.rec (ite1 (ior (ilt (Int.ofNat m) lo) (ilt hi (Int.negSucc (Nat.pred m)))) <| K (.t (.cons (.i .i64 0) (.cons (.b false) .nil))) h nx) (K (.t (.cons (.o 2 l 3 0 0) (.cons (.b true) .nil))) h nx) (ite1 (ile (Int.negSucc (Nat.pred m)) lo) (ile hi (Int.ofNat m)))) = true from hk2)
  obtain ⟨lo, hi, hk4, hr⟩ := rgK_spec hk3
  obtain ⟨e1, hk5⟩ := ite1_spec hk4
  obtain ⟨e2, hk6⟩ := ite1_spec hk5
  have e1 := ile_spec e1
  have e2 := ile_spec e2
  obtain ⟨n, g1, rfl⟩ := hl ρ _ h1
  have g2 := hr ρ n g1
  have zm : Int.negSucc (Nat.pred m) = -(m : Int) := by
    cases m with
    | zero => exact absurd hm (by omega)
    | succ k =>
      show Int.negSucc k = -((k + 1 : Nat) : Int)
      omega
  have z0 : Int.ofNat m = (m : Int) := rfl
  have z1 : Int.ofNat 9223372036854775807 = 9223372036854775807 := rfl
  have z2 : Int.negSucc 9223372036854775807 = -9223372036854775808 := rfl
  rw [z1] at e2
  rw [z2] at e1
  cases e : ite1 (ile (Int.negSucc (Nat.pred m)) lo) (ile hi (Int.ofNat m)) with
  | true =>
    rw [e] at hk6
    obtain ⟨e3, e4⟩ := ite1_spec e
    have e3 := ile_spec e3
    have e4 := ile_spec e4
    rw [zm] at e3
    rw [z0] at e4
    refine upon_of_calls hn hf hb ((hC n w (by omega) (by omega)).mono fun e w' ⟨h1, h2⟩ => ⟨_, h1, ?_, h2⟩) s (show K (.t (.cons (.o 2 l 3 0 0) (.cons (.b true) .nil))) h nx = true from hk6)
    simp only [VR, VRs, OV]
    exact ⟨_, ⟨_, _, rfl, .inl (.inr (.inl ⟨trivial, n, g1, rfl⟩)), _, _, rfl, rfl, rfl⟩, rfl⟩
  | false =>
    rw [e] at hk6
    obtain ⟨e3, hk7⟩ := ite1_spec (show ite1 (ior (ilt (Int.ofNat m) lo) (ilt hi (Int.negSucc (Nat.pred m)))) (K (.t (.cons (.i .i64 0) (.cons (.b false) .nil))) h nx) = true from hk6)
    rw [ior_eq, Bool.or_eq_true] at e3
    refine upon_of_calls hn hf hb ((hL n w (by omega) (by omega) ?_).mono fun e w' ⟨h1, h2⟩ => ⟨_, h1, ?_, h2⟩) s hk7
    · rcases e3 with e3 | e3
      · have e3 := ilt_spec e3
        rw [z0] at e3
        exact .inr (by omega)
      · have e3 := ilt_spec e3
        rw [zm] at e3
        exact .inl (by omega)
    · simp only [VR, VRs]
      exact ⟨_, ⟨_, _, rfl, rfl, _, _, rfl, rfl, rfl⟩, rfl⟩
def rngV (a lo hi : Nat) : V := .o 2 (.cons (.o 7 .nil a lo hi) .nil) 3 0 0
theorem VR_rng {a lo hi : Nat} {n : Int} (ha : ∃ L, ρ a = some L ∧ L.base = zz n) (h1 : unzz lo ≤ n) (h2 : n ≤ unzz hi) : VR ρ (rngV a lo hi) (.int .i64 n) := by
  obtain ⟨L, e1, e2⟩ := ha
  simp only [rngV, VR, OV]
  refine .inl (.inr (.inl ⟨trivial, n, ?_, rfl⟩))
  simp only [LR, MR]
  exact ⟨n, 0, .inr (.inr (.inr (.inl ⟨trivial, L, e1, by rw [e2, unzz_zz], h1, h2⟩))), rfl, by omega⟩
end
end Go.Mx
namespace Go.Mx
open Instr Builtin
noncomputable section
variable {P : Program} {ρ : Ren} {h : T O} {nx : Nat} {w : World} {ng : Nat}
def hkDig (T W : V) : HookF := fun args h nx K => arg0 args fun x r => chain (M := Bool) (linK x fun kd l => ite1 (Nat.beq kd 3) <| ite1 (sameV l T) <| K (.w W) h nx) (fun _ _ _ => false) r
theorem hkDig_ok (hn : NameOK P) {T W : V} {g : Nat} {fn : Func} {cd : Code} (hf : P.funcs[g]? = some fn) (hb : fn.body = some cd)
    (hT : ∀ (ρ : Ren) (n : Int), LR ρ T n → 0 ≤ n ∧ n ≤ 9223372036854775807 ∧ VR ρ (.w W) (.string ⟨(Lib.itoa n).toArray⟩))
    (hC : ∀ (n : Int) (w : World), 0 ≤ n → n ≤ 9223372036854775807 → Calls P g #[.int .i64 n] w fun e w' => e = .returned (.string ⟨(Lib.itoa n).toArray⟩) ∧ Stays w w') : HookOk P ng g (hkDig T W) := by
  intro args h nx K Kp hk ρ w vs s gr hv
  obtain ⟨x, r, rfl, hk2⟩ := arg0_spec hk
  simp only [VRs] at hv
  obtain ⟨v1, l1, rfl, h1, h2⟩ := hv
  cases r <;> first | (simp only [VRs] at h2; done) | exact Bool.noConfusion hk2 | skip
  simp only [VRs] at h2
  subst h2
  obtain ⟨kd, l, hk3, hx⟩ := linK_spec (show linK x (fun kd l => ite1 (Nat.beq kd 3) <| ite1 (sameV l T) <| K (.w W) h nx) = true from hk2)
  obtain ⟨e0, hk4⟩ := ite1_spec hk3
  have e0 := Nat.eq_of_beq_eq_true e0
  subst e0
  obtain ⟨e1, hk5⟩ := ite1_spec hk4
  have e1 := sameV_eq e1
  subst e1
  obtain ⟨n, g1, rfl⟩ := hx ρ _ h1
  obtain ⟨a1, a2, a3⟩ := hT ρ n g1
  exact upon_of_calls hn hf hb ((hC n w a1 a2).mono fun e w' ⟨h1, h2⟩ => ⟨_, h1, a3, h2⟩) s hk5
theorem LR_cons' {x r : V} {n : Int} (h : LR ρ (.cons x r) n) : ∃ m k, MR ρ x m ∧ LR ρ r k ∧ n = m + k := by simpa only [LR] using h
theorem LR_nil' {n : Int} (h : LR ρ .nil n) : n = 0 := by simpa only [LR] using h
theorem MR_x' {a lo hi : Nat} {k : IntKind} {m : Int} (h : MR ρ (.x a k lo hi) m) : ∃ L, ρ a = some L ∧ lo ≤ L.base ∧ L.base ≤ hi ∧ m = L.base := by simpa only [MR] using h
theorem MR_6' {y : V} {p q : Nat} {m : Int} (h : MR ρ (.o 6 y 0 p q) m) : ∃ k, MR ρ y k ∧ m = Int.subNatNat p q * k := by
  simp only [MR] at h
  rcases h with ⟨h, _⟩ | ⟨h, _⟩ | ⟨_, k, h1, h2⟩ | ⟨h, _⟩ | ⟨h, _⟩
  · omega
  · omega
  · exact ⟨k, h1, h2⟩
  · omega
  · omega
theorem MR_one' {m : Int} (h : MR ρ oneV m) : m = 1 := by
  simp only [oneV, MR] at h
  exact h
theorem dec_two {u : Nat} (h : ¬ u < 10) : Lib.decDigits u = Lib.decDigits (u / 10) ++ [UInt8.ofNat (48 + u % 10)] := by rw [Lib.decDigits, dif_neg h]
theorem VR_w' {W : V} {l : List UInt8} (h : VRs ρ W (l.map byteV)) : VR ρ (.w W) (.string ⟨l.toArray⟩) := by
  simp only [VR]
  exact ⟨_, rfl, by unfold bytesV; simpa using h⟩
theorem VR_xb {a lo hi m : Nat} {L : Loc} (ha : ρ a = some L) (h : lo ≤ L.base ∧ L.base ≤ hi) (hm : L.base = m) (h2 : m < 256) : VR ρ (.x a .u8 lo hi) (byteV (UInt8.ofNat m)) := by
  simp only [VR]
  refine ⟨L, ha, h.1, h.2, ?_⟩
  unfold byteV
  rw [hm]
  congr 1
  simp
  omega
def t1V (a lo hi p q : Nat) : V := .cons (.x a .u8 lo hi) (.cons (.o 6 oneV 0 p q) .nil)
def t2V (a l1 h1 b l2 h2 p q : Nat) : V := .cons (.o 6 (.x a .u8 l1 h1) 0 10 0) (.cons (.x b .u8 l2 h2) (.cons (.o 6 oneV 0 p q) .nil))
theorem t1_spec {a lo hi p q : Nat} {n : Int} (h : LR ρ (t1V a lo hi p q) n) : ∃ L, ρ a = some L ∧ lo ≤ L.base ∧ L.base ≤ hi ∧ n = (L.base : Int) + Int.subNatNat p q := by
  obtain ⟨m, k, h1, h2, rfl⟩ := LR_cons' h
  obtain ⟨L, e1, e2, e3, rfl⟩ := MR_x' h1
  obtain ⟨m2, k2, h3, h4, rfl⟩ := LR_cons' h2
  obtain ⟨m3, h5, rfl⟩ := MR_6' h3
  rw [MR_one' h5, LR_nil' h4, Int.mul_one, Int.add_zero]
  exact ⟨L, e1, e2, e3, rfl⟩
theorem t2_spec {a l1 u1 b l2 u2 p q : Nat} {n : Int} (h : LR ρ (t2V a l1 u1 b l2 u2 p q) n) : ∃ L M, (ρ a = some L ∧ l1 ≤ L.base ∧ L.base ≤ u1) ∧ (ρ b = some M ∧ l2 ≤ M.base ∧ M.base ≤ u2) ∧ n = 10 * (L.base : Int) + M.base + Int.subNatNat p q := by
  obtain ⟨m, k, h1, h2, rfl⟩ := LR_cons' h
  obtain ⟨m0, g1, rfl⟩ := MR_6' h1
  obtain ⟨L, e1, e2, e3, rfl⟩ := MR_x' g1
  obtain ⟨m2, k2, h3, h4, rfl⟩ := LR_cons' h2
  obtain ⟨M, f1, f2, f3, rfl⟩ := MR_x' h3
  obtain ⟨m4, k4, h5, h6, rfl⟩ := LR_cons' h4
  obtain ⟨m5, h7, rfl⟩ := MR_6' h5
  rw [MR_one' h7, LR_nil' h6, Int.mul_one, Int.add_zero]
  refine ⟨L, M, ⟨e1, e2, e3⟩, ⟨f1, f2, f3⟩, ?_⟩
  show Int.subNatNat 10 0 * (L.base : Int) + _ = _
  rw [show Int.subNatNat 10 0 = 10 from rfl, Int.add_assoc]
theorem LR_t1 {a lo hi p q : Nat} {n : Nat} (ha : ∃ L, ρ a = some L ∧ L.base = n) (h : lo ≤ n ∧ n ≤ hi) : LR ρ (t1V a lo hi p q) ((n : Int) + Int.subNatNat p q) := by
  obtain ⟨L, h1, rfl⟩ := ha
  simp only [t1V, LR, MR, oneV]
  exact ⟨_, _, ⟨L, h1, h.1, h.2, rfl⟩, ⟨_, 0, .inr (.inr (.inl ⟨trivial, 1, rfl, rfl⟩)), rfl, rfl⟩, by omega⟩
theorem LR_t2 {a l1 u1 b l2 u2 p q m n : Nat} (ha : ∃ L, ρ a = some L ∧ L.base = m) (h : l1 ≤ m ∧ m ≤ u1) (hb : ∃ L, ρ b = some L ∧ L.base = n) (g : l2 ≤ n ∧ n ≤ u2) : LR ρ (t2V a l1 u1 b l2 u2 p q) (10 * (m : Int) + n + Int.subNatNat p q) := by
  obtain ⟨L, e1, rfl⟩ := ha
  obtain ⟨M, e2, rfl⟩ := hb
  simp only [t2V, LR, MR, oneV]
  refine ⟨_, _, .inr (.inr (.inl ⟨trivial, _, ⟨L, e1, h.1, h.2, rfl⟩, rfl⟩)), ⟨_, _, ⟨M, e2, g.1, g.2, rfl⟩, ⟨_, 0, .inr (.inr (.inl ⟨trivial, 1, rfl, rfl⟩)), rfl, rfl⟩, rfl⟩, ?_⟩
  show _ = Int.subNatNat 10 0 * (L.base : Int) + _
  rw [show Int.subNatNat 10 0 = 10 from rfl]
  omega
theorem VR_t1 {a lo hi p q n : Nat} {v : Int} (ha : ∃ L, ρ a = some L ∧ L.base = n) (h : lo ≤ n ∧ n ≤ hi) (e : (n : Int) + Int.subNatNat p q = v) : VR ρ (.o 2 (t1V a lo hi p q) 3 0 0) (.int .i64 v) := by
  simp only [VR, OV]
  exact .inl (.inr (.inl ⟨trivial, v, e ▸ LR_t1 ha h, rfl⟩))
theorem VR_t2 {a l1 u1 b l2 u2 p q m n : Nat} {v : Int} (ha : ∃ L, ρ a = some L ∧ L.base = m) (h : l1 ≤ m ∧ m ≤ u1) (hb : ∃ L, ρ b = some L ∧ L.base = n) (g : l2 ≤ n ∧ n ≤ u2) (e : 10 * (m : Int) + n + Int.subNatNat p q = v) : VR ρ (.o 2 (t2V a l1 u1 b l2 u2 p q) 3 0 0) (.int .i64 v) := by
  simp only [VR, OV]
  exact .inl (.inr (.inl ⟨trivial, v, e ▸ LR_t2 ha h hb g, rfl⟩))
theorem dig_one (a : Nat) (ρ : Ren) (n : Int) (h : LR ρ (t1V a 49 57 0 48) n) : 0 ≤ n ∧ n ≤ 9223372036854775807 ∧ VR ρ (.w (.cons (.x a .u8 49 57) .nil)) (.string ⟨(Lib.itoa n).toArray⟩) := by
  obtain ⟨L, e1, e2, e3, e4⟩ := t1_spec h
  rw [show Int.subNatNat 0 48 = -48 from rfl] at e4
  obtain ⟨u, hu⟩ : ∃ u : Nat, L.base = 48 + u := ⟨L.base - 48, by omega⟩
  have en : n = (u : Int) := by omega
  subst en
  refine ⟨by omega, by omega, VR_w' ?_⟩
  rw [itoa_pos, Lib.decDigits_one (by omega)]
  simp only [List.map_cons, List.map_nil, VRs]
  exact ⟨_, _, rfl, VR_xb e1 ⟨e2, e3⟩ hu (by omega), rfl⟩
theorem dig_two (a b : Nat) (ρ : Ren) (n : Int) (h : LR ρ (t2V a 49 57 b 48 57 0 528) n) : 0 ≤ n ∧ n ≤ 9223372036854775807 ∧ VR ρ (.w (.cons (.x a .u8 49 57) (.cons (.x b .u8 48 57) .nil))) (.string ⟨(Lib.itoa n).toArray⟩) := by
  obtain ⟨L, M, ⟨e1, e2, e3⟩, ⟨f1, f2, f3⟩, e4⟩ := t2_spec h
  rw [show Int.subNatNat 0 528 = -528 from rfl] at e4
  obtain ⟨u, hu⟩ : ∃ u : Nat, n = (u : Int) := ⟨n.toNat, by omega⟩
  subst hu
  refine ⟨by omega, by omega, VR_w' ?_⟩
  rw [itoa_pos, dec_two (by omega), Lib.decDigits_one (by omega)]
  simp only [List.cons_append, List.nil_append, List.map_cons, List.map_nil, VRs]
  exact ⟨_, _, rfl, VR_xb e1 ⟨e2, e3⟩ (by omega) (by omega), _, _, rfl, VR_xb f1 ⟨f2, f3⟩ (by omega) (by omega), rfl⟩
theorem VR_ib {m : Nat} {c : UInt8} (h : c.toNat = m) : VR ρ (.i .u8 (Int.ofNat m)) (byteV c) := by
  simp only [VR]
  unfold byteV
  rw [h]
  rfl
theorem dig_three (p a b lo hi k : Nat) (hp : p < 10) (h0 : 0 < p) (hk : 528 = k + 100 * p) (hl : 48 ≤ lo) (hh : hi ≤ 57) (ρ : Ren) (n : Int) (h : LR ρ (t2V a lo hi b 48 57 0 k) n) : 0 ≤ n ∧ n ≤ 9223372036854775807 ∧ VR ρ (.w (.cons (.i .u8 (Int.ofNat (48 + p))) (.cons (.x a .u8 lo hi) (.cons (.x b .u8 48 57) .nil)))) (.string ⟨(Lib.itoa n).toArray⟩) := by
  obtain ⟨L, M, ⟨e1, e2, e3⟩, ⟨f1, f2, f3⟩, e4⟩ := t2_spec h
  rw [show Int.subNatNat 0 k = -(k : Int) from by simp [Int.subNatNat_eq_coe]] at e4
  obtain ⟨u, hu⟩ : ∃ u : Nat, n = (u : Int) := ⟨n.toNat, by omega⟩
  subst hu
  refine ⟨by omega, by omega, VR_w' ?_⟩
  rw [itoa_pos, dec_two (by omega), dec_two (by omega), Lib.decDigits_one (by omega)]
  simp only [List.cons_append, List.nil_append, List.map_cons, List.map_nil, VRs]
  refine ⟨_, _, rfl, ?_, _, _, rfl, VR_xb e1 ⟨e2, e3⟩ (by omega) (by omega), _, _, rfl, VR_xb f1 ⟨f2, f3⟩ (by omega) (by omega), rfl⟩
  rw [show u / 10 / 10 = p by omega]
  exact VR_ib (by simp; omega)
theorem dig_last (a : Nat) (ρ : Ren) (n : Int) (h : LR ρ (t1V a 48 53 202 0) n) : 0 ≤ n ∧ n ≤ 9223372036854775807 ∧ VR ρ (.w (.cons (.i .u8 50) (.cons (.i .u8 53) (.cons (.x a .u8 48 53) .nil)))) (.string ⟨(Lib.itoa n).toArray⟩) := by
  obtain ⟨L, e1, e2, e3, e4⟩ := t1_spec h
  rw [show Int.subNatNat 202 0 = 202 from rfl] at e4
  obtain ⟨u, hu⟩ : ∃ u : Nat, n = (u : Int) := ⟨n.toNat, by omega⟩
  subst hu
  refine ⟨by omega, by omega, VR_w' ?_⟩
  rw [itoa_pos, dec_two (by omega), dec_two (by omega), Lib.decDigits_one (by omega)]
  simp only [List.cons_append, List.nil_append, List.map_cons, List.map_nil, VRs]
  refine ⟨_, _, rfl, ?_, _, _, rfl, ?_, _, _, rfl, VR_xb e1 ⟨e2, e3⟩ (by omega) (by omega), rfl⟩
  · rw [show u / 10 / 10 = 2 by omega]
    exact VR_ib (m := 50) (by decide)
  · rw [show u / 10 % 10 = 5 by omega]
    exact VR_ib (m := 53) (by decide)
def digK (c : V) : Bool := chain (M := Bool) true (fun x _ ih => rngK x fun _ lo hi _ => ite1 (Nat.ble 48 lo) <| ite1 (Nat.ble hi 57) ih) c
theorem digK_spec : ∀ {c : V} {s : List UInt8}, digK c = true → RR ρ c s → ∀ b ∈ s, 48 ≤ b.toNat ∧ b.toNat ≤ 57 := by
  intro c
  induction c with
  | nil => intro s _ hs b hb; simp only [RR] at hs; subst hs; cases hb
  | cons x r _ ih =>
    intro s hk hs b hb
    obtain ⟨_, lo, hi, i, hk2, hr⟩ := rngK_spec (v := x) (show rngK x (fun _ lo hi _ => ite1 (Nat.ble 48 lo) <| ite1 (Nat.ble hi 57) (digK r)) = true from hk)
    obtain ⟨e1, hk3⟩ := ite1_spec hk2
    obtain ⟨e2, hk4⟩ := ite1_spec hk3
    have e1 := Nat.ble_eq.mp e1
    have e2 := Nat.ble_eq.mp e2
    simp only [RR] at hs
    obtain ⟨s1, s2, h1, h2, rfl⟩ := hs
    rcases List.mem_append.1 hb with hb | hb
    · cases x <;> first | (exact Bool.noConfusion hk; done) | skip
      case i kd n =>
        simp only [PR] at h1
        obtain ⟨rfl, c, rfl, rfl⟩ := h1
        obtain ⟨m, g1, g2⟩ := hr ρ _ (VRi _ _ _)
        rw [List.mem_singleton] at hb
        subst hb
        injection g1 with _ g1
        have g3 := g2.1
        have g4 := g2.2.1
        omega
      case x a kd l u =>
        simp only [PR] at h1
        obtain ⟨rfl, c, L, rfl, q1, q2, q3, q4⟩ := h1
        obtain ⟨m, g1, g2⟩ := hr ρ (.int .u8 (L.base : Int)) (by simp only [VR]; exact ⟨L, q1, q2, q3, rfl⟩)
        rw [List.mem_singleton] at hb
        subst hb
        injection g1 with _ g1
        have g3 := g2.1
        have g4 := g2.2.1
        omega
    · exact ih hk4 h2 b hb
  | _ => intro s _ hs; simp [RR] at hs
def hkTrimDig : HookF := fun args h nx K => arg0 args fun x r => arg0 r fun y r' => chain (M := Bool) (ropK x fun c => ite1 (digK c) <| atMost c 1000 fun _ => ite1 (sameV y (.s [48, 49, 50, 51, 52, 53, 54, 55, 56, 57])) <| K (.s []) h nx) (fun _ _ _ => false) r'
theorem hkTrimDig_ok (hn : NameOK P) {g : Nat} {fn : Func} {cd : Code} (hf : P.funcs[g]? = some fn) (hb : fn.body = some cd)
    (hC : ∀ (s : ByteArray) (w : World), s.size ≤ 1000 → (∀ b ∈ s.data.toList, 48 ≤ b.toNat ∧ b.toNat ≤ 57) → Calls P g #[.string s, .string ⟨#[48, 49, 50, 51, 52, 53, 54, 55, 56, 57]⟩] w fun e w' => e = .returned (.string ⟨#[]⟩) ∧ Stays w w') : HookOk P ng g hkTrimDig := by
  intro args h nx K Kp hk ρ w vs s gr hv
  obtain ⟨x, r, rfl, hk2⟩ := arg0_spec hk
  obtain ⟨y, r', rfl, hk3⟩ := arg0_spec hk2
  simp only [VRs] at hv
  obtain ⟨v1, l1, rfl, h1, v2, l2, rfl, h2, h3⟩ := hv
  cases r' <;> first | (simp only [VRs] at h3; done) | exact Bool.noConfusion hk3 | skip
  simp only [VRs] at h3
  subst h3
  obtain ⟨c, hk4, hc⟩ := ropK_spec (show ropK x (fun c => ite1 (digK c) <| atMost c 1000 fun _ => ite1 (sameV y (.s [48, 49, 50, 51, 52, 53, 54, 55, 56, 57])) <| K (.s []) h nx) = true from hk3)
  obtain ⟨e1, hk5⟩ := ite1_spec hk4
  obtain ⟨l, hk6, hl⟩ := atMost_spec hk5
  obtain ⟨e2, hk7⟩ := ite1_spec hk6
  have e2 := sameV_eq e2
  subst e2
  obtain ⟨b, rfl, hbb⟩ := hc ρ _ h1
  simp only [VR] at h2
  obtain ⟨rfl, _⟩ := h2
  have hz := (hl ρ _ hbb).2
  exact upon_of_calls hn hf hb ((hC b w hz (digK_spec e1 hbb)).mono fun e w' ⟨h1, h2⟩ => ⟨_, h1, by simp only [VR]; exact ⟨rfl, by simp⟩, h2⟩) s hk7
end
end Go.Mx
