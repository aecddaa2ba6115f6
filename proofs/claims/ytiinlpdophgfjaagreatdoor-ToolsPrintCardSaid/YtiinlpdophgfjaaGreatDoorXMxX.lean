/-
  A part of a small executor of the model, proved sound (22 of 35). No condition.
-/
import Derived.Test.YtiinlpdophgfjaaGreatDoorXMxQ
import Derived.Lib.ItoaLen
import Derived.Test.YtiinlpdophgfjaaGreatDoorXRowK6
import Derived.Sort.Grow
import Derived.Lib.LaidTab
import Derived.Deep.Draws
namespace Go.Mx
open Instr Builtin
noncomputable section
variable {P : Program} {ρ : Ren} {h : T O} {nx : Nat} {w : World} {ng : Nat}
def decK (fuel : Nat) : Nat → List Nat → (List Nat → Bool) → Bool := Nat.rec (motive := fun _ => Nat → List Nat → (List Nat → Bool) → Bool) (fun _ _ _ => false)
  (fun _ ih n acc k => Bool.rec (forceN (Nat.add 48 (Nat.mod n 10)) fun d => forceN (Nat.div n 10) fun q => ih q (d :: acc) k) (forceN (Nat.add 48 n) fun d => k (d :: acc)) (Nat.blt n 10)) fuel
theorem decK_spec : ∀ {fuel n : Nat} {acc : List Nat} {k : List Nat → Bool}, decK fuel n acc k = true → (∀ a ∈ acc, a < 256) → ∃ l, k l = true ∧ (∀ a ∈ l, a < 256) ∧ l.map UInt8.ofNat = Lib.decDigits n ++ acc.map UInt8.ofNat := by
  intro fuel
  induction fuel with
  | zero => intro n acc k hk _; exact Bool.noConfusion hk
  | succ fuel ih =>
    intro n acc k hk ha
    have hk' : (Bool.rec (forceN (Nat.add 48 (Nat.mod n 10)) fun d => forceN (Nat.div n 10) fun q => decK fuel q (d :: acc) k) (forceN (Nat.add 48 n) fun d => k (d :: acc)) (Nat.blt n 10) : Bool) = true := hk
    cases e : Nat.blt n 10 with
    | true =>
      have e1 := Nat.blt_eq.mp e
      rw [e] at hk'
      have hk2 : forceN (Nat.add 48 n) (fun d => k (d :: acc)) = true := hk'
      rw [forceN_eq] at hk2
      refine ⟨_, hk2, fun a h => ?_, ?_⟩
      · rcases List.mem_cons.1 h with rfl | h
        · show 48 + n < 256
          omega
        · exact ha a h
      · rw [Lib.decDigits_one e1]
        rfl
    | false =>
      have e1 : ¬ n < 10 := fun h => by rw [Nat.blt_eq.mpr h] at e; cases e
      rw [e] at hk'
      have hk2 : forceN (Nat.add 48 (Nat.mod n 10)) (fun d => forceN (Nat.div n 10) fun q => decK fuel q (d :: acc) k) = true := hk'
      rw [forceN_eq, forceN_eq] at hk2
      obtain ⟨l, h1, h2, h3⟩ := ih hk2 (fun a h => by
        rcases List.mem_cons.1 h with rfl | h
        · show 48 + n % 10 < 256
          omega
        · exact ha a h)
      refine ⟨l, h1, h2, h3.trans ?_⟩
      have e2 : Lib.decDigits n = Lib.decDigits (n / 10) ++ [UInt8.ofNat (48 + n % 10)] := by rw [Lib.decDigits, dif_neg e1]
      rw [e2, List.append_assoc]
      rfl
def decV (lo : Int) (x : V) (k : V → Bool) : Bool := linK x fun kd l => ite1 (Nat.beq kd 3) <| rgK l fun a b => ite1 (ile lo a) <| ite1 (ile b (Int.ofNat 9223372036854775807)) <|
  Bool.rec (k (.o 0 (.cons (.o 4 l 0 1 21) .nil) 0 0 0)) (Int.rec (motive := fun _ => Bool) (fun n => decK 20 n [] fun t => k (.s t)) (fun m => decK 20 (Nat.succ m) [] fun t => k (.s (45 :: t))) a) (ieq a b)
theorem itoa_len_pos (n : Int) : 1 ≤ (Lib.itoa n).length := by
  unfold Lib.itoa
  split
  · simp
  · rw [Lib.decDigits_length]
    exact Lib.nDigits_pos _
theorem bs_ofNat (l : List Nat) : (bs l) = ⟨(l.map UInt8.ofNat).toArray⟩ := by
  unfold bs
  rfl
theorem decV_spec {lo : Int} {x : V} {k : V → Bool} (hk : decV lo x k = true) (hlo : -9223372036854775808 ≤ lo) : ∃ y, k y = true ∧ ∀ ρ v, VR ρ x v → ∃ n : Int, v = .int .i64 n ∧ lo ≤ n ∧ n ≤ 9223372036854775807 ∧ VR ρ y (.string ⟨(Lib.itoa n).toArray⟩) := by
  obtain ⟨kd, l, hk1, hx⟩ := linK_spec (show linK x (fun kd l => ite1 (Nat.beq kd 3) <| rgK l fun a b => ite1 (ile lo a) <| ite1 (ile b (Int.ofNat 9223372036854775807)) <|
    Bool.rec (k (.o 0 (.cons (.o 4 l 0 1 21) .nil) 0 0 0)) (Int.rec (motive := fun _ => Bool) (fun n => decK 20 n [] fun t => k (.s t)) (fun m => decK 20 (Nat.succ m) [] fun t => k (.s (45 :: t))) a) (ieq a b)) = true from hk)
  obtain ⟨e0, hk2⟩ := ite1_spec hk1
  have e0 := Nat.eq_of_beq_eq_true e0
  subst e0
  obtain ⟨a, b, hk3, hr⟩ := rgK_spec hk2
  obtain ⟨e1, hk4⟩ := ite1_spec hk3
  obtain ⟨e2, hk5⟩ := ite1_spec hk4
  have e1 := ile_spec e1
  have e2 := ile_spec e2
  have e2' : b ≤ 9223372036854775807 := e2
  cases e : ieq a b with
  | false =>
    rw [e] at hk5
    refine ⟨_, hk5, fun ρ v hv => ?_⟩
    obtain ⟨n, h1, h2⟩ := hx ρ v hv
    have h3 := hr ρ n h1
    refine ⟨n, h2, by omega, by omega, VR_rope ?_⟩
    simp only [RR]
    refine ⟨Lib.itoa n, [], ?_, rfl, by simp⟩
    simp only [PR]
    exact .inr ⟨trivial, itoa_len_pos n, Lib.itoa_length_le n (by omega) (by omega), n, h1, rfl⟩
  | true =>
    rw [e] at hk5
    rw [ieq_eq] at e
    have e3 : a = b := by simpa using e
    subst e3
    cases a with
    | negSucc m =>
      obtain ⟨t, h1, h2, h3⟩ := decK_spec (show decK 20 (Nat.succ m) [] (fun t => k (.s (45 :: t))) = true from hk5) (fun a h => by cases h)
      refine ⟨_, h1, fun ρ v hv => ?_⟩
      obtain ⟨n, g1, g2⟩ := hx ρ v hv
      have h4 := hr ρ n g1
      have e4 : n = -((m + 1 : Nat) : Int) := by
        have z : Int.negSucc m = -((m + 1 : Nat) : Int) := rfl
        omega
      have z2 : Int.negSucc m = -((m + 1 : Nat) : Int) := rfl
      subst e4
      refine ⟨_, g2, by omega, by omega, ?_⟩
      simp only [VR]
      refine ⟨?_, fun q hq => ?_⟩
      · rw [bs_ofNat, List.map_cons, h3, itoa_neg' (by omega)]
        simp
      · rcases List.mem_cons.1 hq with rfl | hq
        · decide
        · exact h2 q hq
    | ofNat m =>
      obtain ⟨t, h1, h2, h3⟩ := decK_spec (show decK 20 m [] (fun t => k (.s t)) = true from hk5) (fun a h => by cases h)
      refine ⟨_, h1, fun ρ v hv => ?_⟩
      obtain ⟨n, g1, g2⟩ := hx ρ v hv
      have h4 := hr ρ n g1
      have e4 : n = (m : Int) := by
        have z : Int.ofNat m = (m : Int) := rfl
        omega
      subst e4
      refine ⟨_, g2, by omega, by omega, ?_⟩
      simp only [VR]
      refine ⟨?_, h2⟩
      rw [bs_ofNat, h3]
      unfold Lib.itoa
      rw [if_neg (by omega)]
      simp
def hkDec (lo : Int) : HookF := fun args h nx K => arg0 args fun x r => chain (decV lo x fun y => K y h nx) (fun _ _ _ => false) r
theorem hkDec_ok (hn : NameOK P) {lo : Int} (hlo : -9223372036854775808 ≤ lo) {g : Nat} {fn : Func} {cd : Code} (hf : P.funcs[g]? = some fn) (hb : fn.body = some cd)
    (hC : ∀ (n : Int) (w : World), lo ≤ n → n ≤ 9223372036854775807 → Calls P g #[.int .i64 n] w fun e w' => e = .returned (.string ⟨(Lib.itoa n).toArray⟩) ∧ Stays w w') : HookOk P ng g (hkDec lo) := by
  intro args h nx K Kp hk ρ w vs s _ hv
  obtain ⟨x, r, rfl, hk2⟩ := arg0_spec hk
  simp only [VRs] at hv
  obtain ⟨v1, l1, rfl, h1, h2⟩ := hv
  cases r <;> first | (simp only [VRs] at h2; done) | exact Bool.noConfusion hk2 | skip
  simp only [VRs] at h2
  subst h2
  obtain ⟨y, g1, g2⟩ := decV_spec (show decV lo x (fun y => K y h nx) = true from hk2) hlo
  obtain ⟨n, rfl, a1, a2, hv⟩ := g2 ρ _ h1
  exact upon_of_calls hn hf hb ((hC n w a1 a2).mono fun e w' ⟨h1, h2⟩ => ⟨_, h1, hv, h2⟩) s g1
end
end Go.Mx
namespace Go.Mx
open Instr Builtin
noncomputable section
variable {P : Program} {ρ : Ren} {h : T O} {nx : Nat} {w : World} {ng : Nat}
def powV : V := tabV .u64 [1, 10, 100, 1000, 10000, 100000, 1000000, 10000000, 100000000, 1000000000, 10000000000, 100000000000, 1000000000000, 10000000000000, 100000000000000, 1000000000000000, 10000000000000000, 100000000000000000, 1000000000000000000, 10000000000000000000]
theorem pow_eq : Lib.pow10Tab = [1, 10, 100, 1000, 10000, 100000, 1000000, 10000000, 100000000, 1000000000, 10000000000, 100000000000, 1000000000000, 10000000000000, 100000000000000, 1000000000000000, 10000000000000000, 100000000000000000, 1000000000000000000, 10000000000000000000] := by decide
theorem VRs_tab (k : IntKind) : ∀ {l : List Int} {vs : List Value}, VRs ρ (tabV k l) vs → vs = l.map fun n => Value.int k n
  | [], vs, h => by simpa [tabV, VRs] using h
  | n :: r, vs, h => by
    simp only [tabV, VRs] at h
    obtain ⟨y, ys, rfl, h1, h2⟩ := h
    simp only [VR] at h1
    rw [h1, VRs_tab k h2]
    rfl
theorem VRs_tab' (k : IntKind) : ∀ l : List Int, VRs ρ (tabV k l) (l.map fun n => Value.int k n)
  | [] => by simp [tabV, VRs]
  | n :: r => by
    simp only [tabV, VRs, List.map_cons]
    exact ⟨_, _, rfl, by simp [VR], VRs_tab' k r⟩
def isPow (g : Nat) (h : T O) : Bool := oV (gt O.none g h) fun l _ => sameV l powV
theorem oV_spec' {o : O} {k : V → Nat → Bool} (h : oV o k = true) : ∃ l ty, o = .v l ty ∧ k l ty = true := by cases o <;> first | (simp [oV] at h; done) | exact ⟨_, _, rfl, h⟩
theorem isPow_spec {g : Nat} {name : String} (hk : isPow g h = true) (hg : g < ng) (hnm : P.globalNamed name = some g) (s : St ρ h nx w) (gr : RG ng ρ) : Lib.TabIs P w name .u64 Lib.pow10Tab := by
  obtain ⟨l, ty, e, h1⟩ := oV_spec' hk
  have h1 := sameV_eq h1
  subst h1
  obtain ⟨L, hL, hb, _⟩ := gr g hg
  obtain ⟨o, ho, hr⟩ := s.rel g L (by rw [e]; trivial) hL
  rw [e] at hr
  obtain ⟨vs, rfl, _, _, hv⟩ := hr
  have hvs := VRs_tab .u64 hv
  subst hvs
  rw [hb] at ho
  unfold Lib.TabIs World.var?
  rw [hnm, pow_eq]
  show (match w.heap[g]? with | some (.cells cs _ _) => some cs | _ => none) = _
  rw [ho]
theorem stays_grow (w : World) (k : Nat) (os : Array Obj) : Stays w (Go.Sort.grow (w.drewN k) os) :=
  ⟨by show w.heap.size ≤ (w.heap ++ os).size; simp, rfl, rfl, rfl, fun b hb => by show (w.heap ++ os)[b]? = _; rw [Array.getElem?_append_left hb]⟩
def isTb (ty : Nat) (o : O) : Bool := oV o fun l u => ite1 (Nat.beq u ty) <| sameV l powV
theorem isTb_self (ty : Nat) : isTb ty (.v powV ty) = true := by
  show ite1 (Nat.beq ty ty) (sameV powV powV) = true
  rw [show Nat.beq ty ty = true from Nat.beq_refl ty]
  decide
theorem hkL_cons {p : Nat × HookF} {l : List (Nat × HookF)} (h1 : HookOk P ng p.1 p.2) (h2 : HKok P ng (hkL l)) : HKok P ng (hkL (p :: l)) := by
  intro g f hf
  have hf : (Bool.rec (hkL l g) (some p.2) (Nat.beq p.1 g) : Option HookF) = some f := hf
  cases e : Nat.beq p.1 g with
  | true =>
    rw [e] at hf
    cases hf
    have e := beq_spec e
    subst e
    exact h1
  | false =>
    rw [e] at hf
    exact h2 g f hf
theorem put_at {ng : Nat} {x : O} (i : Nat) : gt O.none i (putO [(ng, x)] (.leaf : T O)) = if i = ng then x else O.none := by
  show gt O.none i (st O.none x ng .leaf) = _
  by_cases hin : i = ng
  · subst hin
    rw [gt_st_same, if_pos rfl]
  · rw [gt_st_ne _ _ (Ne.symm hin), gt_leaf, if_neg hin]
theorem none_ob' {nx ty t : Nat} {W : World} {ρa : Ren} (h : ng < nx) (hn : ρa ng = none) : ∀ i, (gt O.none i (putO [(ng, .c .nil ty false)] .leaf)).live → (ng ≤ i ∧ i < nx ∧ ¬ (gt O.none i (putO [(ng, .c .nil ty false)] .leaf)).wr) ∧
    ∀ L, ρa i = some L → L.blk ≠ t ∧ ∃ o, W.heap[L.blk]? = some o ∧ OR ρa L (gt O.none i (putO [(ng, .c .nil ty false)] .leaf)) o := by
  intro i hlv
  rw [put_at] at hlv ⊢
  by_cases hin : i = ng
  · subst hin
    rw [if_pos rfl]
    exact ⟨⟨Nat.le_refl _, h, fun hw => Bool.noConfusion (show false = true from hw)⟩, fun L hL => by rw [hn] at hL; cases hL⟩
  · rw [if_neg hin] at hlv
    exact hlv.elim
theorem strs_ob' {b off ty nx t : Nat} {W : World} {arr : Array Value} {fz : Nat × Nat} {vals : List Nat} {x : V} {vs rest : List Value} (hbt : b ≠ t) (hnx : ng < nx) (hblk : W.heap[b]? = some (.cells arr ty fz)) (hoff : off ≤ arr.size)
    (hcs : arr.toList.drop off = vs ++ rest) (hx : VRs (strsR ng b off arr.size vals) x vs) :
    ∀ i, (gt O.none i (putO [(ng, .c x ty false)] .leaf)).live → (ng ≤ i ∧ i < nx ∧ ¬ (gt O.none i (putO [(ng, .c x ty false)] .leaf)).wr) ∧
      ∀ L, strsR ng b off arr.size vals i = some L → L.blk ≠ t ∧ ∃ o, W.heap[L.blk]? = some o ∧ OR (strsR ng b off arr.size vals) L (gt O.none i (putO [(ng, .c x ty false)] .leaf)) o := by
  intro i hlv
  obtain ⟨h1, h2⟩ := strs_ob hnx hblk hoff hcs hx i hlv
  refine ⟨h1, fun L hL => ⟨?_, h2 L hL⟩⟩
  rw [put_at] at hlv
  by_cases hin : i = ng
  · subst hin
    have : L = ⟨b, off, arr.size⟩ := by simpa [strsR, eq_comm] using hL
    subst this
    exact hbt
  · rw [if_neg hin] at hlv
    exact hlv.elim
theorem strs_apart {W : World} {b off t : Nat} {arr arr' : Array Value} {ty ty' : Nat} {fz : Nat × Nat} {l : List ByteArray} {ns : List Int} (h0 : 0 < l.length) (hblk : W.heap[b]? = some (.cells arr ty fz)) (hcs : (arr.toList.drop off).take l.length = l.map Value.string)
    (h1 : W.heap[t]? = some (.cells arr' ty' (0, 0))) (h2 : arr'.toList = ns.map fun n => Value.int .u64 n) : b ≠ t := by
  intro e
  subst e
  rw [hblk] at h1
  obtain ⟨rfl, _, _⟩ : arr = arr' ∧ ty = ty' ∧ fz = (0, 0) := by
    have h3 := Option.some.inj h1
    injection h3 with a b c
    exact ⟨a, b, c⟩
  rw [h2] at hcs
  match l, h0, hcs with
  | s :: r, _, hcs =>
    have hm : Value.string s ∈ (List.drop off (ns.map fun n => Value.int .u64 n)).take (s :: r).length := by rw [hcs]; exact List.mem_cons_self ..
    have hm2 := List.mem_of_mem_drop (List.mem_of_mem_take hm)
    obtain ⟨n, _, hn⟩ := List.mem_map.1 hm2
    cases hn
end
end Go.Mx
namespace Go.Mx
open Instr Builtin
noncomputable section
variable {P : Program} {ρ : Ren} {h : T O} {nx : Nat} {w : World} {ng : Nat}
def dec4 (x : V) (k : V → Bool) : Bool := V.rec (motive := fun _ => Bool) false (fun _ _ _ _ => false) (fun _ => false) (fun _ _ => false) (fun _ => false) (fun _ _ => false) false (fun _ _ _ _ => false) false false false (fun _ => false) false (fun _ _ _ => false) false (fun _ _ _ => false) false (fun _ _ => false) (fun _ _ => false)
  (fun _ _ _ _ => false) (fun _ _ => false) (fun _ _ _ _ _ => false) (fun t l _ _ _ _ => ite1 (Nat.beq t 4) (k l)) x
theorem dec4_spec {x : V} {k : V → Bool} (hk : dec4 x k = true) : ∃ l, k l = true ∧ ∀ ρ s, PR ρ x s → ∃ n, LR ρ l n ∧ s = Lib.itoa n := by
  cases x <;> first | exact Bool.noConfusion hk | skip
  case o t l a lo hi =>
    obtain ⟨e, hk2⟩ := ite1_spec (show ite1 (Nat.beq t 4) (k l) = true from hk)
    have e := Nat.eq_of_beq_eq_true e
    subst e
    refine ⟨l, hk2, fun ρ s hs => ?_⟩
    simp only [PR] at hs
    rcases hs with ⟨h1, _⟩ | ⟨_, _, _, n, h1, h2⟩
    · omega
    · exact ⟨n, h1, h2⟩
def numV (x : V) (k : V → Bool) : Bool := ropK x fun c => chain (M := Bool) false (fun y r _ => chain (M := Bool) (dec4 y k) (fun _ _ _ => false) r) c
theorem numV_spec {x : V} {k : V → Bool} (hk : numV x k = true) : ∃ l, k l = true ∧ ∀ ρ v, VR ρ x v → ∃ n, LR ρ l n ∧ v = .string ⟨(Lib.itoa n).toArray⟩ := by
  obtain ⟨c, hk2, hc⟩ := ropK_spec hk
  cases c <;> first | exact Bool.noConfusion hk2 | skip
  case cons y r =>
    have hk3 : (chain (M := Bool) (dec4 y k) (fun _ _ _ => false) r : Bool) = true := hk2
    cases r with
    | cons _ _ => exact Bool.noConfusion hk3
    | nil =>
      obtain ⟨l, h1, h2⟩ := dec4_spec (show dec4 y k = true from hk3)
      refine ⟨l, h1, fun ρ v hv => ?_⟩
      obtain ⟨b, rfl, hb⟩ := hc ρ v hv
      simp only [RR] at hb
      obtain ⟨s1, s2, g1, g2, g3⟩ := hb
      subst g2
      obtain ⟨n, g4, g5⟩ := h2 ρ s1 g1
      refine ⟨n, g4, ?_⟩
      rw [List.append_nil, g5] at g3
      congr 1
      apply ByteArray.ext
      apply Array.ext'
      exact g3
    | _ =>
      obtain ⟨l, h1, h2⟩ := dec4_spec (show dec4 y k = true from hk3)
      refine ⟨l, h1, fun ρ v hv => ?_⟩
      obtain ⟨b, rfl, hb⟩ := hc ρ v hv
      simp only [RR] at hb
      obtain ⟨s1, s2, g1, g2, g3⟩ := hb
      exact g2.elim
def rngV (a lo hi : Nat) : V := .o 2 (.cons (.o 7 .nil a lo hi) .nil) 3 0 0
theorem VR_rng {a lo hi : Nat} {n : Int} (ha : ∃ L, ρ a = some L ∧ L.base = zz n) (h1 : unzz lo ≤ n) (h2 : n ≤ unzz hi) : VR ρ (rngV a lo hi) (.int .i64 n) := by
  obtain ⟨L, e1, e2⟩ := ha
  simp only [rngV, VR, OV]
  refine .inl (.inr (.inl ⟨trivial, n, ?_, rfl⟩))
  simp only [LR, MR]
  exact ⟨n, 0, .inr (.inr (.inr (.inl ⟨trivial, L, e1, by rw [e2, unzz_zz], h1, h2⟩))), rfl, by omega⟩
end
end Go.Mx
namespace Go.Mx
open Instr Builtin
noncomputable section
variable {P : Program} {ρ : Ren} {h : T O} {nx : Nat} {w : World} {ng : Nat}
theorem LR_cons' {x r : V} {n : Int} (h : LR ρ (.cons x r) n) : ∃ m k, MR ρ x m ∧ LR ρ r k ∧ n = m + k := by simpa only [LR] using h
theorem LR_nil' {n : Int} (h : LR ρ .nil n) : n = 0 := by simpa only [LR] using h
theorem MR_x' {a lo hi : Nat} {k : IntKind} {m : Int} (h : MR ρ (.x a k lo hi) m) : ∃ L, ρ a = some L ∧ lo ≤ L.base ∧ L.base ≤ hi ∧ m = L.base := by simpa only [MR] using h
theorem MR_6' {y : V} {p q : Nat} {m : Int} (h : MR ρ (.o 6 y 0 p q) m) : ∃ k, MR ρ y k ∧ m = Int.subNatNat p q * k := by
  simp only [MR] at h
  rcases h with ⟨h, _⟩ | ⟨h, _⟩ | ⟨_, k, h1, h2⟩ | ⟨h, _⟩ | ⟨h, _⟩
  · omega
  · omega
  · exact ⟨k, h1, h2⟩
  · omega
  · omega
theorem MR_one' {m : Int} (h : MR ρ oneV m) : m = 1 := by
  simp only [oneV, MR] at h
  exact h
theorem dec_two {u : Nat} (h : ¬ u < 10) : Lib.decDigits u = Lib.decDigits (u / 10) ++ [UInt8.ofNat (48 + u % 10)] := by rw [Lib.decDigits, dif_neg h]
theorem VR_w' {W : V} {l : List UInt8} (h : VRs ρ W (l.map byteV)) : VR ρ (.w W) (.string ⟨l.toArray⟩) := by
  simp only [VR]
  exact ⟨_, rfl, by unfold bytesV; simpa using h⟩
theorem VR_xb {a lo hi m : Nat} {L : Loc} (ha : ρ a = some L) (h : lo ≤ L.base ∧ L.base ≤ hi) (hm : L.base = m) (h2 : m < 256) : VR ρ (.x a .u8 lo hi) (byteV (UInt8.ofNat m)) := by
  simp only [VR]
  refine ⟨L, ha, h.1, h.2, ?_⟩
  unfold byteV
  rw [hm]
  congr 1
  simp
  omega
def t1V (a lo hi p q : Nat) : V := .cons (.x a .u8 lo hi) (.cons (.o 6 oneV 0 p q) .nil)
theorem t1_spec {a lo hi p q : Nat} {n : Int} (h : LR ρ (t1V a lo hi p q) n) : ∃ L, ρ a = some L ∧ lo ≤ L.base ∧ L.base ≤ hi ∧ n = (L.base : Int) + Int.subNatNat p q := by
  obtain ⟨m, k, h1, h2, rfl⟩ := LR_cons' h
  obtain ⟨L, e1, e2, e3, rfl⟩ := MR_x' h1
  obtain ⟨m2, k2, h3, h4, rfl⟩ := LR_cons' h2
  obtain ⟨m3, h5, rfl⟩ := MR_6' h3
  rw [MR_one' h5, LR_nil' h4, Int.mul_one, Int.add_zero]
  exact ⟨L, e1, e2, e3, rfl⟩
theorem dig_one (a : Nat) (ρ : Ren) (n : Int) (h : LR ρ (t1V a 49 57 0 48) n) : 0 ≤ n ∧ n ≤ 9223372036854775807 ∧ VR ρ (.w (.cons (.x a .u8 49 57) .nil)) (.string ⟨(Lib.itoa n).toArray⟩) := by
  obtain ⟨L, e1, e2, e3, e4⟩ := t1_spec h
  rw [show Int.subNatNat 0 48 = -48 from rfl] at e4
  obtain ⟨u, hu⟩ : ∃ u : Nat, L.base = 48 + u := ⟨L.base - 48, by omega⟩
  have en : n = (u : Int) := by omega
  subst en
  refine ⟨by omega, by omega, VR_w' ?_⟩
  rw [itoa_pos, Lib.decDigits_one (by omega)]
  simp only [List.map_cons, List.map_nil, VRs]
  exact ⟨_, _, rfl, VR_xb e1 ⟨e2, e3⟩ hu (by omega), rfl⟩
theorem VR_ib {m : Nat} {c : UInt8} (h : c.toNat = m) : VR ρ (.i .u8 (Int.ofNat m)) (byteV c) := by
  simp only [VR]
  unfold byteV
  rw [h]
  rfl
end
end Go.Mx
