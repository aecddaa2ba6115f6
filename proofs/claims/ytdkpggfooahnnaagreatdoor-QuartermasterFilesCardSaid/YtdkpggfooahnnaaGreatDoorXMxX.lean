/-
  A part of a small executor of the model, proved sound (21 of 32). No condition.
-/
import Derived.Test.YtdkpggfooahnnaaGreatDoorXMxQ
import Derived.Lib.ItoaLen
import Derived.Test.YtdkpggfooahnnaaGreatDoorXRowK6
import Derived.Sort.Grow
import Derived.Lib.LaidTab
import Derived.Deep.Draws
import Derived.Lib.ItoaNum
import Derived.Lib.AtoiAllCases
import Derived.Lib.SlTrimSet
import Derived.Lib.Strings
namespace Go.Mx
open Instr Builtin
noncomputable section
variable {P : Program} {ρ : Ren} {h : T O} {nx : Nat} {w : World} {ng : Nat}
def decK (fuel : Nat) : Nat → List Nat → (List Nat → Bool) → Bool := Nat.rec (motive := fun _ => Nat → List Nat → (List Nat → Bool) → Bool) (fun _ _ _ => false)
  (fun _ ih n acc k => Bool.rec (forceN (Nat.add 48 (Nat.mod n 10)) fun d => forceN (Nat.div n 10) fun q => ih q (d :: acc) k) (forceN (Nat.add 48 n) fun d => k (d :: acc)) (Nat.blt n 10)) fuel
theorem decK_spec : ∀ {fuel n : Nat} {acc : List Nat} {k : List Nat → Bool}, decK fuel n acc k = true → (∀ a ∈ acc, a < 256) → ∃ l, k l = true ∧ (∀ a ∈ l, a < 256) ∧ l.map UInt8.ofNat = Lib.decDigits n ++ acc.map UInt8.ofNat := by
  intro fuel
  induction fuel with
  | zero => intro n acc k hk _; exact Bool.noConfusion hk
  | succ fuel ih =>
    intro n acc k hk ha
    have hk' : (Bool.rec (forceN (Nat.add 48 (Nat.mod n 10)) fun d => forceN (Nat.div n 10) fun q => decK fuel q (d :: acc) k) (forceN (Nat.add 48 n) fun d => k (d :: acc)) (Nat.blt n 10) : Bool) = true := hk
    cases e : Nat.blt n 10 with
    | true =>
      have e1 := Nat.blt_eq.mp e
      rw [e] at hk'
      have hk2 : forceN (Nat.add 48 n) (fun d => k (d :: acc)) = true := hk'
      rw [forceN_eq] at hk2
      refine ⟨_, hk2, fun a h => ?_, ?_⟩
      · rcases List.mem_cons.1 h with rfl | h
        · show 48 + n < 256
          omega
        · exact ha a h
      · rw [Lib.decDigits_one e1]
        rfl
    | false =>
      have e1 : ¬ n < 10 := fun h => by rw [Nat.blt_eq.mpr h] at e; cases e
      rw [e] at hk'
      have hk2 : forceN (Nat.add 48 (Nat.mod n 10)) (fun d => forceN (Nat.div n 10) fun q => decK fuel q (d :: acc) k) = true := hk'
      rw [forceN_eq, forceN_eq] at hk2
      obtain ⟨l, h1, h2, h3⟩ := ih hk2 (fun a h => by
        rcases List.mem_cons.1 h with rfl | h
        · show 48 + n % 10 < 256
          omega
        · exact ha a h)
      refine ⟨l, h1, h2, h3.trans ?_⟩
      have e2 : Lib.decDigits n = Lib.decDigits (n / 10) ++ [UInt8.ofNat (48 + n % 10)] := by rw [Lib.decDigits, dif_neg e1]
      rw [e2, List.append_assoc]
      rfl
def decV (lo : Int) (x : V) (k : V → Bool) : Bool := linK x fun kd l => ite1 (Nat.beq kd 3) <| rgK l fun a b => ite1 (ile lo a) <| ite1 (ile b (Int.ofNat 9223372036854775807)) <|
  Bool.rec (k (.o 0 (.cons (.o 4 l 0 1 21) .nil) 0 0 0)) (Int.rec (motive := fun _ => Bool) (fun n => decK 20 n [] fun t => k (.s t)) (fun _ => false) a) (ieq a b)
theorem itoa_len_pos (n : Int) : 1 ≤ (Lib.itoa n).length := by
  unfold Lib.itoa
  split
  · simp
  · rw [Lib.decDigits_length]
    exact Lib.nDigits_pos _
theorem bs_ofNat (l : List Nat) : (bs l) = ⟨(l.map UInt8.ofNat).toArray⟩ := by
  unfold bs
  rfl
theorem decV_spec {lo : Int} {x : V} {k : V → Bool} (hk : decV lo x k = true) (hlo : -9223372036854775808 ≤ lo) : ∃ y, k y = true ∧ ∀ ρ v, VR ρ x v → ∃ n : Int, v = .int .i64 n ∧ lo ≤ n ∧ n ≤ 9223372036854775807 ∧ VR ρ y (.string ⟨(Lib.itoa n).toArray⟩) := by
  obtain ⟨kd, l, hk1, hx⟩ := linK_spec (show linK x (fun kd l => ite1 (Nat.beq kd 3) <| rgK l fun a b => ite1 (ile lo a) <| ite1 (ile b (Int.ofNat 9223372036854775807)) <|
    Bool.rec (k (.o 0 (.cons (.o 4 l 0 1 21) .nil) 0 0 0)) (Int.rec (motive := fun _ => Bool) (fun n => decK 20 n [] fun t => k (.s t)) (fun _ => false) a) (ieq a b)) = true from hk)
  obtain ⟨e0, hk2⟩ := ite1_spec hk1
  have e0 := Nat.eq_of_beq_eq_true e0
  subst e0
  obtain ⟨a, b, hk3, hr⟩ := rgK_spec hk2
  obtain ⟨e1, hk4⟩ := ite1_spec hk3
  obtain ⟨e2, hk5⟩ := ite1_spec hk4
  have e1 := ile_spec e1
  have e2 := ile_spec e2
  have e2' : b ≤ 9223372036854775807 := e2
  cases e : ieq a b with
  | false =>
    rw [e] at hk5
    refine ⟨_, hk5, fun ρ v hv => ?_⟩
    obtain ⟨n, h1, h2⟩ := hx ρ v hv
    have h3 := hr ρ n h1
    refine ⟨n, h2, by omega, by omega, VR_rope ?_⟩
    simp only [RR]
    refine ⟨Lib.itoa n, [], ?_, rfl, by simp⟩
    simp only [PR]
    exact .inr ⟨trivial, itoa_len_pos n, Lib.itoa_length_le n (by omega) (by omega), n, h1, rfl⟩
  | true =>
    rw [e] at hk5
    rw [ieq_eq] at e
    have e3 : a = b := by simpa using e
    subst e3
    cases a with
    | negSucc m => exact Bool.noConfusion hk5
    | ofNat m =>
      obtain ⟨t, h1, h2, h3⟩ := decK_spec (show decK 20 m [] (fun t => k (.s t)) = true from hk5) (fun a h => by cases h)
      refine ⟨_, h1, fun ρ v hv => ?_⟩
      obtain ⟨n, g1, g2⟩ := hx ρ v hv
      have h4 := hr ρ n g1
      have e4 : n = (m : Int) := by
        have z : Int.ofNat m = (m : Int) := rfl
        omega
      subst e4
      refine ⟨_, g2, by omega, by omega, ?_⟩
      simp only [VR]
      refine ⟨?_, h2⟩
      rw [bs_ofNat, h3]
      unfold Lib.itoa
      rw [if_neg (by omega)]
      simp
end
end Go.Mx
namespace Go.Mx
open Instr Builtin
noncomputable section
variable {P : Program} {ρ : Ren} {h : T O} {nx : Nat} {w : World} {ng : Nat}
theorem hkL_cons {p : Nat × HookF} {l : List (Nat × HookF)} (h1 : HookOk P ng p.1 p.2) (h2 : HKok P ng (hkL l)) : HKok P ng (hkL (p :: l)) := by
  intro g f hf
  have hf : (Bool.rec (hkL l g) (some p.2) (Nat.beq p.1 g) : Option HookF) = some f := hf
  cases e : Nat.beq p.1 g with
  | true =>
    rw [e] at hf
    cases hf
    have e := beq_spec e
    subst e
    exact h1
  | false =>
    rw [e] at hf
    exact h2 g f hf
theorem put_at {ng : Nat} {x : O} (i : Nat) : gt O.none i (putO [(ng, x)] (.leaf : T O)) = if i = ng then x else O.none := by
  show gt O.none i (st O.none x ng .leaf) = _
  by_cases hin : i = ng
  · subst hin
    rw [gt_st_same, if_pos rfl]
  · rw [gt_st_ne _ _ (Ne.symm hin), gt_leaf, if_neg hin]
theorem none_ob' {nx ty t : Nat} {W : World} {ρa : Ren} (h : ng < nx) (hn : ρa ng = none) : ∀ i, (gt O.none i (putO [(ng, .c .nil ty false)] .leaf)).live → (ng ≤ i ∧ i < nx ∧ ¬ (gt O.none i (putO [(ng, .c .nil ty false)] .leaf)).wr) ∧
    ∀ L, ρa i = some L → L.blk ≠ t ∧ ∃ o, W.heap[L.blk]? = some o ∧ OR ρa L (gt O.none i (putO [(ng, .c .nil ty false)] .leaf)) o := by
  intro i hlv
  rw [put_at] at hlv ⊢
  by_cases hin : i = ng
  · subst hin
    rw [if_pos rfl]
    exact ⟨⟨Nat.le_refl _, h, fun hw => Bool.noConfusion (show false = true from hw)⟩, fun L hL => by rw [hn] at hL; cases hL⟩
  · rw [if_neg hin] at hlv
    exact hlv.elim
theorem none_ob2 {nx ty : Nat} {W : World} {ρa : Ren} (h : ng < nx) (hn : ρa ng = none) : ∀ i, (gt O.none i (putO [(ng, .c .nil ty false)] .leaf)).live → (ng ≤ i ∧ i < nx ∧ ¬ (gt O.none i (putO [(ng, .c .nil ty false)] .leaf)).wr) ∧
    ∀ L, ρa i = some L → ∃ o, W.heap[L.blk]? = some o ∧ OR ρa L (gt O.none i (putO [(ng, .c .nil ty false)] .leaf)) o := fun i hi =>
  ⟨(none_ob' (t := 0) (W := W) h hn i hi).1, fun L hL => ((none_ob' (t := 0) (W := W) h hn i hi).2 L hL).2⟩
end
end Go.Mx
namespace Go.Mx
open Instr Builtin
noncomputable section
variable {P : Program} {ρ : Ren} {h : T O} {nx : Nat} {w : World} {ng : Nat}
end
end Go.Mx
namespace Go.Mx
open Go.Lib
theorem itoa_pos (u : Nat) : itoa (u : Int) = decDigits u := by unfold itoa; rw [if_neg (by omega)]; simp
theorem trimS_all {l cs : List UInt8} (h : ∀ b ∈ l, cs.contains b = true) : trimS l cs = [] := by
  unfold trimS
  rw [trimRightS_take l cs 0 (Nat.zero_le _) (fun j b _ hb => h b (List.mem_of_getElem? hb)) (fun b h => absurd h (by omega))]
  rfl
theorem dig_in {b : UInt8} (h : 48 ≤ b.toNat ∧ b.toNat ≤ 57) : ([48, 49, 50, 51, 52, 53, 54, 55, 56, 57] : List UInt8).contains b = true := by
  have : ∀ k : Fin 10, ([48, 49, 50, 51, 52, 53, 54, 55, 56, 57] : List UInt8).contains (UInt8.ofNat (48 + k.val)) = true := by decide
  have e : b = UInt8.ofNat (48 + (b.toNat - 48)) := by
    rw [show 48 + (b.toNat - 48) = b.toNat by omega]
    simp
  rw [e]
  exact this ⟨b.toNat - 48, by omega⟩
end Go.Mx
namespace Go.Mx
open Instr Builtin
noncomputable section
variable {P : Program} {ρ : Ren} {h : T O} {nx : Nat} {w : World} {ng : Nat}
def hkDig (T W : V) : HookF := fun args h nx K => arg0 args fun x r => chain (M := Bool) (linK x fun kd l => ite1 (Nat.beq kd 3) <| ite1 (sameV l T) <| K (.w W) h nx) (fun _ _ _ => false) r
theorem hkDig_ok (hn : NameOK P) {T W : V} {g : Nat} {fn : Func} {cd : Code} (hf : P.funcs[g]? = some fn) (hb : fn.body = some cd)
    (hT : ∀ (ρ : Ren) (n : Int), LR ρ T n → 0 ≤ n ∧ n ≤ 9223372036854775807 ∧ VR ρ (.w W) (.string ⟨(Lib.itoa n).toArray⟩))
    (hC : ∀ (n : Int) (w : World), 0 ≤ n → n ≤ 9223372036854775807 → Calls P g #[.int .i64 n] w fun e w' => e = .returned (.string ⟨(Lib.itoa n).toArray⟩) ∧ Stays w w') : HookOk P ng g (hkDig T W) := by
  intro args h nx K Kp hk ρ w vs s gr hv
  obtain ⟨x, r, rfl, hk2⟩ := arg0_spec hk
  simp only [VRs] at hv
  obtain ⟨v1, l1, rfl, h1, h2⟩ := hv
  cases r <;> first | (simp only [VRs] at h2; done) | exact Bool.noConfusion hk2 | skip
  simp only [VRs] at h2
  subst h2
  obtain ⟨kd, l, hk3, hx⟩ := linK_spec (show linK x (fun kd l => ite1 (Nat.beq kd 3) <| ite1 (sameV l T) <| K (.w W) h nx) = true from hk2)
  obtain ⟨e0, hk4⟩ := ite1_spec hk3
  have e0 := Nat.eq_of_beq_eq_true e0
  subst e0
  obtain ⟨e1, hk5⟩ := ite1_spec hk4
  have e1 := sameV_eq e1
  subst e1
  obtain ⟨n, g1, rfl⟩ := hx ρ _ h1
  obtain ⟨a1, a2, a3⟩ := hT ρ n g1
  exact upon_of_calls hn hf hb ((hC n w a1 a2).mono fun e w' ⟨h1, h2⟩ => ⟨_, h1, a3, h2⟩) s hk5
theorem LR_cons' {x r : V} {n : Int} (h : LR ρ (.cons x r) n) : ∃ m k, MR ρ x m ∧ LR ρ r k ∧ n = m + k := by simpa only [LR] using h
theorem LR_nil' {n : Int} (h : LR ρ .nil n) : n = 0 := by simpa only [LR] using h
theorem MR_x' {a lo hi : Nat} {k : IntKind} {m : Int} (h : MR ρ (.x a k lo hi) m) : ∃ L, ρ a = some L ∧ lo ≤ L.base ∧ L.base ≤ hi ∧ m = L.base := by simpa only [MR] using h
theorem MR_6' {y : V} {p q : Nat} {m : Int} (h : MR ρ (.o 6 y 0 p q) m) : ∃ k, MR ρ y k ∧ m = Int.subNatNat p q * k := by
  simp only [MR] at h
  rcases h with ⟨h, _⟩ | ⟨h, _⟩ | ⟨_, k, h1, h2⟩ | ⟨h, _⟩
  · omega
  · omega
  · exact ⟨k, h1, h2⟩
  · omega
theorem MR_one' {m : Int} (h : MR ρ oneV m) : m = 1 := by
  simp only [oneV, MR] at h
  exact h
theorem dec_two {u : Nat} (h : ¬ u < 10) : Lib.decDigits u = Lib.decDigits (u / 10) ++ [UInt8.ofNat (48 + u % 10)] := by rw [Lib.decDigits, dif_neg h]
theorem VR_w' {W : V} {l : List UInt8} (h : VRs ρ W (l.map byteV)) : VR ρ (.w W) (.string ⟨l.toArray⟩) := by
  simp only [VR]
  exact ⟨_, rfl, by unfold bytesV; simpa using h⟩
theorem VR_xb {a lo hi m : Nat} {L : Loc} (ha : ρ a = some L) (h : lo ≤ L.base ∧ L.base ≤ hi) (hm : L.base = m) (h2 : m < 256) : VR ρ (.x a .u8 lo hi) (byteV (UInt8.ofNat m)) := by
  simp only [VR]
  refine ⟨L, ha, h.1, h.2, ?_⟩
  unfold byteV
  rw [hm]
  congr 1
  simp
  omega
def t1V (a lo hi p q : Nat) : V := .cons (.x a .u8 lo hi) (.cons (.o 6 oneV 0 p q) .nil)
def t2V (a l1 h1 b l2 h2 p q : Nat) : V := .cons (.o 6 (.x a .u8 l1 h1) 0 10 0) (.cons (.x b .u8 l2 h2) (.cons (.o 6 oneV 0 p q) .nil))
theorem t1_spec {a lo hi p q : Nat} {n : Int} (h : LR ρ (t1V a lo hi p q) n) : ∃ L, ρ a = some L ∧ lo ≤ L.base ∧ L.base ≤ hi ∧ n = (L.base : Int) + Int.subNatNat p q := by
  obtain ⟨m, k, h1, h2, rfl⟩ := LR_cons' h
  obtain ⟨L, e1, e2, e3, rfl⟩ := MR_x' h1
  obtain ⟨m2, k2, h3, h4, rfl⟩ := LR_cons' h2
  obtain ⟨m3, h5, rfl⟩ := MR_6' h3
  rw [MR_one' h5, LR_nil' h4, Int.mul_one, Int.add_zero]
  exact ⟨L, e1, e2, e3, rfl⟩
theorem t2_spec {a l1 u1 b l2 u2 p q : Nat} {n : Int} (h : LR ρ (t2V a l1 u1 b l2 u2 p q) n) : ∃ L M, (ρ a = some L ∧ l1 ≤ L.base ∧ L.base ≤ u1) ∧ (ρ b = some M ∧ l2 ≤ M.base ∧ M.base ≤ u2) ∧ n = 10 * (L.base : Int) + M.base + Int.subNatNat p q := by
  obtain ⟨m, k, h1, h2, rfl⟩ := LR_cons' h
  obtain ⟨m0, g1, rfl⟩ := MR_6' h1
  obtain ⟨L, e1, e2, e3, rfl⟩ := MR_x' g1
  obtain ⟨m2, k2, h3, h4, rfl⟩ := LR_cons' h2
  obtain ⟨M, f1, f2, f3, rfl⟩ := MR_x' h3
  obtain ⟨m4, k4, h5, h6, rfl⟩ := LR_cons' h4
  obtain ⟨m5, h7, rfl⟩ := MR_6' h5
  rw [MR_one' h7, LR_nil' h6, Int.mul_one, Int.add_zero]
  refine ⟨L, M, ⟨e1, e2, e3⟩, ⟨f1, f2, f3⟩, ?_⟩
  show Int.subNatNat 10 0 * (L.base : Int) + _ = _
  rw [show Int.subNatNat 10 0 = 10 from rfl, Int.add_assoc]
theorem LR_t1 {a lo hi p q : Nat} {n : Nat} (ha : ∃ L, ρ a = some L ∧ L.base = n) (h : lo ≤ n ∧ n ≤ hi) : LR ρ (t1V a lo hi p q) ((n : Int) + Int.subNatNat p q) := by
  obtain ⟨L, h1, rfl⟩ := ha
  simp only [t1V, LR, MR, oneV]
  exact ⟨_, _, ⟨L, h1, h.1, h.2, rfl⟩, ⟨_, 0, .inr (.inr (.inl ⟨trivial, 1, rfl, rfl⟩)), rfl, rfl⟩, by omega⟩
theorem LR_t2 {a l1 u1 b l2 u2 p q m n : Nat} (ha : ∃ L, ρ a = some L ∧ L.base = m) (h : l1 ≤ m ∧ m ≤ u1) (hb : ∃ L, ρ b = some L ∧ L.base = n) (g : l2 ≤ n ∧ n ≤ u2) : LR ρ (t2V a l1 u1 b l2 u2 p q) (10 * (m : Int) + n + Int.subNatNat p q) := by
  obtain ⟨L, e1, rfl⟩ := ha
  obtain ⟨M, e2, rfl⟩ := hb
  simp only [t2V, LR, MR, oneV]
  refine ⟨_, _, .inr (.inr (.inl ⟨trivial, _, ⟨L, e1, h.1, h.2, rfl⟩, rfl⟩)), ⟨_, _, ⟨M, e2, g.1, g.2, rfl⟩, ⟨_, 0, .inr (.inr (.inl ⟨trivial, 1, rfl, rfl⟩)), rfl, rfl⟩, rfl⟩, ?_⟩
  show _ = Int.subNatNat 10 0 * (L.base : Int) + _
  rw [show Int.subNatNat 10 0 = 10 from rfl]
  omega
theorem VR_t1 {a lo hi p q n : Nat} {v : Int} (ha : ∃ L, ρ a = some L ∧ L.base = n) (h : lo ≤ n ∧ n ≤ hi) (e : (n : Int) + Int.subNatNat p q = v) : VR ρ (.o 2 (t1V a lo hi p q) 3 0 0) (.int .i64 v) := by
  simp only [VR, OV]
  exact .inl (.inr (.inl ⟨trivial, v, e ▸ LR_t1 ha h, rfl⟩))
theorem VR_t2 {a l1 u1 b l2 u2 p q m n : Nat} {v : Int} (ha : ∃ L, ρ a = some L ∧ L.base = m) (h : l1 ≤ m ∧ m ≤ u1) (hb : ∃ L, ρ b = some L ∧ L.base = n) (g : l2 ≤ n ∧ n ≤ u2) (e : 10 * (m : Int) + n + Int.subNatNat p q = v) : VR ρ (.o 2 (t2V a l1 u1 b l2 u2 p q) 3 0 0) (.int .i64 v) := by
  simp only [VR, OV]
  exact .inl (.inr (.inl ⟨trivial, v, e ▸ LR_t2 ha h hb g, rfl⟩))
theorem dig_one (a : Nat) (ρ : Ren) (n : Int) (h : LR ρ (t1V a 49 57 0 48) n) : 0 ≤ n ∧ n ≤ 9223372036854775807 ∧ VR ρ (.w (.cons (.x a .u8 49 57) .nil)) (.string ⟨(Lib.itoa n).toArray⟩) := by
  obtain ⟨L, e1, e2, e3, e4⟩ := t1_spec h
  rw [show Int.subNatNat 0 48 = -48 from rfl] at e4
  obtain ⟨u, hu⟩ : ∃ u : Nat, L.base = 48 + u := ⟨L.base - 48, by omega⟩
  have en : n = (u : Int) := by omega
  subst en
  refine ⟨by omega, by omega, VR_w' ?_⟩
  rw [itoa_pos, Lib.decDigits_one (by omega)]
  simp only [List.map_cons, List.map_nil, VRs]
  exact ⟨_, _, rfl, VR_xb e1 ⟨e2, e3⟩ hu (by omega), rfl⟩
theorem dig_two (a b : Nat) (ρ : Ren) (n : Int) (h : LR ρ (t2V a 49 57 b 48 57 0 528) n) : 0 ≤ n ∧ n ≤ 9223372036854775807 ∧ VR ρ (.w (.cons (.x a .u8 49 57) (.cons (.x b .u8 48 57) .nil))) (.string ⟨(Lib.itoa n).toArray⟩) := by
  obtain ⟨L, M, ⟨e1, e2, e3⟩, ⟨f1, f2, f3⟩, e4⟩ := t2_spec h
  rw [show Int.subNatNat 0 528 = -528 from rfl] at e4
  obtain ⟨u, hu⟩ : ∃ u : Nat, n = (u : Int) := ⟨n.toNat, by omega⟩
  subst hu
  refine ⟨by omega, by omega, VR_w' ?_⟩
  rw [itoa_pos, dec_two (by omega), Lib.decDigits_one (by omega)]
  simp only [List.cons_append, List.nil_append, List.map_cons, List.map_nil, VRs]
  exact ⟨_, _, rfl, VR_xb e1 ⟨e2, e3⟩ (by omega) (by omega), _, _, rfl, VR_xb f1 ⟨f2, f3⟩ (by omega) (by omega), rfl⟩
theorem VR_ib {m : Nat} {c : UInt8} (h : c.toNat = m) : VR ρ (.i .u8 (Int.ofNat m)) (byteV c) := by
  simp only [VR]
  unfold byteV
  rw [h]
  rfl
theorem dig_three (p a b lo hi k : Nat) (hp : p < 10) (h0 : 0 < p) (hk : 528 = k + 100 * p) (hl : 48 ≤ lo) (hh : hi ≤ 57) (ρ : Ren) (n : Int) (h : LR ρ (t2V a lo hi b 48 57 0 k) n) : 0 ≤ n ∧ n ≤ 9223372036854775807 ∧ VR ρ (.w (.cons (.i .u8 (Int.ofNat (48 + p))) (.cons (.x a .u8 lo hi) (.cons (.x b .u8 48 57) .nil)))) (.string ⟨(Lib.itoa n).toArray⟩) := by
  obtain ⟨L, M, ⟨e1, e2, e3⟩, ⟨f1, f2, f3⟩, e4⟩ := t2_spec h
  rw [show Int.subNatNat 0 k = -(k : Int) from by simp [Int.subNatNat_eq_coe]] at e4
  obtain ⟨u, hu⟩ : ∃ u : Nat, n = (u : Int) := ⟨n.toNat, by omega⟩
  subst hu
  refine ⟨by omega, by omega, VR_w' ?_⟩
  rw [itoa_pos, dec_two (by omega), dec_two (by omega), Lib.decDigits_one (by omega)]
  simp only [List.cons_append, List.nil_append, List.map_cons, List.map_nil, VRs]
  refine ⟨_, _, rfl, ?_, _, _, rfl, VR_xb e1 ⟨e2, e3⟩ (by omega) (by omega), _, _, rfl, VR_xb f1 ⟨f2, f3⟩ (by omega) (by omega), rfl⟩
  rw [show u / 10 / 10 = p by omega]
  exact VR_ib (by simp; omega)
theorem dig_last (a : Nat) (ρ : Ren) (n : Int) (h : LR ρ (t1V a 48 53 202 0) n) : 0 ≤ n ∧ n ≤ 9223372036854775807 ∧ VR ρ (.w (.cons (.i .u8 50) (.cons (.i .u8 53) (.cons (.x a .u8 48 53) .nil)))) (.string ⟨(Lib.itoa n).toArray⟩) := by
  obtain ⟨L, e1, e2, e3, e4⟩ := t1_spec h
  rw [show Int.subNatNat 202 0 = 202 from rfl] at e4
  obtain ⟨u, hu⟩ : ∃ u : Nat, n = (u : Int) := ⟨n.toNat, by omega⟩
  subst hu
  refine ⟨by omega, by omega, VR_w' ?_⟩
  rw [itoa_pos, dec_two (by omega), dec_two (by omega), Lib.decDigits_one (by omega)]
  simp only [List.cons_append, List.nil_append, List.map_cons, List.map_nil, VRs]
  refine ⟨_, _, rfl, ?_, _, _, rfl, ?_, _, _, rfl, VR_xb e1 ⟨e2, e3⟩ (by omega) (by omega), rfl⟩
  · rw [show u / 10 / 10 = 2 by omega]
    exact VR_ib (m := 50) (by decide)
  · rw [show u / 10 % 10 = 5 by omega]
    exact VR_ib (m := 53) (by decide)
def digK (c : V) : Bool := chain (M := Bool) true (fun x _ ih => rngK x fun _ lo hi _ => ite1 (Nat.ble 48 lo) <| ite1 (Nat.ble hi 57) ih) c
theorem digK_spec : ∀ {c : V} {s : List UInt8}, digK c = true → RR ρ c s → ∀ b ∈ s, 48 ≤ b.toNat ∧ b.toNat ≤ 57 := by
  intro c
  induction c with
  | nil => intro s _ hs b hb; simp only [RR] at hs; subst hs; cases hb
  | cons x r _ ih =>
    intro s hk hs b hb
    obtain ⟨_, lo, hi, i, hk2, hr⟩ := rngK_spec (v := x) (show rngK x (fun _ lo hi _ => ite1 (Nat.ble 48 lo) <| ite1 (Nat.ble hi 57) (digK r)) = true from hk)
    obtain ⟨e1, hk3⟩ := ite1_spec hk2
    obtain ⟨e2, hk4⟩ := ite1_spec hk3
    have e1 := Nat.ble_eq.mp e1
    have e2 := Nat.ble_eq.mp e2
    simp only [RR] at hs
    obtain ⟨s1, s2, h1, h2, rfl⟩ := hs
    rcases List.mem_append.1 hb with hb | hb
    · cases x <;> first | (exact Bool.noConfusion hk; done) | skip
      case i kd n =>
        simp only [PR] at h1
        obtain ⟨rfl, c, rfl, rfl⟩ := h1
        obtain ⟨m, g1, g2⟩ := hr ρ _ (VRi _ _ _)
        rw [List.mem_singleton] at hb
        subst hb
        injection g1 with _ g1
        have g3 := g2.1
        have g4 := g2.2.1
        omega
      case x a kd l u =>
        simp only [PR] at h1
        obtain ⟨rfl, c, L, rfl, q1, q2, q3, q4⟩ := h1
        obtain ⟨m, g1, g2⟩ := hr ρ (.int .u8 (L.base : Int)) (by simp only [VR]; exact ⟨L, q1, q2, q3, rfl⟩)
        rw [List.mem_singleton] at hb
        subst hb
        injection g1 with _ g1
        have g3 := g2.1
        have g4 := g2.2.1
        omega
    · exact ih hk4 h2 b hb
  | _ => intro s _ hs; simp [RR] at hs
def hkTrimDig : HookF := fun args h nx K => arg0 args fun x r => arg0 r fun y r' => chain (M := Bool) (ropK x fun c => ite1 (digK c) <| atMost c 1000 fun _ => ite1 (sameV y (.s [48, 49, 50, 51, 52, 53, 54, 55, 56, 57])) <| K (.s []) h nx) (fun _ _ _ => false) r'
theorem hkTrimDig_ok (hn : NameOK P) {g : Nat} {fn : Func} {cd : Code} (hf : P.funcs[g]? = some fn) (hb : fn.body = some cd)
    (hC : ∀ (s : ByteArray) (w : World), s.size ≤ 1000 → (∀ b ∈ s.data.toList, 48 ≤ b.toNat ∧ b.toNat ≤ 57) → Calls P g #[.string s, .string ⟨#[48, 49, 50, 51, 52, 53, 54, 55, 56, 57]⟩] w fun e w' => e = .returned (.string ⟨#[]⟩) ∧ Stays w w') : HookOk P ng g hkTrimDig := by
  intro args h nx K Kp hk ρ w vs s gr hv
  obtain ⟨x, r, rfl, hk2⟩ := arg0_spec hk
  obtain ⟨y, r', rfl, hk3⟩ := arg0_spec hk2
  simp only [VRs] at hv
  obtain ⟨v1, l1, rfl, h1, v2, l2, rfl, h2, h3⟩ := hv
  cases r' <;> first | (simp only [VRs] at h3; done) | exact Bool.noConfusion hk3 | skip
  simp only [VRs] at h3
  subst h3
  obtain ⟨c, hk4, hc⟩ := ropK_spec (show ropK x (fun c => ite1 (digK c) <| atMost c 1000 fun _ => ite1 (sameV y (.s [48, 49, 50, 51, 52, 53, 54, 55, 56, 57])) <| K (.s []) h nx) = true from hk3)
  obtain ⟨e1, hk5⟩ := ite1_spec hk4
  obtain ⟨l, hk6, hl⟩ := atMost_spec hk5
  obtain ⟨e2, hk7⟩ := ite1_spec hk6
  have e2 := sameV_eq e2
  subst e2
  obtain ⟨b, rfl, hbb⟩ := hc ρ _ h1
  simp only [VR] at h2
  obtain ⟨rfl, _⟩ := h2
  have hz := (hl ρ _ hbb).2
  exact upon_of_calls hn hf hb ((hC b w hz (digK_spec e1 hbb)).mono fun e w' ⟨h1, h2⟩ => ⟨_, h1, by simp only [VR]; exact ⟨rfl, by simp⟩, h2⟩) s hk7
end
end Go.Mx
