/-
  A part of a small executor of the model, proved sound (30 of 35). No condition.
-/
import Derived.Test.YtiinlpdophgfjaaGreatDoorXMxAT
import Derived.Test.YtiinlpdophgfjaaGreatDoorXMxAM
import Derived.Test.YtiinlpdophgfjaaGreatDoorXMxX
import Derived.Test.YtiinlpdophgfjaaGreatDoorXMxQ
namespace Go.Mx
open Instr Builtin RowKit
noncomputable section
variable {P : Program} {ρ : Ren} {h : T O} {nx : Nat} {w : World} {ng : Nat}
end
end Go.Mx
namespace Go.Mx
open Instr Builtin RowKit
noncomputable section
variable {P : Program} {ρ : Ren} {ng : Nat}
theorem calls_of_ckA (hn : NameOK P) {R : CK} (hR : CKok P ng R) {g : Nat} {fn : Func} {cd : Code} (hf : P.funcs[g]? = some fn) (hb : fn.body = some cd) {args : V} {vs : List Value} {K1 : KV} {φ : Value → Prop} {ρa : Ren} {nx : Nat}
    (hρ : ∀ i L, ρa i = some L → ng ≤ i ∧ i < nx) (hnx : ng ≤ nx) (hv : ∀ ρ : Ren, Ren.le ρa ρ → VRs ρ args vs) (hrun : R g args .leaf nx K1 (fun _ _ _ => false) = true)
    (hK : ∀ ρ' y v h' nx', Ren.le ρa ρ' → K1 y h' nx' = true → VR ρ' y v → φ v) (W : World) :
    Calls P g ⟨vs⟩ W fun e W' => ∃ v, e = .returned v ∧ φ v ∧ Stays W W' := by
  let ρr : Ren := fun i => if i < ng then some ⟨i, 0, 0⟩ else ρa i
  have none0 : ∀ i, ¬ (gt O.none i (.leaf : T O)).live := fun i hi => by rw [gt_leaf] at hi; exact hi
  have hle : Ren.le ρa ρr := fun i L e => by
    have := (hρ i L e).1
    have h1 : ¬ i < ng := by omega
    simp only [ρr, h1, if_false]
    exact e
  have sr : St ρr (.leaf : T O) nx W := ⟨fun id L hi _ => (none0 id hi).elim, fun i j L M hi _ _ _ _ => (none0 i (O.live_of_wr hi)).elim, fun i hi => by
    have h1 : ¬ i < ng := by omega
    show (if i < ng then some _ else ρa i) = none
    rw [if_neg h1]
    cases e : ρa i with
    | none => rfl
    | some L => have := (hρ i L e).2; omega, fun i _ => none0 i⟩
  have gr : RG ng ρr := fun i hi => ⟨⟨i, 0, 0⟩, by simp [ρr, hi], rfl, rfl⟩
  have up := hR g args .leaf nx K1 (fun _ _ _ => false) hrun ρr W vs sr gr (hv ρr hle)
  let o : Oper := { (default : Oper) with dst := some 0 }
  let a : Act := { tmps := #[undef], defers := [] }
  have h := up o a (fun a' W' => ∃ v, a'.tmps[0]? = some v ∧ φ v ∧ Stays W W') (fun _ _ _ => False) (fun ρ' y h' nx' v w' hv' _ hx hky => ?_) (fun ρ' y h' nx' v w' _ _ _ hky => Bool.noConfusion hky)
  · rw [callFunc_enter hn hf hb, Oper.upon_enter] at h
    refine h.mono fun e W' hr => ?_
    cases e with
    | returned v =>
      obtain ⟨v2, h1, h2, h3⟩ := hr
      have : v = v2 := by simpa [Act.put, o, a] using h1
      exact ⟨v, rfl, this ▸ h2, h3⟩
    | panicked c => exact hr.elim
    | outgrown => obtain ⟨_, _, hq⟩ := hr; exact hq.elim
  · exact ⟨v, by simp [Act.put, o, a], hK ρ' y v h' nx' (hle.trans hx.le) hky hv', hx.size, hx.os, hx.tape, hx.output, fun b hb => (hx.kept b hb fun id L hw _ => (none0 id (O.live_of_wr hw)).elim).1⟩
def o9 (v : V) : Option V := match v with
  | .o t l _ _ _ => Bool.rec none (some l) (Nat.beq t 9)
  | _ => none
theorem o9_spec {x l : V} (h : o9 x = some l) : ∃ a lo hi, x = .o 9 l a lo hi := by
  cases x <;> try (exact absurd (show (none : Option V) = some l from h) (by simp))
  case o t l' a lo hi =>
    have h : (Bool.rec none (some l') (Nat.beq t 9) : Option V) = some l := h
    cases e : Nat.beq t 9 with
    | false => rw [e] at h; exact absurd (show (none : Option V) = some l from h) (by simp)
    | true =>
      rw [e] at h
      have e := Nat.eq_of_beq_eq_true e
      subst e
      injection h with h
      subst h
      exact ⟨a, lo, hi, rfl⟩
theorem wrap64_mod (k : Int) : ∃ j : Int, IntKind.i64.wrap k = k + j * 18446744073709551616 := by
  rw [IntKind.wrap_i64]
  exact ⟨-((k + 9223372036854775808) / 18446744073709551616), by omega⟩
def flatK (r : V) : V → (V → Bool) → Bool := chain (M := V → (V → Bool) → Bool) (fun acc k => k acc)
  (fun y _ ih acc k => tmK y fun x c => Option.rec (motive := fun _ => Bool) (insK x c acc fun acc' => ih acc' k) (fun l => addLK c l acc fun acc' => ih acc' k) (o9 x)) r
theorem flatK_spec : ∀ {r acc : V} {k : V → Bool}, flatK r acc k = true → isC acc → ∃ d, k d = true ∧ isC d ∧ ∀ ρ n m, LR ρ r n → LR ρ acc m → ∃ j : Int, LR ρ d (m + n + j * 18446744073709551616) := by
  intro r
  induction r with
  | nil =>
    intro acc k hk hc
    refine ⟨acc, hk, hc, fun ρ n m hn hm => ⟨0, ?_⟩⟩
    simp only [LR] at hn
    subst hn
    simpa using hm
  | cons y r _ ih =>
    intro acc k hk hc
    obtain ⟨x, c, hk2, hy⟩ := tmK_spec (show tmK y (fun x c => Option.rec (motive := fun _ => Bool) (insK x c acc fun acc' => flatK r acc' k) (fun l => addLK c l acc fun acc' => flatK r acc' k) (o9 x)) = true from hk)
    cases e : o9 x with
    | none =>
      rw [e] at hk2
      obtain ⟨a1, h1, h2, h3⟩ := insK_spec (show insK x c acc (fun acc' => flatK r acc' k) = true from hk2) hc
      obtain ⟨d, g1, g2, g3⟩ := ih h1 h2
      refine ⟨d, g1, g2, fun ρ n m hn hm => ?_⟩
      simp only [LR] at hn
      obtain ⟨p, q, q1, q2, rfl⟩ := hn
      obtain ⟨m', q3, rfl⟩ := hy ρ p q1
      obtain ⟨j, q4⟩ := g3 ρ q _ q2 (h3 ρ m m' hm q3)
      exact ⟨j, by rw [show m + (c * m' + q) + j * 18446744073709551616 = m + c * m' + q + j * 18446744073709551616 by omega]; exact q4⟩
    | some l =>
      rw [e] at hk2
      obtain ⟨a, lo, hi, rfl⟩ := o9_spec e
      obtain ⟨a1, h1, h2, h3⟩ := addLK_spec (show addLK c l acc (fun acc' => flatK r acc' k) = true from hk2) hc
      obtain ⟨d, g1, g2, g3⟩ := ih h1 h2
      refine ⟨d, g1, g2, fun ρ n m hn hm => ?_⟩
      simp only [LR] at hn
      obtain ⟨p, q, q1, q2, rfl⟩ := hn
      obtain ⟨m', q3, rfl⟩ := hy ρ p q1
      simp only [MR] at q3
      rcases q3 with ⟨h, _⟩ | ⟨h, _⟩ | ⟨h, _⟩ | ⟨h, _⟩ | ⟨_, b, q5, rfl⟩
      · omega
      · omega
      · omega
      · omega
      obtain ⟨j0, e0⟩ := wrap64_mod b
      obtain ⟨j, q4⟩ := g3 ρ q _ q2 (h3 ρ m b hm q5)
      refine ⟨j - c * j0, ?_⟩
      have e1 : m + (c * IntKind.i64.wrap b + q) + (j - c * j0) * 18446744073709551616 = m + c * b + q + j * 18446744073709551616 := by
        rw [e0, Int.mul_add, Int.sub_mul, Int.mul_assoc]
        generalize c * b = z1
        generalize c * (j0 * 18446744073709551616) = z2
        omega
      rw [e1]
      exact q4
  | _ =>
    intro acc k hk hc
    exact ⟨acc, hk, hc, fun ρ n m hn _ => by simp [LR] at hn⟩
def valD : List UInt8 → Int
  | [] => 0
  | c :: r => ((c.toNat : Int) - 48) * 10 ^ r.length + valD r
theorem valD_snoc (c : UInt8) : ∀ a : List UInt8, valD (a ++ [c]) = 10 * valD a + ((c.toNat : Int) - 48)
  | [] => by simp [valD]
  | d :: a => by
    have ih := valD_snoc c a
    simp only [List.cons_append, valD, ih, List.length_append, List.length_singleton]
    rw [Int.pow_succ, Int.mul_add, ← Int.mul_assoc]
    generalize ((d.toNat : Int) - 48) * 10 ^ a.length = z
    omega
theorem valD_dec (u : Nat) : valD (Lib.decDigits u) = u := by
  induction u using Nat.strongRecOn with
  | _ u ih =>
    have hb : ∀ x, x < 10 → ((UInt8.ofNat (48 + x)).toNat : Int) - 48 = x := fun x hx => by
      rw [UInt8.toNat_ofNat']
      omega
    by_cases h : u < 10
    · rw [Lib.decDigits_one h]
      simp only [valD, List.length_nil, Int.pow_zero, Int.mul_one, Int.add_zero]
      exact hb u h
    · rw [dec_two h, valD_snoc, ih (u / 10) (by omega), hb _ (by omega)]
      omega
def numE (q : Int) (d : Nat) : Nat → V → V := Nat.rec (motive := fun _ => Nat → V → V) (fun _ r => r) (fun d ih i r => .cons (mkT (.x i .u8 48 57) (Int.mul q (Int.ofNat (Nat.pow 10 d)))) (.cons (mkT oneV (Int.mul (Int.mul q (Int.ofNat (Nat.pow 10 d))) (Int.negSucc 47))) (ih (Nat.succ i) r))) d
theorem LR_numE {q n : Int} {r : V} (hr : LR ρ r n) : ∀ (bl : List UInt8) (i : Nat), (∀ c ∈ bl, 48 ≤ c.toNat ∧ c.toNat ≤ 57) → (∀ j c, bl[j]? = some c → ρ (i + j) = some ⟨0, c.toNat, 0⟩) → LR ρ (numE q bl.length i r) (q * valD bl + n)
  | [], _, _, _ => by
    rw [show q * valD [] + n = n by simp [valD]]
    exact hr
  | c :: bl, i, h1, h2 => by
    have ih := LR_numE (q := q) hr bl (i + 1) (fun d hd => h1 d (List.mem_cons_of_mem _ hd)) (fun j d hj => by
      have := h2 (j + 1) d (by simpa using hj)
      rwa [show i + (j + 1) = i + 1 + j by omega] at this)
    have h3 := h1 c (List.mem_cons_self ..)
    show LR ρ (.cons (mkT (.x i .u8 48 57) (Int.mul q (Int.ofNat (Nat.pow 10 bl.length)))) (.cons (mkT oneV (Int.mul (Int.mul q (Int.ofNat (Nat.pow 10 bl.length))) (Int.negSucc 47))) (numE q bl.length (i + 1) r))) _
    have hx : MR ρ (.x i .u8 48 57) (c.toNat : Int) := by
      simp only [MR]
      exact ⟨_, h2 0 c rfl, h3.1, h3.2, rfl⟩
    have hp : Int.ofNat (Nat.pow 10 bl.length) = (10 : Int) ^ bl.length := by
      show ((10 ^ bl.length : Nat) : Int) = _
      rw [Int.natCast_pow]
      rfl
    have e : q * valD (c :: bl) + n = Int.mul q (Int.ofNat (Nat.pow 10 bl.length)) * (c.toNat : Int) + (Int.mul (Int.mul q (Int.ofNat (Nat.pow 10 bl.length))) (Int.negSucc 47) * 1 + (q * valD bl + n)) := by
      rw [hp]
      show q * (((c.toNat : Int) - 48) * 10 ^ bl.length + valD bl) + n = q * 10 ^ bl.length * (c.toNat : Int) + (q * 10 ^ bl.length * (-48) * 1 + (q * valD bl + n))
      rw [Int.mul_add, Int.sub_mul, Int.mul_sub, Int.mul_one]
      have e1 : q * ((c.toNat : Int) * 10 ^ bl.length) = q * 10 ^ bl.length * (c.toNat : Int) := by rw [Int.mul_comm (c.toNat : Int), Int.mul_assoc]
      have e2 : q * (48 * 10 ^ bl.length) = q * 10 ^ bl.length * 48 := by rw [Int.mul_comm 48, Int.mul_assoc]
      rw [e1, e2]
      generalize q * 10 ^ bl.length * (c.toNat : Int) = z1
      generalize q * 10 ^ bl.length = z2
      generalize q * valD bl = z3
      omega
    rw [e]
    simp only [LR]
    exact ⟨_, _, mkT_spec hx, ⟨_, _, mkT_spec (MR_one ρ), ih, rfl⟩, rfl⟩
def vTup (v : V) (k : V → Bool) : Bool := match v with
  | .t l => k l
  | _ => false
theorem vTup_spec {v : V} {k : V → Bool} (h : vTup v k = true) : ∃ l, v = .t l ∧ k l = true := by
  cases v <;> first | exact ⟨_, rfl, h⟩ | exact Bool.noConfusion h
def numK (E z : V) : KV := fun y _ _ => vTup y fun l => arg0 l fun a l => arg0 l fun b l => ite1 (isNilV l) <| ite1 (sameV b z) <| linK a fun kd l => ite1 (Nat.beq kd 3) <| rgK l fun lo hi =>
  ite1 (ile (Int.negSucc 9223372036854775807) lo) <| ite1 (ile hi (Int.ofNat 9223372036854775807)) <| flatK l .nil fun f => flatK f .nil fun f => addLK (Int.negSucc 0) E f fun d => isNilV d
theorem numK_spec {E z y : V} {h' : T O} {nx' : Nat} (hk : numK E z y h' nx' = true) {v : Value} {n : Int} (hv : VR ρ y v) (hE : LR ρ E n) (h1 : -9223372036854775808 ≤ n) (h2 : n ≤ 9223372036854775807) : ∃ zv, VR ρ z zv ∧ v = .tuple #[.int .i64 n, zv] := by
  unfold numK at hk
  replace hk := vTup_spec hk
  obtain ⟨l, rfl, hk⟩ := hk
  replace hk := arg0_spec (l := l) hk
  obtain ⟨a, l1, rfl, hk⟩ := hk
  replace hk := arg0_spec (l := l1) hk
  obtain ⟨b, l2, rfl, hk⟩ := hk
  replace hk := ite1_spec hk
  obtain ⟨e1, hk⟩ := hk
  have e1 := isNilV_spec e1
  subst e1
  replace hk := ite1_spec hk
  obtain ⟨e2, hk⟩ := hk
  have e2 := sameV_eq e2
  subst e2
  simp only [VR, VRs] at hv
  obtain ⟨vs, ⟨v1, vr, rfl, g1, v2, vr2, rfl, g2, rfl⟩, rfl⟩ := hv
  refine ⟨v2, g2, ?_⟩
  have hk : linK a (fun kd l => ite1 (Nat.beq kd 3) <| rgK l fun lo hi => ite1 (ile (Int.negSucc 9223372036854775807) lo) <| ite1 (ile hi (Int.ofNat 9223372036854775807)) <| flatK l .nil fun f => flatK f .nil fun f => addLK (Int.negSucc 0) E f fun d => isNilV d) = true := hk
  obtain ⟨kd, l, hk, hx⟩ := linK_spec hk
  obtain ⟨m, hm, rfl⟩ := hx ρ v1 g1
  replace hk := ite1_spec hk
  obtain ⟨e3, hk⟩ := hk
  have e3 := Nat.eq_of_beq_eq_true e3
  subst e3
  obtain ⟨lo, hi, hk, hr⟩ := rgK_spec hk
  replace hk := ite1_spec hk
  obtain ⟨e4, hk⟩ := hk
  replace hk := ite1_spec hk
  obtain ⟨e5, hk⟩ := hk
  have e4 := ile_spec e4
  have e5 := ile_spec e5
  have hb := hr ρ m hm
  obtain ⟨f1, hk, c1, q1⟩ := flatK_spec hk (show isC .nil from trivial)
  obtain ⟨f2, hk, c2, q2⟩ := flatK_spec hk (show isC .nil from trivial)
  obtain ⟨d, hk, c3, q3⟩ := addLK_spec hk c2
  have hk := isNilV_spec hk
  subst hk
  obtain ⟨j1, r1⟩ := q1 ρ m 0 hm (by simp only [LR])
  obtain ⟨j2, r2⟩ := q2 ρ _ 0 r1 (by simp only [LR])
  have r3 := q3 ρ _ _ r2 hE
  simp only [LR] at r3
  have e6 : Int.negSucc 9223372036854775807 = (-9223372036854775808 : Int) := rfl
  have e7 : Int.ofNat 9223372036854775807 = (9223372036854775807 : Int) := rfl
  have e8 : Int.negSucc 0 * n = - n := by rw [show Int.negSucc 0 = -1 from rfl]; omega
  have : m = n := by omega
  subst this
  rfl
def numT (d i : Nat) (neg : Bool) : V := .w (Bool.rec (atomsV 48 57 d i .nil) (.cons (.i .u8 (Int.ofNat 45)) (atomsV 48 57 d i .nil)) neg)
def sgI (neg : Bool) : Int := Bool.rec (Int.ofNat 1) (Int.negSucc 0) neg
def numR (R : CK) (g ng d : Nat) (neg : Bool) (ex z : V) : Bool := R g (.cons (numT d ng neg) ex) .leaf (Nat.add ng d) (numK (numE (sgI neg) d ng .nil) z) (fun _ _ _ => false)
theorem num_family (hn : NameOK P) {R : CK} (hR : CKok P ng R) {g : Nat} {fn : Func} {cd : Code} (hf : P.funcs[g]? = some fn) (hb : fn.body = some cd) {ex z : V} {exv : List Value} {zv : Value} (hex : ∀ ρ, VRs ρ ex exv) (hz : ∀ ρ v, VR ρ z v → v = zv)
    {q : Bool → Prop} (runs : ∀ d neg, q neg → 1 ≤ d → d ≤ 19 → numR R g ng d neg ex z = true) (n : Int) (hq : q (decide (n < 0))) (h1 : -9223372036854775808 ≤ n) (h2 : n ≤ 9223372036854775807) (W : World) :
    Calls P g ⟨.string ⟨(Lib.itoa n).toArray⟩ :: exv⟩ W fun e W' => e = .returned (.tuple #[.int .i64 n, zv]) ∧ Stays W W' := by
  obtain ⟨u, hu⟩ : ∃ u, u = n.natAbs := ⟨_, rfl⟩
  obtain ⟨bl, hbl⟩ : ∃ bl, bl = Lib.decDigits u := ⟨_, rfl⟩
  have hmem : ∀ c ∈ bl, 48 ≤ c.toNat ∧ c.toNat ≤ 57 := by rw [hbl]; exact dec_mem u
  have hl : bl.length = Lib.nDigits u := by rw [hbl, Lib.decDigits_length]
  have hd19 : bl.length ≤ 19 := by rw [hl]; exact nDigits_le' 18 _ (by omega)
  have hd1 : 1 ≤ bl.length := by
    cases e : bl with
    | nil => exact absurd (hbl ▸ e) (dec_ne u)
    | cons c r => simp
  have hval : valD bl = u := by rw [hbl, valD_dec]
  let ρa : Ren := fun i => if ng ≤ i then (bl[i - ng]?).map fun c => ⟨0, c.toNat, 0⟩ else none
  have hat : ∀ ρ', Ren.le ρa ρ' → ∀ (j : Nat) c, bl[j]? = some c → ρ' (ng + j) = some ⟨0, c.toNat, 0⟩ := fun ρ' hle j c hj => hle _ _ (by
    simp only [ρa, Nat.le_add_right, if_true, Nat.add_sub_cancel_left, hj, Option.map_some])
  have hρ : ∀ i L, ρa i = some L → ng ≤ i ∧ i < ng + bl.length := fun i L e => by
    by_cases h : ng ≤ i
    · simp only [ρa, h, if_true] at e
      cases e2 : bl[i - ng]? with
      | none => rw [e2] at e; cases e
      | some c =>
        have := (List.getElem?_eq_some_iff.1 e2).1
        omega
    · simp only [ρa, h, if_false] at e
      cases e
  have hword : ∀ ρ', Ren.le ρa ρ' → ∀ {r : V} {rs : List Value}, VRs ρ' r rs → VRs ρ' (atomsV 48 57 bl.length ng r) (bl.map byteV ++ rs) := fun ρ' hle r rs hr =>
    VRs_atoms hr bl ng hmem fun j c hj => ⟨_, hat ρ' hle j c hj, rfl⟩
  have fin : ∀ neg : Bool, q neg → Lib.itoa n = (Bool.rec bl (45 :: bl) neg : List UInt8) → n = sgI neg * (u : Int) → Calls P g ⟨.string ⟨(Lib.itoa n).toArray⟩ :: exv⟩ W fun e W' => e = .returned (.tuple #[.int .i64 n, zv]) ∧ Stays W W' := fun neg hqn hit hv => by
    refine (calls_of_ckA hn hR hf hb (ρa := ρa) (nx := ng + bl.length) (φ := fun v => v = .tuple #[.int .i64 n, zv]) hρ (Nat.le_add_right _ _) (fun ρ' hle => ?_) (runs bl.length neg hqn hd1 hd19) (fun ρ' y v h' nx' hle hk hv' => ?_) W).mono fun e W' ⟨v, g1, g2, g3⟩ => ⟨by rw [g1, g2], g3⟩
    · simp only [VRs]
      refine ⟨_, _, rfl, ?_, hex ρ'⟩
      rw [hit]
      refine VR_w' ?_
      cases neg with
      | false => simpa using hword ρ' hle (r := .nil) (rs := []) (by simp only [VRs])
      | true =>
        show VRs ρ' (.cons (.i .u8 (Int.ofNat 45)) (atomsV 48 57 bl.length ng .nil)) (byteV 45 :: bl.map byteV)
        simp only [VRs]
        exact ⟨_, _, rfl, VR_ib rfl, by simpa using hword ρ' hle (r := .nil) (rs := []) (by simp only [VRs])⟩
    · have hE : LR ρ' (numE (sgI neg) bl.length ng .nil) (sgI neg * valD bl + 0) := LR_numE (by simp only [LR]) bl ng hmem (hat ρ' hle)
      rw [hval, Int.add_zero, ← hv] at hE
      obtain ⟨zv', g1, g2⟩ := numK_spec hk hv' hE h1 h2
      rw [g2, hz ρ' zv' g1]
  by_cases hneg : n < 0
  · rw [decide_eq_true hneg] at hq
    refine fin true hq ?_ ?_
    · have e : n = -(u : Int) := by omega
      rw [e, itoa_neg' (by omega), hbl]
    · show n = Int.negSucc 0 * (u : Int)
      rw [show Int.negSucc 0 = -1 from rfl]; omega
  · rw [decide_eq_false hneg] at hq
    refine fin false hq ?_ ?_
    · have e : n = (u : Int) := by omega
      rw [e, itoa_pos, hbl]
    · show n = Int.ofNat 1 * (u : Int)
      rw [show Int.ofNat 1 = 1 from rfl]; omega
end
end Go.Mx
namespace Go.Mx
open Instr Builtin RowKit
noncomputable section
variable {P : Program} {ρ : Ren} {h : T O} {nx : Nat} {w : World} {ng : Nat}
def minI : Int := Int.negSucc 9223372036854775807
def maxI : Int := Int.ofNat 9223372036854775807
def numC (lo0 hi0 : Int) (x : V) : Bool := numV x fun l => rgK l fun lo hi => ite1 (ile lo0 lo) (ile hi hi0)
theorem numC_spec {lo0 hi0 : Int} {x : V} (hk : numC lo0 hi0 x = true) {v : Value} (hv : VR ρ x v) : ∃ n : Int, lo0 ≤ n ∧ n ≤ hi0 ∧ v = .string ⟨(Lib.itoa n).toArray⟩ := by
  obtain ⟨l, h1, h2⟩ := numV_spec (show numV x (fun l => rgK l fun lo hi => ite1 (ile lo0 lo) (ile hi hi0)) = true from hk)
  obtain ⟨lo, hi, h3, hr⟩ := rgK_spec h1
  obtain ⟨e1, e2⟩ := ite1_spec h3
  have e1 := ile_spec e1
  have e2 := ile_spec e2
  obtain ⟨n, g1, rfl⟩ := h2 ρ v hv
  have := hr ρ n g1
  exact ⟨n, by omega, by omega, rfl⟩
end
end Go.Mx
