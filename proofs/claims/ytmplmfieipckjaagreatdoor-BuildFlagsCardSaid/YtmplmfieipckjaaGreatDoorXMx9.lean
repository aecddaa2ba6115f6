/-
  A part of a small executor of the model, proved sound (Mx9 of 46). No condition.
-/
import Derived.Test.YtmplmfieipckjaaGreatDoorXMx8
import Derived.Laws.Strings
import Derived.Laws.Strings2
namespace Go.Mx
noncomputable section
variable {P : Program} {ρ : Ren} {h : T O} {nx : Nat} {w : World}
theorem forceN_eq (n : Nat) (k : Nat → Bool) : forceN n k = k n := by cases n <;> rfl
theorem forceI_eq (n : Int) (k : Int → Bool) : forceI n k = k n := by
  cases n with
  | ofNat m => exact forceN_eq m fun m => k (Int.ofNat m)
  | negSucc m => exact forceN_eq m fun m => k (Int.negSucc m)
theorem ieq_eq (a b : Int) : ieq a b = decide (a = b) := by
  cases a <;> cases b <;> simp [ieq]
  all_goals (rename_i a b; cases e : Nat.beq a b with
    | true => simp [Nat.eq_of_beq_eq_true e]
    | false => simp; intro e2; have e3 : a = b := by omega
               rw [e3, Nat.beq_refl] at e; cases e)
theorem blt_eq (a b : Nat) : Nat.blt a b = decide (a < b) := by
  cases e : Nat.blt a b with
  | true => simp [Nat.blt_eq.mp e]
  | false => simp; rcases Nat.lt_or_ge a b with h | h
             · rw [Nat.blt_eq.mpr h] at e; cases e
             · exact h
theorem ilt_eq (a b : Int) : ilt a b = decide (a < b) := by
  cases a <;> cases b <;> simp only [ilt]
  · rw [blt_eq]; simp
  · simp; omega
  · simp; omega
  · rw [blt_eq]; simp; omega
theorem inot_eq (b : Bool) : inot b = !b := by cases b <;> rfl
theorem ior_eq (a b : Bool) : ior a b = (a || b) := by cases a <;> rfl
theorem keq_eq {a b : IntKind} (h : keq a b = true) : a = b := by
  cases a <;> cases b <;> first | rfl | exact absurd h (by decide)
theorem wrap_small (k : IntKind) (n : Nat) (h : (n : Int) ≤ (match k with | .i8 => 127 | .i16 => 32767 | .i32 => 2147483647 | .i64 => 9223372036854775807 | .u8 => 255 | .u16 => 65535 | .u32 => 4294967295 | .u64 => 18446744073709551615 : Int)) : k.wrap n = n := by
  cases k <;> simp [IntKind.wrap, IntKind.bits, IntKind.signed] at h ⊢ <;> omega
theorem wrap_neg (n : Nat) (h : n ≤ 9223372036854775807) : IntKind.i64.wrap (Int.negSucc n) = Int.negSucc n := by
  have h1 : (IntKind.i64.bits) = 64 := rfl
  have h2 : IntKind.i64.signed = true := rfl
  unfold IntKind.wrap
  rw [h1, h2]
  simp only [Bool.true_and, decide_eq_true_eq]
  split <;> omega
theorem wrapK_eq {mx : Nat} {k : IntKind} (hm : ∀ n : Nat, n ≤ mx → k.wrap n = n) (n : Int) (c : Int → Bool) : wrapK mx k n c = c (k.wrap n) := by
  cases n with
  | ofNat m =>
    show (Bool.rec (c (k.wrap (Int.ofNat m))) (forceN m fun m => c (Int.ofNat m)) (Nat.ble m mx) : Bool) = c (k.wrap (Int.ofNat m))
    cases e : Nat.ble m mx with
    | false => rfl
    | true => rw [forceN_eq]; show c (Int.ofNat m) = _; rw [show k.wrap (Int.ofNat m) = Int.ofNat m from hm m (Nat.le_of_ble_eq_true e)]
  | negSucc m => rfl
theorem wrK_eq (k : IntKind) (n : Int) (c : Int → Bool) : wrK k n c = c (k.wrap n) := by
  cases k
  case i64 =>
    show wrap64K n c = _
    cases n with
    | ofNat m =>
      show (Bool.rec (c (IntKind.i64.wrap (Int.ofNat m))) (forceN m fun m => c (Int.ofNat m)) (Nat.ble m 9223372036854775807) : Bool) = _
      cases e : Nat.ble m 9223372036854775807 with
      | false => rfl
      | true => rw [forceN_eq]; show c (Int.ofNat m) = _; rw [show IntKind.i64.wrap (Int.ofNat m) = Int.ofNat m from wrap_small .i64 m (by have := Nat.le_of_ble_eq_true e; simp; omega)]
    | negSucc m =>
      show (Bool.rec (c (IntKind.i64.wrap (Int.negSucc m))) (forceN m fun m => c (Int.negSucc m)) (Nat.ble m 9223372036854775807) : Bool) = _
      cases e : Nat.ble m 9223372036854775807 with
      | false => rfl
      | true => rw [forceN_eq]; show c (Int.negSucc m) = _; rw [wrap_neg m (Nat.le_of_ble_eq_true e)]
  all_goals exact wrapK_eq (fun n hn => wrap_small _ n (by simp; omega)) n c
theorem seq_eq : ∀ a b : List Nat, seq a b = decide (a = b) := by
  intro a
  induction a with
  | nil => intro b; cases b <;> simp [seq]
  | cons x a ih =>
    intro b
    cases b with
    | nil => simp [seq]
    | cons y b =>
      show (Bool.rec false (seq a b) (Nat.beq x y) : Bool) = _
      cases e : Nat.beq x y with
      | true => have := Nat.eq_of_beq_eq_true e; subst this; simp [ih]
      | false =>
        have hne : x ≠ y := fun e2 => by rw [e2, Nat.beq_refl] at e; cases e
        simp [hne]
theorem bs_toList (l : List Nat) : (bs l).toList = l.map UInt8.ofNat := by
  unfold bs; exact ByteArray.toList_mk _
theorem bs_size (l : List Nat) : (bs l).size = l.length := by simp [bs, ByteArray.size]
theorem map_inj {a b : List Nat} (ha : ∀ n ∈ a, n < 256) (hb : ∀ n ∈ b, n < 256) (h : a.map UInt8.ofNat = b.map UInt8.ofNat) : a = b := by
  have key : ∀ l : List Nat, (∀ n ∈ l, n < 256) → (l.map UInt8.ofNat).map UInt8.toNat = l := by
    intro l hl
    rw [List.map_map]
    conv => rhs; rw [← List.map_id l]
    apply List.map_congr_left
    intro n hn
    simp [UInt8.toNat_ofNat', Nat.mod_eq_of_lt (hl n hn)]
  rw [← key a ha, ← key b hb, h]
theorem bs_eq_beq {a b : List Nat} (ha : ∀ n ∈ a, n < 256) (hb : ∀ n ∈ b, n < 256) : ((bs a).toList == (bs b).toList) = seq a b := by
  rw [seq_eq, bs_toList, bs_toList]
  rw [Bool.eq_iff_iff]
  simp only [beq_iff_eq, decide_eq_true_eq]
  exact ⟨map_inj ha hb, fun e => by rw [e]⟩
theorem slt_eq : ∀ {a b : List Nat}, (∀ n ∈ a, n < 256) → (∀ n ∈ b, n < 256) → Op.bytesLess (a.map UInt8.ofNat) (b.map UInt8.ofNat) = slt a b := by
  intro a
  induction a with
  | nil => intro b _ _; cases b <;> rfl
  | cons x a ih =>
    intro b ha hb
    cases b with
    | nil => rfl
    | cons y b =>
      have hx := ha x (by simp)
      have hy := hb y (by simp)
      show (UInt8.ofNat x < UInt8.ofNat y || (UInt8.ofNat x == UInt8.ofNat y && Op.bytesLess (a.map UInt8.ofNat) (b.map UInt8.ofNat))) = (Bool.rec (Bool.rec false (slt a b) (Nat.beq x y)) true (Nat.blt x y) : Bool)
      rw [ih (fun n hn => ha n (by simp [hn])) (fun n hn => hb n (by simp [hn])), blt_eq]
      have e1 : (decide (UInt8.ofNat x < UInt8.ofNat y)) = decide (x < y) := by
        rw [Bool.eq_iff_iff]; simp [UInt8.lt_iff_toNat_lt, UInt8.toNat_ofNat', Nat.mod_eq_of_lt hx, Nat.mod_eq_of_lt hy]
      have e2 : (UInt8.ofNat x == UInt8.ofNat y) = Nat.beq x y := by
        rw [Bool.eq_iff_iff]
        constructor
        · intro e
          have := congrArg UInt8.toNat (eq_of_beq e)
          simp [UInt8.toNat_ofNat', Nat.mod_eq_of_lt hx, Nat.mod_eq_of_lt hy] at this
          exact nbeq_true this
        · intro e; rw [Nat.eq_of_beq_eq_true e]; simp
      rw [e1, e2]
      by_cases hlt : x < y
      · simp [hlt]
      · simp [hlt]; cases Nat.beq x y <;> simp
theorem scatK_eq (b : List Nat) : ∀ (a : List Nat) (k : List Nat → Bool), scatK a b k = k (a ++ b) := by
  intro a
  induction a with
  | nil => intro k; rfl
  | cons x a ih => intro k; exact ih _
theorem slenK_eq : ∀ (l : List Nat) (n : Nat) (k : Nat → Bool), slenK l n k = k (n + l.length) := by
  intro l
  induction l with
  | nil => intro n k; rfl
  | cons x l ih => intro n k; rw [show slenK (x :: l) n k = slenK l (n + 1) k from rfl, ih]; congr 1; simp; omega
theorem sdropK_spec {k : List Nat → Bool} : ∀ {l : List Nat} {j : Nat}, sdropK l j k = true → j ≤ l.length ∧ k (l.drop j) = true := by
  intro l
  induction l with
  | nil => intro j h; cases j with
    | zero => exact ⟨Nat.zero_le _, h⟩
    | succ j => exact Bool.noConfusion h
  | cons x l ih => intro j h; cases j with
    | zero => exact ⟨Nat.zero_le _, h⟩
    | succ j => have := ih (j := j) h; exact ⟨by simp; omega, by simpa using this.2⟩
theorem stakeK_spec : ∀ {l : List Nat} {j : Nat} {k : List Nat → Bool}, stakeK l j k = true → j ≤ l.length ∧ k (l.take j) = true := by
  intro l
  induction l with
  | nil => intro j k h; cases j with
    | zero => exact ⟨Nat.zero_le _, h⟩
    | succ j => exact Bool.noConfusion h
  | cons x l ih => intro j k h; cases j with
    | zero => exact ⟨Nat.zero_le _, h⟩
    | succ j => have := ih (j := j) (k := fun c => k (x :: c)) h; exact ⟨by simp; omega, by simpa using this.2⟩
theorem snthK_spec {k : Nat → Bool} : ∀ {l : List Nat} {j : Nat}, snthK l j k = true → ∃ x, l[j]? = some x ∧ k x = true := by
  intro l
  induction l with
  | nil => intro j h; exact Bool.noConfusion h
  | cons x l ih => intro j h; cases j with
    | zero => exact ⟨x, rfl, h⟩
    | succ j => exact ih (j := j) h
theorem bs_append (a b : List Nat) : bs a ++ bs b = bs (a ++ b) := by
  apply ByteArray.ext
  simp [bs, ByteArray.data_append]
theorem bs_extract (l : List Nat) (a b : Nat) : (bs l).extract a b = bs ((l.drop a).take (b - a)) := by
  unfold bs
  rw [ByteArray.extract_mk]
  simp [List.map_drop, List.map_take]
theorem bs_get (l : List Nat) (j x : Nat) (h : l[j]? = some x) : (bs l)[j]? = some (UInt8.ofNat x) := by
  have hj : j < l.length := (List.getElem?_eq_some_iff.1 h).1
  rw [ByteArray.getElem?_lt' _ _ (by rw [bs_size]; exact hj)]
  have hx := (List.getElem?_eq_some_iff.1 h).2
  simp [bs, ByteArray.getElem_eq_getElem_data, hx]
end
end Go.Mx
