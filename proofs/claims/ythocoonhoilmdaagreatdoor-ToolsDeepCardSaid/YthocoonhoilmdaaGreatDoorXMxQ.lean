/-
  A part of a small executor of the model, proved sound (20 of 28). No condition.
-/
import Derived.Lib.ItoaNum
import Derived.Lib.AtoiAllCases
import Derived.Lib.SlTrimSet
import Derived.Lib.Strings
import Derived.Test.YthocoonhoilmdaaGreatDoorXMxN
namespace Go.Mx
open Go.Lib
theorem dec_mem (u : Nat) : ∀ c ∈ decDigits u, 48 ≤ c.toNat ∧ c.toNat ≤ 57 := by
  induction u using Nat.strongRecOn with
  | _ u ih =>
    by_cases h : u < 10
    · rw [decDigits_one h]
      intro c hc
      rw [List.mem_singleton] at hc
      subst hc
      simp
      omega
    · have e : decDigits u = decDigits (u / 10) ++ [UInt8.ofNat (48 + u % 10)] := by rw [decDigits, dif_neg h]
      rw [e]
      intro c hc
      rcases List.mem_append.1 hc with hc | hc
      · exact ih (u / 10) (by omega) c hc
      · rw [List.mem_singleton] at hc
        subst hc
        simp
        omega
theorem itoa_pos (u : Nat) : itoa (u : Int) = decDigits u := by unfold itoa; rw [if_neg (by omega)]; simp
theorem itoa_neg' {u : Nat} (h : 1 ≤ u) : itoa (-(u : Int)) = 45 :: decDigits u := by unfold itoa; rw [if_pos (by omega)]; simp
end Go.Mx
namespace Go.Mx
open Instr Builtin
noncomputable section
variable {P : Program} {ρ : Ren} {h : T O} {nx : Nat} {w : World} {ng : Nat}
def fstO (args : V) : Bool := arg0 args fun x _ => isO x
def hkO (f g : HookF) : HookF := fun args h nx K => Bool.rec (f args h nx K) (g args h nx K) (fstO args)
theorem hkO_ok {g : Nat} {a b : HookF} (ha : HookOk P ng g a) (hb : HookOk P ng g b) : HookOk P ng g (hkO a b) := by
  intro args h nx K Kp hk
  unfold hkO at hk
  cases e : fstO args with
  | true => rw [e] at hk; exact hb args h nx K Kp hk
  | false => rw [e] at hk; exact ha args h nx K Kp hk
def hkMakeNoZeroO (e : Nat) : HookF := fun args h nx K => arg0 args fun x r => chain (linK x fun kd l => ite1 (Nat.beq kd 3) <| rgK l fun lo hi => ite1 (ile (Int.ofNat 0) lo) <| ite1 (ile hi (Int.ofNat 281474976710656)) <| stK O.none (O.c .nil e true) nx h fun h' => K (.o 3 l nx 0 0) h' (Nat.succ nx)) (fun _ _ _ => false) r
theorem hkMakeNoZeroO_ok {g : Nat} {fn : Func} {ps : Array TypeId} {t e : TypeId} (hf : P.funcs[g]? = some fn) (hname : (fn.name == "runtime.NumGoroutine") = false) (hb : fn.body.isNone = true) (hn : Extern.findNext fn = none)
    (he : Extern.find fn = some (Extern.BytealgMakeNoZero.makeNoZero ps #[t])) (ht : P.underlying t = some (.slice e)) : HookOk P ng g (hkMakeNoZeroO e) := by
  intro args h nx K Kp hk ρ w vs s _ hv
  obtain ⟨x, r, rfl, hk2⟩ := arg0_spec (show arg0 args (fun x r => chain (linK x fun kd l => ite1 (Nat.beq kd 3) <| rgK l fun lo hi => ite1 (ile (Int.ofNat 0) lo) <| ite1 (ile hi (Int.ofNat 281474976710656)) <| stK O.none (O.c .nil e true) nx h fun h' => K (.o 3 l nx 0 0) h' (Nat.succ nx)) (fun _ _ _ => false) r) = true from hk)
  simp only [VRs] at hv
  obtain ⟨v1, l1, rfl, h1, h2⟩ := hv
  cases r <;> first | (simp only [VRs] at h2; done) | exact Bool.noConfusion hk2 | skip
  simp only [VRs] at h2
  subst h2
  obtain ⟨kd, l, hk3, hl⟩ := linK_spec (show linK x (fun kd l => ite1 (Nat.beq kd 3) <| rgK l fun lo hi => ite1 (ile (Int.ofNat 0) lo) <| ite1 (ile hi (Int.ofNat 281474976710656)) <| stK O.none (O.c .nil e true) nx h fun h' => K (.o 3 l nx 0 0) h' (Nat.succ nx)) = true from hk2)
  obtain ⟨e1, hk4⟩ := ite1_spec hk3
  have e1 := beq_spec e1
  subst e1
  obtain ⟨lo, hi, hk5, hr⟩ := rgK_spec hk4
  obtain ⟨q1, hk6⟩ := ite1_spec hk5
  obtain ⟨q2, hk7⟩ := ite1_spec hk6
  have q1 := ile_spec q1
  have q2 := ile_spec q2
  obtain ⟨n0, hn0, rfl⟩ := hl ρ _ h1
  have hb2 := hr ρ _ hn0
  have z : ∀ n : Nat, Int.ofNat n = (n : Int) := fun _ => rfl
  rw [z] at q1 q2
  obtain ⟨n, rfl⟩ : ∃ n : Nat, n0 = (n : Int) := ⟨n0.toNat, by omega⟩
  have e2 : n ≤ 281474976710656 := by omega
  obtain ⟨cs, hr2, hle, _⟩ := Lib.run_makeNoZero (P := P) w ps t e ht n e2
  rw [stK_eq] at hk7
  have s2 : St ρ h nx w.drew.drew := s.heap rfl
  obtain ⟨g3, g4⟩ := s2.alloc (o := .c .nil e true) (ob := .cells cs e) (n := cs.size)
    ⟨cs, (0, 0), rfl, rfl, by intro _ q _; simp, Nat.zero_le _, by simp [CR]⟩
  refine UponOK.val (upon_extern hf hname hb hn he hr2) (x := .o 3 l nx 0 0) ?_ g3 (Ext.trans (Ext.same (w' := w.drew.drew) rfl rfl rfl rfl) g4) hk7
  exact VR_o3 (upd_same _ _ _) (hn0.mono (upd_le (s2.fresh nx (Nat.le_refl _)))) hle (by show 0 + cs.size ≤ cs.size; omega)
def noDec (n : Nat) : Bool := ior (Nat.blt n 45) (ior (ite1 (Nat.blt 45 n) (Nat.blt n 48)) (Nat.blt 57 n))
theorem itoa_mem (m : Int) : ∀ c ∈ Lib.itoa m, c.toNat = 45 ∨ (48 ≤ c.toNat ∧ c.toNat ≤ 57) := by
  intro c hc
  by_cases h : m < 0
  · have e : m = -(m.natAbs : Int) := by omega
    rw [e, itoa_neg' (by omega)] at hc
    rcases List.mem_cons.1 hc with rfl | hc
    · exact .inl rfl
    · exact .inr (dec_mem _ c hc)
  · have e : m = (m.natAbs : Int) := by omega
    rw [e, itoa_pos] at hc
    exact .inr (dec_mem _ c hc)
theorem noDec_spec {n : Nat} (hk : noDec n = true) {m : Int} : ∀ c ∈ Lib.itoa m, c.toNat ≠ n := by
  intro c hc e
  unfold noDec at hk
  rw [ior_eq, Bool.or_eq_true, ior_eq, Bool.or_eq_true] at hk
  have := itoa_mem m c hc
  rcases hk with h | h | h
  · have := Nat.blt_eq.mp h; omega
  · obtain ⟨h1, h2⟩ := ite1_spec h
    have := Nat.blt_eq.mp h1
    have := Nat.blt_eq.mp h2
    omega
  · have := Nat.blt_eq.mp h; omega
def pieceNo (n : Nat) (x : V) : Bool := V.rec (motive := fun _ => Bool) false (fun _ _ _ _ => false) (fun _ => false) (fun _ k => inot (ieq k (Int.ofNat n))) (fun _ => false) (fun _ _ => false) false (fun _ _ _ _ => false) false false false (fun _ => false) false (fun _ _ _ => false) false (fun _ _ _ => false) false (fun _ _ => false) (fun _ _ => false)
  (fun _ _ lo hi => disj lo hi n n) (fun _ _ => false) (fun _ _ _ _ _ => false) (fun t l _ _ _ _ => Bool.rec (ite1 (Nat.beq t 1) (tbN (mskV l) n)) (noDec n) (Nat.beq t 4)) x
def noByte (n : Nat) (c : V) : Bool := chain true (fun x _ ih => Bool.rec false ih (pieceNo n x)) c
theorem pieceNo_spec {n : Nat} {x : V} {s : List UInt8} (hk : pieceNo n x = true) (hs : PR ρ x s) : ∀ c ∈ s, c.toNat ≠ n := by
  cases x <;> first | exact Bool.noConfusion hk | skip
  case i kd k =>
    have hk2 : inot (ieq k (Int.ofNat n)) = true := hk
    rw [inot_eq, ieq_eq] at hk2
    simp only [PR] at hs
    obtain ⟨_, c, rfl, rfl⟩ := hs
    intro d hd
    rw [List.mem_singleton] at hd
    subst hd
    intro e
    subst e
    simp at hk2
  case x a kd lo hi =>
    have hk2 : disj lo hi n n = true := hk
    simp only [PR] at hs
    obtain ⟨_, c, L, rfl, _, h1, h2, h3⟩ := hs
    intro d hd
    rw [List.mem_singleton] at hd
    subst hd
    unfold disj at hk2
    rw [ior_eq, Bool.or_eq_true] at hk2
    rcases hk2 with h | h <;> (have := Nat.blt_eq.mp h; omega)
  case o t l a lo hi =>
    have hk : (Bool.rec (ite1 (Nat.beq t 1) (tbN (mskV l) n)) (noDec n) (Nat.beq t 4) : Bool) = true := hk
    cases e4 : Nat.beq t 4 with
    | true =>
      rw [e4] at hk
      have e4 := beq_spec e4
      simp only [PR] at hs
      rcases hs with ⟨h, _⟩ | ⟨_, _, _, m, _, rfl⟩
      · omega
      · exact noDec_spec hk
    | false =>
    rw [e4] at hk
    obtain ⟨e, hk2⟩ := ite1_spec (show ite1 (Nat.beq t 1) (tbN (mskV l) n) = true from hk)
    have e := beq_spec e
    simp only [PR] at hs
    rcases hs with ⟨_, L, _, _, _, _, h, _⟩ | ⟨h, _⟩
    · intro c hc e2
      have := h c hc
      rw [e2, hk2] at this
      cases this
    · omega
theorem noByte_spec {n : Nat} : ∀ {c : V} {s : List UInt8}, noByte n c = true → RR ρ c s → ∀ d ∈ s, d.toNat ≠ n := by
  intro c
  induction c with
  | nil => intro s _ hs; simp only [RR] at hs; subst hs; simp
  | cons x l _ ih =>
    intro s hk hs
    have hk' : (Bool.rec false (noByte n l) (pieceNo n x) : Bool) = true := hk
    cases e : pieceNo n x with
    | false => rw [e] at hk'; exact Bool.noConfusion hk'
    | true =>
      rw [e] at hk'
      simp only [RR] at hs
      obtain ⟨s1, s2, h1, h2, rfl⟩ := hs
      intro d hd
      rcases List.mem_append.1 hd with hd | hd
      · exact pieceNo_spec e h1 d hd
      · exact ih hk' h2 d hd
  | _ => intro s _ hs; simp [RR] at hs
theorem indexByte_none {n : Nat} (hn : n < 256) : ∀ {s : List UInt8}, (∀ d ∈ s, d.toNat ≠ n) → Lib.indexByte s (UInt8.ofNat n) = -1
  | [], _ => rfl
  | d :: ds, h => by
    have ei : Lib.indexByte (d :: ds) (UInt8.ofNat n) = if (d == UInt8.ofNat n) = true then 0 else if Lib.indexByte ds (UInt8.ofNat n) == -1 then -1 else Lib.indexByte ds (UInt8.ofNat n) + 1 := rfl
    rw [ei, u8_ne hn (h d (List.mem_cons_self ..)), indexByte_none hn (fun e he => h e (List.mem_cons_of_mem _ he))]
    rfl
def hkIndexByteO : HookF := fun args h nx K => arg0 args fun x r => arg0 r fun y r' => chain (ropK x fun c => vI y fun kd n => ite1 (keq kd .u8) <| Int.rec (motive := fun _ => Bool) (fun m => ite1 (Nat.blt m 256) <| ite1 (noByte m c) <| K (.i .i64 (Int.negSucc 0)) h nx) (fun _ => false) n) (fun _ _ _ => false) r'
theorem hkIndexByteO_ok {g : Nat} {fn : Func} (hf : P.funcs[g]? = some fn) (hname : (fn.name == "runtime.NumGoroutine") = false) (hb : fn.body.isNone = true) (hn : Extern.findNext fn = none) (he : Extern.find fn = some Extern.BytealgIndexByte.indexByte) : HookOk P ng g hkIndexByteO := by
  intro args h nx K Kp hk ρ w vs s _ hv
  obtain ⟨x, r, rfl, hk2⟩ := arg0_spec hk
  obtain ⟨y, r', rfl, hk3⟩ := arg0_spec hk2
  simp only [VRs] at hv
  obtain ⟨v1, l1, rfl, h1, v2, l2, rfl, h2, h3⟩ := hv
  cases r' <;> first | (simp only [VRs] at h3; done) | exact Bool.noConfusion hk3 | skip
  simp only [VRs] at h3
  subst h3
  obtain ⟨c, hk4, hc⟩ := ropK_spec (show ropK x (fun c => vI y fun kd n => ite1 (keq kd .u8) <| Int.rec (motive := fun _ => Bool) (fun m => ite1 (Nat.blt m 256) <| ite1 (noByte m c) <| K (.i .i64 (Int.negSucc 0)) h nx) (fun _ => false) n) = true from hk3)
  obtain ⟨kd, n, rfl, hk5⟩ := vI_spec (v := y) hk4
  obtain ⟨e1, hk6⟩ := ite1_spec hk5
  have e1 := keq_eq e1
  subst e1
  cases n with
  | negSucc n => exact Bool.noConfusion hk6
  | ofNat n =>
    obtain ⟨e2, hk7⟩ := ite1_spec (show ite1 (Nat.blt n 256) (ite1 (noByte n c) <| K (.i .i64 (Int.negSucc 0)) h nx) = true from hk6)
    obtain ⟨e3, hk8⟩ := ite1_spec hk7
    have e2 := Nat.blt_eq.mp e2
    simp only [VR] at h2
    subst h2
    obtain ⟨b, rfl, hb2⟩ := hc ρ _ h1
    have hno := indexByte_none e2 (noByte_spec e3 hb2)
    have hr := Lib.run_indexByteString (P := P) b (n : Int) w
    have e : ((n : Int).toNat.toUInt8) = UInt8.ofNat n := by simp
    rw [e, hno] at hr
    exact UponOK.val (upon_extern hf hname hb hn he hr) (VRi _ _ _) s (Ext.refl _ _ _) hk8
end
end Go.Mx
namespace Go.Mx
noncomputable section
variable {P : Program}
end
end Go.Mx
namespace Go.Mx
open Instr Builtin
noncomputable section
variable {P : Program} {ρ : Ren} {h : T O} {nx : Nat} {w : World} {ng : Nat}
def isThe (n : Nat) (x : V) : Bool := V.rec (motive := fun _ => Bool) false (fun _ _ _ _ => false) (fun _ => false) (fun _ k => ieq k (Int.ofNat n)) (fun _ => false) (fun _ _ => false) false (fun _ _ _ _ => false) false false false (fun _ => false) false (fun _ _ _ => false) false (fun _ _ _ => false) false (fun _ _ => false) (fun _ _ => false)
  (fun _ _ _ _ => false) (fun _ _ => false) (fun _ _ _ _ _ => false) (fun _ _ _ _ _ _ => false) x
theorem isThe_spec {n : Nat} {x : V} {s : List UInt8} (hk : isThe n x = true) (hs : PR ρ x s) : ∃ c : UInt8, s = [c] ∧ c.toNat = n := by
  cases x <;> first | exact Bool.noConfusion hk | skip
  case i kd k =>
    have hk2 : ieq k (Int.ofNat n) = true := hk
    rw [ieq_eq] at hk2
    have e : k = (n : Int) := by simpa using hk2
    simp only [PR] at hs
    obtain ⟨_, c, rfl, rfl⟩ := hs
    exact ⟨c, rfl, by omega⟩
def findR (n : Nat) (c : V) : V → (V → Bool) → Bool := chain (M := V → (V → Bool) → Bool) (fun _ k => k (.i .i64 (Int.negSucc 0)))
  (fun x _ ih acc k => Bool.rec (ite1 (isThe n x) (mkI 3 acc k)) (lenE x acc fun acc' => ih acc' k) (pieceNo n x)) c
theorem indexByte_skip {n : Nat} (hn : n < 256) : ∀ {s t : List UInt8}, (∀ d ∈ s, d.toNat ≠ n) → Lib.indexByte (s ++ t) (UInt8.ofNat n) = if Lib.indexByte t (UInt8.ofNat n) = -1 then -1 else (s.length : Int) + Lib.indexByte t (UInt8.ofNat n)
  | [], t, _ => by
    by_cases e : Lib.indexByte t (UInt8.ofNat n) = -1
    · rw [if_pos e]; exact e
    · rw [if_neg e]; simp
  | d :: ds, t, h => by
    have ei : Lib.indexByte (d :: (ds ++ t)) (UInt8.ofNat n) = if (d == UInt8.ofNat n) = true then 0 else if Lib.indexByte (ds ++ t) (UInt8.ofNat n) == -1 then -1 else Lib.indexByte (ds ++ t) (UInt8.ofNat n) + 1 := rfl
    rw [List.cons_append, ei, u8_ne hn (h d (List.mem_cons_self ..)), indexByte_skip hn (s := ds) (t := t) fun e he => h e (List.mem_cons_of_mem _ he)]
    by_cases e : Lib.indexByte t (UInt8.ofNat n) = -1
    · simp [e]
    · have hp : ∀ l : List UInt8, -1 ≤ Lib.indexByte l (UInt8.ofNat n) := fun l => by
        induction l with
        | nil => exact Int.le_refl _
        | cons a l ih =>
          have ej : Lib.indexByte (a :: l) (UInt8.ofNat n) = if (a == UInt8.ofNat n) = true then 0 else if Lib.indexByte l (UInt8.ofNat n) == -1 then -1 else Lib.indexByte l (UInt8.ofNat n) + 1 := rfl
          rw [ej]
          split
          · omega
          · split
            · omega
            · omega
      have h0 := hp t
      rw [if_neg e, if_neg e]
      simp only [Bool.false_eq_true, if_false]
      rw [if_neg (by simp; omega)]
      simp only [List.length_cons]
      omega
theorem findR_spec {n : Nat} (hn : n < 256) : ∀ {c acc : V} {k : V → Bool}, findR n c acc k = true → isC acc → ∃ y, k y = true ∧ ∀ ρ m s, LR ρ acc m → RR ρ c s → VR ρ y (.int .i64 (if Lib.indexByte s (UInt8.ofNat n) = -1 then -1 else m + Lib.indexByte s (UInt8.ofNat n))) := by
  intro c
  induction c with
  | nil =>
    intro acc k hk _
    refine ⟨_, hk, fun ρ m s _ hs => ?_⟩
    simp only [RR] at hs
    subst hs
    exact VRi _ _ _
  | cons x l _ ih =>
    intro acc k hk hc
    have hk' : (Bool.rec (ite1 (isThe n x) (mkI 3 acc k)) (lenE x acc fun acc' => findR n l acc' k) (pieceNo n x) : Bool) = true := hk
    cases e : pieceNo n x with
    | false =>
      rw [e] at hk'
      obtain ⟨e1, hk2⟩ := ite1_spec (show ite1 (isThe n x) (mkI 3 acc k) = true from hk')
      obtain ⟨y, g1, g2⟩ := mkI_spec hk2
      refine ⟨y, g1, fun ρ m s hm hs => ?_⟩
      simp only [RR] at hs
      obtain ⟨s1, s2, h1, h2, rfl⟩ := hs
      obtain ⟨d, rfl, hd⟩ := isThe_spec e1 h1
      have ed : d = UInt8.ofNat n := by rw [← hd]; simp
      have e0 : Lib.indexByte ([d] ++ s2) (UInt8.ofNat n) = 0 := by
        have ei : Lib.indexByte (d :: s2) (UInt8.ofNat n) = if (d == UInt8.ofNat n) = true then 0 else if Lib.indexByte s2 (UInt8.ofNat n) == -1 then -1 else Lib.indexByte s2 (UInt8.ofNat n) + 1 := rfl
        show Lib.indexByte (d :: s2) (UInt8.ofNat n) = 0
        rw [ei, ed]
        simp
      rw [e0, if_neg (by omega), Int.add_zero]
      exact g2 ρ m hm
    | true =>
      rw [e] at hk'
      obtain ⟨r, hk2, hcr, hr⟩ := lenE_spec (show lenE x acc (fun acc' => findR n l acc' k) = true from hk') hc
      obtain ⟨y, g1, g2⟩ := ih hk2 hcr
      refine ⟨y, g1, fun ρ m s hm hs => ?_⟩
      simp only [RR] at hs
      obtain ⟨s1, s2, h1, h2, rfl⟩ := hs
      have hv := g2 ρ _ s2 (hr ρ m s1 hm h1) h2
      rw [indexByte_skip hn (pieceNo_spec e h1)]
      by_cases e2 : Lib.indexByte s2 (UInt8.ofNat n) = -1
      · rw [if_pos e2] at hv ⊢
        simpa using hv
      · rw [if_neg e2] at hv ⊢
        have hp : ¬ ((s1.length : Int) + Lib.indexByte s2 (UInt8.ofNat n)) = -1 := by
          have : ∀ l : List UInt8, -1 ≤ Lib.indexByte l (UInt8.ofNat n) := fun l => by
            induction l with
            | nil => exact Int.le_refl _
            | cons a l ih =>
              have ej : Lib.indexByte (a :: l) (UInt8.ofNat n) = if (a == UInt8.ofNat n) = true then 0 else if Lib.indexByte l (UInt8.ofNat n) == -1 then -1 else Lib.indexByte l (UInt8.ofNat n) + 1 := rfl
              rw [ej]
              split
              · omega
              · split
                · omega
                · omega
          have := this s2
          omega
        rw [if_neg hp, ← Int.add_assoc]
        exact hv
  | _ => intro acc k hk _; exact ⟨_, hk, fun ρ m s _ hs => by simp [RR] at hs⟩
def hkAtO : HookF := fun args h nx K => arg0 args fun x r => arg0 r fun y r' => chain (ropK x fun c => lenR c fun m => rgK m fun _ hi => ite1 (ile hi (Int.ofNat 9223372036854775807)) <| vI y fun kd n => ite1 (keq kd .u8) <| Int.rec (motive := fun _ => Bool) (fun m => ite1 (Nat.blt m 256) <| findR m c .nil fun y => K y h nx) (fun _ => false) n) (fun _ _ _ => false) r'
theorem hkAtO_ok (hn : NameOK P) {g : Nat} {fn : Func} {cd : Code} (hf : P.funcs[g]? = some fn) (hb : fn.body = some cd)
    (hC : ∀ (b : ByteArray) (n : Nat) (w : World), b.size ≤ 9223372036854775807 → n < 256 → Calls P g #[.string b, .int .u8 (n : Int)] w fun e w' => e = .returned (.int .i64 (Lib.indexByte b.data.toList (UInt8.ofNat n))) ∧ Stays w w') : HookOk P ng g hkAtO := by
  intro args h nx K Kp hk ρ w vs s _ hv
  obtain ⟨x, r, rfl, hk2⟩ := arg0_spec hk
  obtain ⟨y, r', rfl, hk3⟩ := arg0_spec hk2
  simp only [VRs] at hv
  obtain ⟨v1, l1, rfl, h1, v2, l2, rfl, h2, h3⟩ := hv
  cases r' <;> first | (simp only [VRs] at h3; done) | exact Bool.noConfusion hk3 | skip
  simp only [VRs] at h3
  subst h3
  obtain ⟨c, hk4, hc⟩ := ropK_spec (show ropK x (fun c => lenR c fun m => rgK m fun _ hi => ite1 (ile hi (Int.ofNat 9223372036854775807)) <| vI y fun kd n => ite1 (keq kd .u8) <| Int.rec (motive := fun _ => Bool) (fun m => ite1 (Nat.blt m 256) <| findR m c .nil fun y => K y h nx) (fun _ => false) n) = true from hk3)
  obtain ⟨m, hk5, _, hm⟩ := lenR_spec hk4
  obtain ⟨lo, hi, hk6, hr⟩ := rgK_spec hk5
  obtain ⟨e0, hk7⟩ := ite1_spec hk6
  have e0 := ile_spec e0
  obtain ⟨kd, n, rfl, hk8⟩ := vI_spec (v := y) hk7
  obtain ⟨e1, hk9⟩ := ite1_spec hk8
  have e1 := keq_eq e1
  subst e1
  cases n with
  | negSucc n => exact Bool.noConfusion hk9
  | ofNat n =>
    obtain ⟨e2, hk10⟩ := ite1_spec (show ite1 (Nat.blt n 256) (findR n c .nil fun y => K y h nx) = true from hk9)
    have e2 := Nat.blt_eq.mp e2
    simp only [VR] at h2
    subst h2
    obtain ⟨b, rfl, hb2⟩ := hc ρ _ h1
    have hl := (hr ρ _ (hm ρ _ hb2)).2
    have hz : b.size ≤ 9223372036854775807 := by
      have e : b.data.toList.length = b.size := rfl
      rw [e] at hl
      have z : Int.ofNat 9223372036854775807 = 9223372036854775807 := rfl
      rw [z] at e0
      omega
    obtain ⟨y, g1, g2⟩ := findR_spec e2 hk10 (show isC .nil from trivial)
    have hv := g2 ρ 0 b.data.toList (by simp [LR]) hb2
    refine upon_of_calls hn hf hb ((hC b n w hz e2).mono fun e w' ⟨h1, h2⟩ => ⟨_, h1, ?_, h2⟩) s g1
    by_cases e3 : Lib.indexByte b.data.toList (UInt8.ofNat n) = -1
    · rw [if_pos e3] at hv
      rw [e3]
      exact hv
    · rw [if_neg e3, Int.zero_add] at hv
      exact hv
end
end Go.Mx
