/-
  A part of a small executor of the model, proved sound (25 of 34). No condition.
-/
import Derived.Test.YtoflpofblogmcaaGreatDoorXMxAD
import Derived.Test.YtoflpofblogmcaaGreatDoorXMxQ
namespace Go.Mx
noncomputable section
variable {P : Program}
theorem top_run_k (hn : NameOK P) {R : CK} {ng : Nat} (hR : CKok P ng R) {g : Nat} {fn : Func} {cd : Code} (hf : P.funcs[g]? = some fn) (hb : fn.body = some cd)
    {l : List (Nat × V)} {x : Bool} {args : V} {vs : List Value} (hl : inT ng l = true) {W : World} {ob : List (Nat × O)} {ρa : Ren} {nx : Nat} (hnx : ng ≤ nx) (hρ : ∀ i L, ρa i = some L → ng ≤ i ∧ i < nx)
    (hob : ∀ i, (gt O.none i (putO ob .leaf)).live → (ng ≤ i ∧ i < nx ∧ ¬ (gt O.none i (putO ob .leaf)).wr) ∧ ∀ L, ρa i = some L → ∃ o, W.heap[L.blk]? = some o ∧ OR ρa L (gt O.none i (putO ob .leaf)) o)
    (hv : VRs ρa args vs)
    (hrun : ∀ τ : Nat → Nat, mkTK τ l (putO ob .leaf) (fun h0 => R g args h0 nx (fun v _ _ => isB x v) (fun _ _ _ => false)) = true) (tab : HasTables l W) :
    Calls P g ⟨vs⟩ W fun e W' => e = .returned (.bool x) ∧ Stays W W' := by
  let τ : Nat → Nat := fun i => match W.heap[i]? with
    | some (.cells _ ty _) => ty
    | _ => 0
  let sz : Nat → Nat := fun i => match W.heap[i]? with
    | some (.cells arr _ _) => arr.size
    | _ => 0
  have hrun := hrun τ
  rw [mkTK_eq] at hrun
  let ρr : Ren := fun i => if i < ng then some ⟨i, 0, sz i⟩ else ρa i
  have hin := inT_spec hl
  have at0 := mkT_at τ l (putO ob (.leaf : T O))
  have hle : Ren.le ρa ρr := fun i L e => by
    have := (hρ i L e).1
    have h1 : ¬ i < ng := by omega
    simp only [ρr, h1, if_false]
    exact e
  have live0 : ∀ i, (gt O.none i (mkTb τ l (putO ob .leaf))).live → (∃ p ∈ l, p.1 = i ∧ gt O.none i (mkTb τ l (putO ob .leaf)) = tabO p.2 (τ i)) ∨ ((gt O.none i (putO ob .leaf)).live ∧ gt O.none i (mkTb τ l (putO ob .leaf)) = gt O.none i (putO ob .leaf)) := fun i hi => by
    rcases at0 i with h1 | ⟨_, h2⟩
    · exact .inl h1
    · rw [h2] at hi; exact .inr ⟨hi, h2⟩
  have nowr : ∀ i, ¬ (gt O.none i (mkTb τ l (putO ob .leaf))).wr := fun i hi => by
    rcases live0 i (O.live_of_wr hi) with ⟨p, _, _, e⟩ | ⟨h1, e⟩
    · rw [e] at hi
      exact Bool.noConfusion (show false = true from hi)
    · rw [e] at hi
      exact (hob i h1).1.2.2 hi
  have tl : ∀ {i : Nat} {L : Loc}, i < ng → ρr i = some L → L = ⟨i, 0, sz i⟩ := fun {i L} h e => by simpa [ρr, h, eq_comm] using e
  have al : ∀ {i : Nat} {L : Loc}, ng ≤ i → ρr i = some L → ρa i = some L := fun {i L} h e => by
    have h1 : ¬ i < ng := by omega
    simpa only [ρr, h1, if_false] using e
  have sr : St ρr (mkTb τ l (putO ob .leaf)) nx W := by
    refine ⟨fun id L hi hL => ?_, fun i j L M hi => (nowr i hi).elim, fun i hi => ?_, fun i hi hl' => ?_⟩
    · rcases live0 id hi with ⟨p, hp, rfl, e⟩ | ⟨h1, e⟩
      · obtain rfl := tl (hin p hp).1 hL
        obtain ⟨ar, t', h1, h2⟩ := tab p hp
        refine ⟨_, h1, ?_⟩
        have et : τ p.1 = t' := by simp only [τ, h1]
        have es : sz p.1 = ar.size := by simp only [sz, h1]
        rw [e, et]
        exact ⟨ar, (0, 0), rfl, es.symm, (fun hf => by cases hf), Nat.zero_le _, by simpa using plain_CR (hin p hp).2 h2⟩
      · obtain ⟨⟨q1, q2, q3⟩, q4⟩ := hob id h1
        obtain ⟨o, g1, g2⟩ := q4 L (al q1 hL)
        exact ⟨o, g1, by rw [e]; exact g2.mono hle⟩
    · have h1 : ¬ i < ng := by omega
      show (if i < ng then some _ else ρa i) = none
      rw [if_neg h1]
      cases e : ρa i with
      | none => rfl
      | some L => have := (hρ i L e).2; omega
    · rcases live0 i hl' with ⟨p, hp, rfl, _⟩ | ⟨h1, _⟩
      · have := (hin p hp).1
        omega
      · have := (hob i h1).1.2.1
        omega
  have gr : RG ng ρr := fun i hi => ⟨⟨i, 0, sz i⟩, by simp [ρr, hi], rfl, rfl⟩
  have up := hR g args (mkTb τ l (putO ob .leaf)) nx (fun v _ _ => isB x v) (fun _ _ _ => false) hrun ρr W vs sr gr (hv.mono hle)
  let o : Oper := { (default : Oper) with dst := some 0 }
  let a : Act := { tmps := #[undef], defers := [] }
  have h := up o a (fun a' W' => a'.tmps[0]? = some (.bool x) ∧ Stays W W') (fun _ _ _ => False) (fun ρ' y h' nx' v w' hv' _ hx hky => ?_) (fun ρ' y h' nx' v w' _ _ _ hky => Bool.noConfusion hky)
  · rw [callFunc_enter hn hf hb, Oper.upon_enter] at h
    refine h.mono fun e W' hr => ?_
    cases e with
    | returned v =>
      obtain ⟨h1, h2⟩ := hr
      have : v = .bool x := by simpa [Act.put, o, a] using h1
      exact ⟨by rw [this], h2⟩
    | panicked c => exact hr.elim
    | outgrown => obtain ⟨_, _, hq⟩ := hr; exact hq.elim
  · obtain ⟨bb, rfl, hbb⟩ := vB_spec (show vB y (fun b => bs_eq b x) = true from hky)
    have hbx : bb = x := by cases bb <;> cases x <;> first | rfl | exact Bool.noConfusion hbb
    subst hbx
    simp only [VR] at hv'
    subst hv'
    exact ⟨by simp [Act.put, o, a], hx.size, hx.os, hx.tape, hx.output, fun b hb => (hx.kept b hb fun id L hw _ => (nowr id hw).elim).1⟩
end
end Go.Mx
namespace Go.Mx
noncomputable section
variable {P : Program}
def formV (M lo hi B a : Nat) : Nat → V
  | 0 => .s []
  | 1 => .o 0 (.cons (.o 1 (.m M) a 1 B) .nil) 0 0 0
  | 2 => .o 0 (.cons (.o 1 (.m M) a 0 B) (.cons (.x (Nat.succ a) .u8 0 (Nat.sub lo 1)) (.cons (.o 1 (.m 0) (Nat.succ (Nat.succ a)) 0 B) .nil))) 0 0 0
  | 3 => .o 0 (.cons (.o 1 (.m M) a 0 B) (.cons (.x (Nat.succ a) .u8 (Nat.succ hi) 255) (.cons (.o 1 (.m 0) (Nat.succ (Nat.succ a)) 0 B) .nil))) 0 0 0
  | _ => .y .nil a (Nat.succ B) 9223372036854775807
def mskOut (lo hi M : Nat) : Bool := allN 256 fun q => ior (inot (ite1 (Nat.ble lo q) (Nat.ble q hi))) (inot (tbN M q))
theorem mskOut_spec {lo hi M : Nat} (hk : mskOut lo hi M = true) (c : UInt8) (h1 : lo ≤ c.toNat) (h2 : c.toNat ≤ hi) : tbN M c.toNat = false := by
  rcases ior_cases (allN_spec hk c.toNat (UInt8.toNat_lt c)) with h | h
  · have h3 := inot_cases h
    rw [Nat.ble_eq.mpr h1] at h3
    have h3 : Nat.ble c.toNat hi = false := h3
    rw [Nat.ble_eq.mpr h2] at h3
    cases h3
  · exact inot_cases h
theorem text_case {M lo hi B : Nat} (hM : mskOut lo hi M = true) (a : Nat) (s : ByteArray) (hz : s.size ≤ 9223372036854775807) :
    ∃ t, t < 5 ∧ ∃ ρ : Ren, (∀ i L, ρ i = some L → a ≤ i ∧ i < a + 3) ∧ VR ρ (formV M lo hi B a t) (.string s) := by
  have hsz : s.size = s.data.toList.length := rfl
  rcases words lo hi B s with h | ⟨h, hw⟩ | ⟨k, d, h, hk, hp, hd⟩
  · refine ⟨4, by omega, fun i => if i = a then some ⟨0, s.size, 0⟩ else none, fun i L hi => ?_, ?_⟩
    · by_cases e : i = a
      · omega
      · simp [e] at hi
    · exact VR_long (s := s) ⟨⟨0, s.size, 0⟩, by simp, rfl⟩ ⟨h, hz⟩
  · by_cases h0 : s.size = 0
    · refine ⟨0, by omega, fun _ => none, fun i L hi => (by cases hi), ?_⟩
      simp only [formV, VR]
      refine ⟨?_, by simp⟩
      congr 1
      apply ByteArray.ext
      apply Array.ext'
      have : s.data.toList = [] := List.eq_nil_of_length_eq_zero (by omega)
      rw [this]
      rfl
    · refine ⟨1, by omega, fun i => if i = a then some ⟨0, enc s.data.toList, 0⟩ else none, fun i L hi => ?_, ?_⟩
      · by_cases e : i = a
        · omega
        · simp [e] at hi
      · refine VR_rope ?_
        simp only [RR]
        refine ⟨s.data.toList, [], ?_, rfl, (List.append_nil _).symm⟩
        simp only [PR]
        exact .inl ⟨trivial, ⟨0, enc s.data.toList, 0⟩, by simp, rfl, by omega, by omega, fun c hc => mskOut_spec hM c (hw c hc).1 (hw c hc).2, trivial⟩
  · have hlt := (List.getElem?_eq_some_iff.1 hk).1
    let ρ : Ren := fun i => if i = a then some ⟨0, enc (s.data.toList.take k), 0⟩ else if i = a + 1 then some ⟨0, d.toNat, 0⟩ else if i = a + 2 then some ⟨0, enc (s.data.toList.drop (k + 1)), 0⟩ else none
    have hρ : ∀ i L, ρ i = some L → a ≤ i ∧ i < a + 3 := fun i L hi => by
      by_cases e : a ≤ i ∧ i < a + 3
      · exact e
      · simp only [ρ] at hi
        rw [if_neg (by omega), if_neg (by omega), if_neg (by omega)] at hi
        cases hi
    have r0 : ρ a = some ⟨0, enc (s.data.toList.take k), 0⟩ := by simp [ρ]
    have r1 : ρ (a + 1) = some ⟨0, d.toNat, 0⟩ := by simp [ρ]
    have r2 : ρ (a + 2) = some ⟨0, enc (s.data.toList.drop (k + 1)), 0⟩ := by simp [ρ]
    have key : ∀ l' h', l' ≤ d.toNat → d.toNat ≤ h' → VR ρ (.o 0 (.cons (.o 1 (.m M) a 0 B) (.cons (.x (Nat.succ a) .u8 l' h') (.cons (.o 1 (.m 0) (Nat.succ (Nat.succ a)) 0 B) .nil))) 0 0 0) (.string s) := fun l' h' g1 g2 => by
      refine VR_rope ?_
      simp only [RR]
      refine ⟨s.data.toList.take k, _, ?_, ⟨[d], _, ?_, ⟨s.data.toList.drop (k + 1), [], ?_, rfl, (List.append_nil _).symm⟩, rfl⟩, cut_at hk⟩
      · simp only [PR]
        exact .inl ⟨trivial, _, r0, rfl, Nat.zero_le _, by rw [List.length_take]; omega, fun c hc => mskOut_spec hM c (hp c hc).1 (hp c hc).2, trivial⟩
      · simp only [PR]
        exact ⟨trivial, d, _, rfl, r1, g1, g2, rfl⟩
      · simp only [PR]
        exact .inl ⟨trivial, _, r2, rfl, Nat.zero_le _, by rw [List.length_drop]; omega, fun q _ => tbN_zero _, trivial⟩
    rcases hd with hd | hd
    · exact ⟨2, by omega, ρ, hρ, key 0 (lo - 1) (Nat.zero_le _) (by omega)⟩
    · exact ⟨3, by omega, ρ, hρ, key (hi + 1) 255 (by omega) (by have := UInt8.toNat_lt d; omega)⟩
def formW (M lo hi B1 B a : Nat) : Nat → V
  | 0 => .s []
  | 1 => .o 0 (.cons (.o 1 (.m M) a 1 B1) .nil) 0 0 0
  | 2 => formV M lo hi B a 2
  | 3 => formV M lo hi B a 3
  | 4 => formV M lo hi B a 4
  | _ => .o 0 (.cons (.o 1 (.m M) a (Nat.succ B1) B) .nil) 0 0 0
theorem text_caseW {M lo hi B1 B : Nat} (hM : mskOut lo hi M = true) (a : Nat) (s : ByteArray) (hz : s.size ≤ 9223372036854775807) :
    ∃ t, t < 6 ∧ ∃ ρ : Ren, (∀ i L, ρ i = some L → a ≤ i ∧ i < a + 3) ∧ VR ρ (formW M lo hi B1 B a t) (.string s) := by
  obtain ⟨t, ht, ρ, hρ, hv⟩ := text_case (B := B) hM a s hz
  match t, ht, hv with
  | 0, _, hv => exact ⟨0, by omega, ρ, hρ, hv⟩
  | 2, _, hv => exact ⟨2, by omega, ρ, hρ, hv⟩
  | 3, _, hv => exact ⟨3, by omega, ρ, hρ, hv⟩
  | 4, _, hv => exact ⟨4, by omega, ρ, hρ, hv⟩
  | 1, _, hv =>
    obtain ⟨b, hb, hr⟩ := rope_of rfl hv
    have hbs : b = s := by cases hb; rfl
    subst hbs
    simp only [RR] at hr
    obtain ⟨s1, s2, h1, h2, h3⟩ := hr
    simp only [PR] at h1
    obtain ⟨_, L, g1, g2, g3, g4, g5⟩ := h1.resolve_right fun ⟨z, _⟩ => by omega
    have mk : ∀ l' u', l' ≤ s1.length → s1.length ≤ u' → VR ρ (.o 0 (.cons (.o 1 (.m M) a l' u') .nil) 0 0 0) (.string b) := fun l' u' q1 q2 => by
      refine VR_rope ?_
      simp only [RR]
      refine ⟨s1, s2, ?_, h2, h3⟩
      simp only [PR]
      exact .inl ⟨trivial, L, g1, g2, q1, q2, g5⟩
    by_cases hc : s1.length ≤ B1
    · exact ⟨1, by omega, ρ, hρ, mk 1 B1 g3 hc⟩
    · exact ⟨5, by omega, ρ, hρ, mk (B1 + 1) B (by omega) g4⟩
def joinT (m : Nat) (ρ1 ρ2 : Ren) : Ren := fun i => if i < m then ρ1 i else ρ2 i
theorem joinT_le {m : Nat} {ρ1 ρ2 : Ren} (h1 : ∀ i L, ρ1 i = some L → i < m) (h2 : ∀ i L, ρ2 i = some L → m ≤ i) : Ren.le ρ1 (joinT m ρ1 ρ2) ∧ Ren.le ρ2 (joinT m ρ1 ρ2) := by
  refine ⟨fun i L h => ?_, fun i L h => ?_⟩
  · have := h1 i L h
    simp only [joinT, this, if_true]
    exact h
  · have := h2 i L h
    simp only [joinT]
    rw [if_neg (by omega)]
    exact h
end
end Go.Mx
namespace Go.Mx
open Instr Builtin RowKit
noncomputable section
variable {P : Program} {ρ : Ren} {h : T O} {nx : Nat} {w : World} {ng : Nat}
def isEqB (n : Nat) (y : V) : Bool := V.rec (motive := fun _ => Bool) (false) (fun _ _ _ _ => false) (fun _ => false) (fun _ k => ieq k (Int.ofNat n)) (fun _ => false) (fun _ _ => false) (false) (fun _ _ _ _ => false) (false) (false) (false) (fun _ => false) (false) (fun _ _ _ => false) (false) (fun _ _ _ => false) (false) (fun _ _ => false) (fun _ _ => false) (fun _ _ _ _ => false) (fun _ _ => false) (fun _ _ _ _ _ => false) (fun _ _ _ _ _ _ => false) y
def someB (y : V) : Bool := V.rec (motive := fun _ => Bool) (false) (fun _ _ _ _ => false) (fun _ => false) (fun _ _ => true) (fun _ => false) (fun _ _ => false) (false) (fun _ _ _ _ => false) (false) (false) (false) (fun _ => false) (false) (fun _ _ _ => false) (false) (fun _ _ _ => false) (false) (fun _ _ => false) (fun _ _ => false) (fun _ _ _ _ => true) (fun _ _ => false) (fun _ _ _ _ _ => false) (fun _ _ _ lo _ _ => Nat.ble 1 lo) y
theorem someB_spec {y : V} {s : List UInt8} (hk : someB y = true) (hs : PR ρ y s) : ∃ c r, s = c :: r := by
  cases y <;> first | exact Bool.noConfusion hk | skip
  case i kd n => simp only [PR] at hs; obtain ⟨_, c, rfl, _⟩ := hs; exact ⟨c, [], rfl⟩
  case x a kd l u => simp only [PR] at hs; obtain ⟨_, c, L, rfl, _⟩ := hs; exact ⟨c, [], rfl⟩
  case o t l a lo hi =>
    have hk : Nat.ble 1 lo = true := hk
    have hk := Nat.ble_eq.mp hk
    simp only [PR] at hs
    have hl : lo ≤ s.length := by
      rcases hs with ⟨_, L, _, _, q, _⟩ | ⟨_, q, _⟩
      · exact q
      · exact q
    cases s with
    | nil => simp at hl; omega
    | cons c r => exact ⟨c, r, rfl⟩
theorem isEqB_spec {n : Nat} {y : V} {s : List UInt8} (hk : isEqB n y = true) (hs : PR ρ y s) : ∃ c, s = [c] ∧ c.toNat = n := by
  cases y <;> first | exact Bool.noConfusion hk | skip
  case i kd k =>
    have hk : ieq k (Int.ofNat n) = true := hk
    rw [ieq_eq] at hk
    have hk : k = (n : Int) := by simpa using hk
    simp only [PR] at hs
    obtain ⟨_, c, rfl, h1⟩ := hs
    exact ⟨c, rfl, by omega⟩
def prefW (c : V) : List Nat → (Bool → Bool) → Bool → Bool := chain (M := List Nat → (Bool → Bool) → Bool → Bool) (fun p k _ => List.rec (motive := fun _ => Bool) (k true) (fun _ _ _ => k false) p)
  (fun y _ ih p k d => List.rec (motive := fun _ => Bool) (k true) (fun n p' _ => Bool.rec (Bool.rec d (k false) (ite1 (someB y) (pieceNo n y))) (ih p' k d) (isEqB n y)) p) c
theorem prefW_spec : ∀ {c : V} {p : List Nat} {k : Bool → Bool} {d : Bool}, prefW c p k d = true → (∀ n ∈ p, n < 256) → d = true ∨ ∃ b, k b = true ∧ ∀ ρ s, RR ρ c s → Lib.hasPrefix s (p.map UInt8.ofNat) = b := by
  intro c
  induction c with
  | nil =>
    intro p k d hk _
    cases p with
    | nil => exact .inr ⟨true, hk, fun ρ s _ => rfl⟩
    | cons n p => exact .inr ⟨false, hk, fun ρ s hs => by simp only [RR] at hs; subst hs; rfl⟩
  | cons y r _ ih =>
    intro p k d hk hp
    cases p with
    | nil => exact .inr ⟨true, hk, fun ρ s _ => rfl⟩
    | cons n p =>
      have hk2 : (Bool.rec (Bool.rec d (k false) (ite1 (someB y) (pieceNo n y))) (prefW r p k d) (isEqB n y) : Bool) = true := hk
      cases e : isEqB n y with
      | false =>
        rw [e] at hk2
        have hk3 : (Bool.rec d (k false) (ite1 (someB y) (pieceNo n y)) : Bool) = true := hk2
        cases e2 : ite1 (someB y) (pieceNo n y) with
        | false => rw [e2] at hk3; exact .inl hk3
        | true =>
          rw [e2] at hk3
          obtain ⟨h1, h2⟩ := ite1_spec e2
          refine .inr ⟨false, hk3, fun ρ s hs => ?_⟩
          simp only [RR] at hs
          obtain ⟨s1, s2, p1, p2, rfl⟩ := hs
          obtain ⟨c, q, rfl⟩ := someB_spec h1 p1
          have h3 := pieceNo_spec h2 p1 c (List.mem_cons_self ..)
          have h4 := u8_ne (hp n (List.mem_cons_self ..)) h3
          show (UInt8.ofNat n :: p.map UInt8.ofNat).isPrefixOf (c :: (q ++ s2)) = false
          have h5 : (UInt8.ofNat n == c) = false := by rw [← h4]; exact BEq.comm
          simp only [List.isPrefixOf, h5, Bool.false_and]
      | true =>
        rw [e] at hk2
        rcases ih (show prefW r p k d = true from hk2) (fun m hm => hp m (List.mem_cons_of_mem _ hm)) with h1 | ⟨b, h1, h2⟩
        · exact .inl h1
        · refine .inr ⟨b, h1, fun ρ s hs => ?_⟩
          simp only [RR] at hs
          obtain ⟨s1, s2, p1, p2, rfl⟩ := hs
          obtain ⟨c, rfl, h3⟩ := isEqB_spec e p1
          have h4 : (UInt8.ofNat n == c) = true := by rw [← h3]; simp
          show (UInt8.ofNat n :: p.map UInt8.ofNat).isPrefixOf (c :: s2) = b
          simp only [List.isPrefixOf, h4, Bool.true_and]
          exact h2 ρ s2 p2
  | _ => intro p k d hk _; cases p with
    | nil => exact .inr ⟨true, hk, fun ρ s _ => rfl⟩
    | cons n p => exact .inr ⟨false, hk, fun ρ s hs => by simp only [RR] at hs⟩
def hkHasPrefix (e : HookF) : HookF := fun args h nx K => arg0 args fun x r => arg0 r fun y r' => Bool.rec (e args h nx K) (chain (M := Bool) (ropK x fun c => vS y fun p => prefW c p (fun b => K (.b b) h nx) (e args h nx K)) (fun _ _ _ => false) r') (isS y)
theorem hkHasPrefix_ok (hn : NameOK P) {g : Nat} {fn : Func} {cd : Code} (hf : P.funcs[g]? = some fn) (hb : fn.body = some cd) {e : HookF} (he : HookOk P ng g e)
    (hc : ∀ (s p : ByteArray) (w : World), Calls P g #[.string s, .string p] w fun e w' => e = .returned (.bool (Lib.hasPrefix s.data.toList p.data.toList)) ∧ w' = w) : HookOk P ng g (hkHasPrefix e) := by
  intro args h nx K Kp hk ρ w vs s hg hv
  obtain ⟨x, r, rfl, hk2⟩ := arg0_spec hk
  obtain ⟨y, r', rfl, hk3⟩ := arg0_spec hk2
  cases e1 : isS y with
  | false => rw [e1] at hk3; exact he _ h nx K Kp hk3 ρ w vs s hg hv
  | true =>
  rw [e1] at hk3
  have hv0 := hv
  simp only [VRs] at hv
  obtain ⟨v1, l1, rfl, h1, v2, l2, rfl, h2, h3⟩ := hv
  cases r' <;> first | (simp only [VRs] at h3; done) | exact Bool.noConfusion hk3 | skip
  simp only [VRs] at h3
  subst h3
  obtain ⟨c, hk4, hcr⟩ := ropK_spec (show ropK x (fun c => vS y fun p => prefW c p (fun b => K (.b b) h nx) (e (.cons x (.cons y .nil)) h nx K)) = true from hk3)
  obtain ⟨b, rfl, hrr⟩ := hcr ρ _ h1
  obtain ⟨p, rfl, hk5⟩ := vS_spec (v := y) hk4
  simp only [VR] at h2
  obtain ⟨rfl, hp⟩ := h2
  rcases prefW_spec hk5 hp with hk6 | ⟨q, hk6, hq⟩
  · exact he _ h nx K Kp hk6 ρ w _ s hg hv0
  · refine upon_of_calls hn hf hb (y := .b q) ?_ s hk6
    refine (hc b (bs p) w).mono fun e w' ⟨h4, h5⟩ => ⟨_, h4, ?_, ?_⟩
    · have hcl : (bs p).data.toList = p.map UInt8.ofNat := by simp [bs]
      rw [hcl, hq ρ _ hrr]
      simp only [VR]
    · subst h5
      exact ⟨Nat.le_refl _, rfl, rfl, rfl, fun _ _ => rfl⟩
end
end Go.Mx
