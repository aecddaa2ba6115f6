/-
  A part of a small executor of the model, proved sound (17 of 28). No condition.
-/
import Derived.Test.YthocoonhoilmdaaGreatDoorXMx36
import Derived.Lib.Bytealg
import Derived.Lib.MakeNoZero
namespace Go.Mx
open Instr Builtin
noncomputable section
variable {P : Program} {ρ : Ren} {h : T O} {nx : Nat} {w : World} {ng : Nat}
abbrev HookF := V → T O → Nat → KV → Bool
def HookOk (P : Program) (ng g : Nat) (f : HookF) : Prop := ∀ args h nx K Kp, f args h nx K = true → ∀ ρ w vs, St ρ h nx w → RG ng ρ → VRs ρ args vs → UponOK P ((callFunc g ⟨vs⟩).run P w) ρ h w K Kp
def hkL (l : List (Nat × HookF)) (g : Nat) : Option HookF := List.rec (motive := fun _ => Option HookF) none (fun p _ ih => Bool.rec ih (some p.2) (Nat.beq p.1 g)) l
theorem hkL_ok : ∀ {l : List (Nat × HookF)}, (∀ p ∈ l, HookOk P ng p.1 p.2) → HKok P ng (hkL l) := by
  intro l
  induction l with
  | nil => intro _ g f hf; cases hf
  | cons p l ih =>
    intro hl g f hf
    have hf : (Bool.rec (hkL l g) (some p.2) (Nat.beq p.1 g) : Option HookF) = some f := hf
    cases e : Nat.beq p.1 g with
    | true =>
      rw [e] at hf
      cases hf
      have e := beq_spec e
      subst e
      exact hl p (by simp)
    | false =>
      rw [e] at hf
      exact ih (fun q hq => hl q (List.mem_cons_of_mem _ hq)) g f hf
theorem upon_extern {g : Nat} {fn : Func} {e : Array Value → Sem Value} (hf : P.funcs[g]? = some fn) (hname : (fn.name == "runtime.NumGoroutine") = false) (hb : fn.body.isNone = true) (hn : Extern.findNext fn = none) (he : Extern.find fn = some e)
    {vs : List Value} {v : Value} {w' : World} (hr : (e ⟨vs⟩).run P w = .ok v w') : (callFunc g ⟨vs⟩).run P w = .ok (.value v) w' := by
  rw [run_callFunc_extern hf hname hb hn he, hr]
  rfl
def hkNoEscape : HookF := fun args h nx K => arg0 args fun x r => chain (K x h nx) (fun _ _ _ => false) r
theorem hkNoEscape_ok {g : Nat} {fn : Func} (hf : P.funcs[g]? = some fn) (hname : (fn.name == "runtime.NumGoroutine") = false) (hb : fn.body.isNone = true) (hn : Extern.findNext fn = none) (he : Extern.find fn = some Extern.AbiNoEscape.same) : HookOk P ng g hkNoEscape := by
  intro args h nx K Kp hk ρ w vs s _ hv
  obtain ⟨x, r, rfl, hk2⟩ := arg0_spec (show arg0 args (fun x r => chain (K x h nx) (fun _ _ _ => false) r) = true from hk)
  simp only [VRs] at hv
  obtain ⟨v1, l1, rfl, h1, h2⟩ := hv
  cases r <;> first | (simp only [VRs] at h2; done) | exact Bool.noConfusion hk2 | skip
  simp only [VRs] at h2
  subst h2
  exact UponOK.val (upon_extern hf hname hb hn he (Lib.run_noEscape w v1)) h1 s (Ext.refl _ _ _) hk2
def idxK (c : Nat) (l : List Nat) : Nat → (Int → Bool) → Bool := List.rec (motive := fun _ => Nat → (Int → Bool) → Bool) (fun _ k => k (Int.negSucc 0)) (fun x _ ih i k => Bool.rec (ih (Nat.succ i) k) (k (Int.ofNat i)) (Nat.beq x c)) l
def cntK (c : Nat) (l : List Nat) : Nat → (Nat → Bool) → Bool := List.rec (motive := fun _ => Nat → (Nat → Bool) → Bool) (fun n k => k n) (fun x _ ih n k => Bool.rec (ih n k) (ih (Nat.succ n) k) (Nat.beq x c)) l
def textByte (args : V) (k : List Nat → Nat → Bool) : Bool := arg0 args fun x r => arg0 r fun y r' => chain (vS x fun l => vI y fun kd n => ite1 (keq kd .u8) <| Int.rec (motive := fun _ => Bool) (fun c => ite1 (Nat.blt c 256) <| k l c) (fun _ => false) n) (fun _ _ _ => false) r'
def hkIndexByte : HookF := fun args h nx K => textByte args fun l c => idxK c l 0 fun n => K (.i .i64 n) h nx
def hkCount : HookF := fun args h nx K => textByte args fun l c => cntK c l 0 fun n => K (.i .i64 (Int.ofNat n)) h nx
theorem textByte_spec {args : V} {k : List Nat → Nat → Bool} {vs : List Value} (hk : textByte args k = true) (hv : VRs ρ args vs) :
    ∃ l c, k l c = true ∧ c < 256 ∧ (∀ n ∈ l, n < 256) ∧ vs = [.string (bs l), .int .u8 (c : Int)] := by
  obtain ⟨x, r, rfl, hk2⟩ := arg0_spec hk
  obtain ⟨y, r', rfl, hk3⟩ := arg0_spec hk2
  simp only [VRs] at hv
  obtain ⟨v1, l1, rfl, h1, v2, l2, rfl, h2, h3⟩ := hv
  cases r' <;> first | (simp only [VRs] at h3; done) | exact Bool.noConfusion hk3 | skip
  simp only [VRs] at h3
  subst h3
  obtain ⟨l, rfl, hk4⟩ := vS_spec (show vS x (fun l => vI y fun kd n => ite1 (keq kd .u8) <| Int.rec (motive := fun _ => Bool) (fun c => ite1 (Nat.blt c 256) <| k l c) (fun _ => false) n) = true from hk3)
  obtain ⟨kd, n, rfl, hk5⟩ := vI_spec (v := y) hk4
  obtain ⟨e, hk6⟩ := ite1_spec hk5
  have e := keq_eq e
  subst e
  cases n with
  | negSucc n => exact Bool.noConfusion hk6
  | ofNat c =>
    obtain ⟨e2, hk7⟩ := ite1_spec (show ite1 (Nat.blt c 256) (k l c) = true from hk6)
    simp only [VR] at h1 h2
    obtain ⟨rfl, hl⟩ := h1
    subst h2
    exact ⟨l, c, hk7, Nat.blt_eq.mp e2, hl, rfl⟩
theorem u8_beq {x c : Nat} (hx : x < 256) (hc : c < 256) : (UInt8.ofNat x == UInt8.ofNat c) = Nat.beq x c := by
  rw [Bool.eq_iff_iff]
  constructor
  · intro e
    have := congrArg UInt8.toNat (eq_of_beq e)
    simp [UInt8.toNat_ofNat', Nat.mod_eq_of_lt hx, Nat.mod_eq_of_lt hc] at this
    exact nbeq_true this
  · intro e; rw [Nat.eq_of_beq_eq_true e]; simp
theorem cntK_eq {c : Nat} (hc : c < 256) : ∀ {l : List Nat} (n : Nat) (k : Nat → Bool), (∀ x ∈ l, x < 256) → cntK c l n k = k (n + (l.map UInt8.ofNat).count (UInt8.ofNat c)) := by
  intro l
  induction l with
  | nil => intro n k _; rfl
  | cons x l ih =>
    intro n k hl
    have e : cntK c (x :: l) n k = (Bool.rec (cntK c l n k) (cntK c l (Nat.succ n) k) (Nat.beq x c) : Bool) := rfl
    have hx := hl x (by simp)
    have hl' : ∀ y ∈ l, y < 256 := fun y hy => hl y (List.mem_cons_of_mem _ hy)
    rw [e, List.map_cons, List.count_cons, u8_beq hx hc]
    cases hb : Nat.beq x c with
    | true => show cntK c l (n + 1) k = _; rw [ih _ _ hl']; simp; congr 1; omega
    | false => show cntK c l n k = _; rw [ih _ _ hl']; simp
theorem hkCount_ok {g : Nat} {fn : Func} (hf : P.funcs[g]? = some fn) (hname : (fn.name == "runtime.NumGoroutine") = false) (hb : fn.body.isNone = true) (hn : Extern.findNext fn = none) (he : Extern.find fn = some Extern.BytealgCount.count) : HookOk P ng g hkCount := by
  intro args h nx K Kp hk ρ w vs s _ hv
  obtain ⟨l, c, hk2, hc, hl, rfl⟩ := textByte_spec hk hv
  rw [cntK_eq hc _ _ hl, Nat.zero_add] at hk2
  have hr := Lib.run_countString (P := P) (bs l) (c : Int) w
  have e : Lib.countByte (bs l).data.toList ((c : Int).toNat.toUInt8) = (l.map UInt8.ofNat).count (UInt8.ofNat c) := by simp [Lib.countByte, bs]
  rw [e] at hr
  exact UponOK.val (upon_extern hf hname hb hn he hr) (VRi _ _ _) s (Ext.refl _ _ _) hk2
theorem idxK_spec {c : Nat} (hc : c < 256) : ∀ {l : List Nat} (i : Nat) (k : Int → Bool), (∀ x ∈ l, x < 256) → idxK c l i k = k (let r := Lib.indexByte (l.map UInt8.ofNat) (UInt8.ofNat c); if r < 0 then -1 else (i : Int) + r) := by
  intro l
  induction l with
  | nil => intro i k _; rfl
  | cons x l ih =>
    intro i k hl
    have e : idxK c (x :: l) i k = (Bool.rec (idxK c l (Nat.succ i) k) (k (Int.ofNat i)) (Nat.beq x c) : Bool) := rfl
    have hx := hl x (by simp)
    have hl' : ∀ y ∈ l, y < 256 := fun y hy => hl y (List.mem_cons_of_mem _ hy)
    rw [e]
    have hge := Lib.indexByte_ge (l.map UInt8.ofNat) (UInt8.ofNat c)
    have ei : Lib.indexByte ((x :: l).map UInt8.ofNat) (UInt8.ofNat c) = if Nat.beq x c = true then 0 else if Lib.indexByte (l.map UInt8.ofNat) (UInt8.ofNat c) == -1 then -1 else Lib.indexByte (l.map UInt8.ofNat) (UInt8.ofNat c) + 1 := by
      rw [List.map_cons]
      show (if UInt8.ofNat x == UInt8.ofNat c then (0 : Int) else _) = _
      rw [u8_beq hx hc]
    rw [ei]
    cases hb : Nat.beq x c with
    | true => show k (Int.ofNat i) = _; simp
    | false =>
      show idxK c l (i + 1) k = _
      rw [ih _ _ hl']
      congr 1
      generalize Lib.indexByte (l.map UInt8.ofNat) (UInt8.ofNat c) = q at hge
      by_cases hq : q = -1
      · subst hq; simp
      · have h1 : ¬ q < 0 := by omega
        have h2 : ¬ q + 1 < 0 := by omega
        simp [hq, h1, h2]
        omega
theorem hkIndexByte_ok {g : Nat} {fn : Func} (hf : P.funcs[g]? = some fn) (hname : (fn.name == "runtime.NumGoroutine") = false) (hb : fn.body.isNone = true) (hn : Extern.findNext fn = none) (he : Extern.find fn = some Extern.BytealgIndexByte.indexByte) : HookOk P ng g hkIndexByte := by
  intro args h nx K Kp hk ρ w vs s _ hv
  obtain ⟨l, c, hk2, hc, hl, rfl⟩ := textByte_spec hk hv
  rw [idxK_spec hc _ _ hl] at hk2
  have hr := Lib.run_indexByteString (P := P) (bs l) (c : Int) w
  have e : Lib.indexByte (bs l).data.toList ((c : Int).toNat.toUInt8) = Lib.indexByte (l.map UInt8.ofNat) (UInt8.ofNat c) := by simp [bs]
  rw [e] at hr
  have hge := Lib.indexByte_ge (l.map UInt8.ofNat) (UInt8.ofNat c)
  refine UponOK.val (upon_extern hf hname hb hn he hr) ?_ s (Ext.refl _ _ _) hk2
  simp only [VR]
  congr 1
  split <;> omega
def unkK (n : Nat) : (V → Bool) → Bool := Nat.rec (motive := fun _ => (V → Bool) → Bool) (fun k => k .nil) (fun _ ih k => ih fun c => k (.cons .nil c)) n
theorem unkK_spec : ∀ {n : Nat} {k : V → Bool}, unkK n k = true → ∃ c, k c = true ∧ ∀ ρ (l : List Value), n ≤ l.length → CR ρ c l := by
  intro n
  induction n with
  | zero => intro k hk; exact ⟨.nil, hk, fun ρ l _ => by simp [CR]⟩
  | succ n ih =>
    intro k hk
    obtain ⟨c, h1, h2⟩ := ih (k := fun c => k (.cons .nil c)) hk
    refine ⟨_, h1, fun ρ l hl => ?_⟩
    cases l with
    | nil => simp at hl
    | cons y ys =>
      simp only [CR]
      exact ⟨y, ys, rfl, by simp only [VR], h2 ρ ys (by simpa using hl)⟩
def hkMakeNoZero (e : Nat) : HookF := fun args h nx K => arg0 args fun x r => chain (vI x fun kd n => ite1 (keq kd .i64) <| Int.rec (motive := fun _ => Bool) (fun n => ite1 (Nat.ble n 281474976710656) <| unkK n fun c => newK c e h nx fun id h' nx' => K (.sl id 0 n 1) h' nx') (fun _ => false) n) (fun _ _ _ => false) r
theorem hkMakeNoZero_ok {g : Nat} {fn : Func} {ps : Array TypeId} {t e : TypeId} (hf : P.funcs[g]? = some fn) (hname : (fn.name == "runtime.NumGoroutine") = false) (hb : fn.body.isNone = true) (hn : Extern.findNext fn = none)
    (he : Extern.find fn = some (Extern.BytealgMakeNoZero.makeNoZero ps #[t])) (ht : P.underlying t = some (.slice e)) : HookOk P ng g (hkMakeNoZero e) := by
  intro args h nx K Kp hk ρ w vs s _ hv
  obtain ⟨x, r, rfl, hk2⟩ := arg0_spec (show arg0 args (fun x r => chain (vI x fun kd n => ite1 (keq kd .i64) <| Int.rec (motive := fun _ => Bool) (fun n => ite1 (Nat.ble n 281474976710656) <| unkK n fun c => newK c e h nx fun id h' nx' => K (.sl id 0 n 1) h' nx') (fun _ => false) n) (fun _ _ _ => false) r) = true from hk)
  simp only [VRs] at hv
  obtain ⟨v1, l1, rfl, h1, h2⟩ := hv
  cases r <;> first | (simp only [VRs] at h2; done) | exact Bool.noConfusion hk2 | skip
  simp only [VRs] at h2
  subst h2
  obtain ⟨kd, n, rfl, hk3⟩ := vI_spec (v := x) hk2
  obtain ⟨e1, hk4⟩ := ite1_spec hk3
  have e1 := keq_eq e1
  subst e1
  cases n with
  | negSucc n => exact Bool.noConfusion hk4
  | ofNat n =>
    obtain ⟨e2, hk5⟩ := ite1_spec (show ite1 (Nat.ble n 281474976710656) (unkK n fun c => newK c e h nx fun id h' nx' => K (.sl id 0 n 1) h' nx') = true from hk4)
    have e2 := Nat.le_of_ble_eq_true e2
    simp only [VR] at h1
    subst h1
    obtain ⟨cs, hr, hle, _⟩ := Lib.run_makeNoZero (P := P) w ps t e ht n e2
    obtain ⟨c, hk6, hrep⟩ := unkK_spec hk5
    have hcc : CR ρ c cs.toList := hrep ρ _ (by simpa using hle)
    obtain ⟨h', w', g1, rfl, g3, g4⟩ := newK_sound (w := w.drew.drew) (K := fun id h' nx' => K (.sl id 0 n 1) h' nx') (vs := cs.toList) hk6 (s.heap rfl) hcc
    refine UponOK.val (upon_extern hf hname hb hn he hr) (x := .sl nx 0 n 1) ?_ g3 (Ext.trans (Ext.same (w' := w.drew.drew) rfl rfl rfl rfl) g4) g1
    exact VR_sl (upd_same _ _ _) hle (by simp) rfl
end
end Go.Mx
namespace Go.Mx
noncomputable section
variable {P : Program} {ρ : Ren} {h : T O} {nx : Nat} {w : World} {ng : Nat}
def tabO (c : V) (ty : Nat) : O := .c c ty false
def mkTb (τ : Nat → Nat) (l : List (Nat × V)) : T O → T O := List.rec (motive := fun _ => T O → T O) (fun t => t) (fun p _ ih t => ih (st O.none (tabO p.2 (τ p.1)) p.1 t)) l
def mkTK (τ : Nat → Nat) (l : List (Nat × V)) : T O → (T O → Bool) → Bool := List.rec (motive := fun _ => T O → (T O → Bool) → Bool) (fun t k => k t) (fun p _ ih t k => stK O.none (tabO p.2 (τ p.1)) p.1 t fun t' => ih t' k) l
theorem mkTK_eq (τ : Nat → Nat) : ∀ (l : List (Nat × V)) (t : T O) (k : T O → Bool), mkTK τ l t k = k (mkTb τ l t) := by
  intro l
  induction l with
  | nil => intro t k; rfl
  | cons p l ih =>
    intro t k
    show stK O.none (tabO p.2 (τ p.1)) p.1 t (fun t' => mkTK τ l t' k) = k (mkTb τ l (st O.none (tabO p.2 (τ p.1)) p.1 t))
    rw [stK_eq, ih]
theorem mkT_at (τ : Nat → Nat) : ∀ (l : List (Nat × V)) (t : T O) (i : Nat), (∃ p ∈ l, p.1 = i ∧ gt O.none i (mkTb τ l t) = tabO p.2 (τ i)) ∨ ((∀ p ∈ l, p.1 ≠ i) ∧ gt O.none i (mkTb τ l t) = gt O.none i t) := by
  intro l
  induction l with
  | nil => intro t i; exact .inr ⟨by simp, rfl⟩
  | cons p l ih =>
    intro t i
    rcases ih (st O.none (tabO p.2 (τ p.1)) p.1 t) i with ⟨q, hq, h1, h2⟩ | ⟨h1, h2⟩
    · exact .inl ⟨q, List.mem_cons_of_mem _ hq, h1, h2⟩
    · by_cases e : p.1 = i
      · refine .inl ⟨p, List.mem_cons_self .., e, ?_⟩
        show gt O.none i (mkTb τ l (st O.none (tabO p.2 (τ p.1)) p.1 t)) = _
        rw [h2, e, gt_st_same]
      · refine .inr ⟨fun q hq => ?_, ?_⟩
        · rcases List.mem_cons.1 hq with rfl | hq
          · exact e
          · exact h1 q hq
        · show gt O.none i (mkTb τ l (st O.none (tabO p.2 (τ p.1)) p.1 t)) = _
          rw [h2, gt_st_ne _ _ e]
def hasT (l : List (Nat × V)) (h : T O) (k : Bool) : Bool := List.rec (motive := fun _ => Bool) k (fun p _ ih => oC (gt O.none p.1 h) fun c _ _ => ite1 (sameV c p.2) ih) l
theorem hasT_spec : ∀ {l : List (Nat × V)} {k : Bool}, hasT l h k = true → k = true ∧ ∀ p ∈ l, ∃ ty wr, asC (gt O.none p.1 h) = .c p.2 ty wr := by
  intro l
  induction l with
  | nil => intro k hk; exact ⟨hk, by simp⟩
  | cons p l ih =>
    intro k hk
    obtain ⟨c, ty, wr, ho, hk2⟩ := oC_spec (show oC (gt O.none p.1 h) (fun c _ _ => ite1 (sameV c p.2) (hasT l h k)) = true from hk)
    obtain ⟨e1, hk3⟩ := ite1_spec hk2
    have e1 := sameV_eq e1
    subst e1
    obtain ⟨h1, h2⟩ := ih hk3
    refine ⟨h1, fun q hq => ?_⟩
    rcases List.mem_cons.1 hq with rfl | hq
    · exact ⟨ty, wr, ho⟩
    · exact h2 q hq
def plainV (x : V) (k : Bool) : Bool := V.rec (motive := fun _ => Bool) false (fun _ _ _ _ => false) (fun _ => k) (fun _ _ => k) (fun _ => k) (fun _ _ => false) false (fun _ _ _ _ => false) false false false (fun _ => false) false (fun _ _ _ => false) false (fun _ _ _ => false) false (fun _ _ => false) (fun _ _ => false) (fun _ _ _ _ => false) (fun _ _ => false) (fun _ _ _ _ _ => false) (fun _ _ _ _ _ _ => false) x
def plainC (l : V) : Bool := chain true (fun x _ ih => plainV x ih) l
theorem plain_CR {ρ' : Ren} : ∀ {l : V} {vs : List Value}, plainC l = true → CR ρ l vs → CR ρ' l vs := by
  intro l
  induction l with
  | nil => intro vs _ _; simp [CR]
  | cons x l _ ih =>
    intro vs h hv
    have h' : plainV x (plainC l) = true := h
    simp only [CR] at hv ⊢
    obtain ⟨y, ys, rfl, h1, h2⟩ := hv
    cases x <;> first | exact Bool.noConfusion h' | skip
    all_goals exact ⟨y, ys, rfl, by simpa only [VR] using h1, ih h' h2⟩
  | _ => intro vs _ hv; simp [CR] at hv
def memo (l : List (Nat × V)) (x : Bool) : HookF := fun args h nx K => chain (hasT l h (K (.b x) h nx)) (fun _ _ _ => false) args
def inT (ng : Nat) (l : List (Nat × V)) : Bool := List.rec (motive := fun _ => Bool) true (fun p _ ih => ite1 (Nat.blt p.1 ng) <| ite1 (plainC p.2) ih) l
theorem inT_spec : ∀ {l : List (Nat × V)}, inT ng l = true → ∀ p ∈ l, p.1 < ng ∧ plainC p.2 = true := by
  intro l
  induction l with
  | nil => intro _; simp
  | cons p l ih =>
    intro h q hq
    obtain ⟨h1, h2⟩ := ite1_spec (show ite1 (Nat.blt p.1 ng) (ite1 (plainC p.2) (inT ng l)) = true from h)
    obtain ⟨h3, h4⟩ := ite1_spec h2
    rcases List.mem_cons.1 hq with rfl | hq
    · exact ⟨Nat.blt_eq.mp h1, h3⟩
    · exact ih h4 q hq
def isB (x : Bool) (v : V) : Bool := vB v fun b => bs_eq b x
theorem memo_ok (hm : P.follows .mixedOrders = true) (hn : NameOK P) {hk : Nat → Option HookF} (hh : HKok P ng hk) {n g : Nat} {l : List (Nat × V)} {x : Bool} (hl : inT ng l = true)
    (hrun : ∀ τ, mkTK τ l .leaf (fun h0 => run P ng hk n g .nil h0 ng (fun v _ _ => isB x v) (fun _ _ _ => false)) = true) : HookOk P ng g (memo l x) := by
  intro args h nx K Kp hk1 ρ w vs s hg hv
  have hvs : args = .nil ∧ vs = [] ∧ hasT l h (K (.b x) h nx) = true := by
    cases args <;> first | (simp only [VRs] at hv; done) | exact Bool.noConfusion hk1 | skip
    exact ⟨rfl, by simpa only [VRs] using hv, hk1⟩
  obtain ⟨rfl, rfl, hk2⟩ := hvs
  obtain ⟨hkk, htab⟩ := hasT_spec hk2
  let τ : Nat → Nat := fun i => match asC (gt O.none i h) with
    | .c _ ty _ => ty
    | _ => 0
  have hrun := hrun τ
  rw [mkTK_eq] at hrun
  let ρr : Ren := fun i => if i < ng then ρ i else none
  have hin := inT_spec hl
  have at0 := mkT_at τ l (.leaf : T O)
  have live0 : ∀ i, (gt O.none i (mkTb τ l .leaf)).live → ∃ p ∈ l, p.1 = i ∧ gt O.none i (mkTb τ l .leaf) = tabO p.2 (τ i) := fun i hi => by
    rcases at0 i with h1 | ⟨_, h2⟩
    · exact h1
    · rw [h2, gt_leaf] at hi; exact hi.elim
  have nowr : ∀ i, ¬ (gt O.none i (mkTb τ l .leaf)).wr := fun i hi => by
    obtain ⟨p, _, _, e⟩ := live0 i (O.live_of_wr hi)
    rw [e] at hi
    exact Bool.noConfusion (show false = true from hi)
  have sr : St ρr (mkTb τ l .leaf) ng w := by
    refine ⟨fun id L hi hL => ?_, fun i j L M hi => (nowr i hi).elim, fun i hi => ?_, fun i hi hl' => ?_⟩
    · obtain ⟨p, hp, rfl, e⟩ := live0 id hi
      have hlt := (hin p hp).1
      have hL' : ρ p.1 = some L := by simpa [ρr, hlt] using hL
      obtain ⟨ty, wr, ho⟩ := htab p hp
      obtain ⟨o, h1, h2⟩ := s.relC ho hL'
      refine ⟨o, h1, ?_⟩
      have et : τ p.1 = ty := by simp only [τ, ho]
      rw [e, et]
      obtain ⟨arr, fz, q1, q2, q3, q4, q5⟩ := h2
      exact ⟨arr, fz, q1, q2, (fun hf => by cases hf), q4, plain_CR (hin p hp).2 q5⟩
    · have : ¬ i < ng := by omega
      simp [ρr, this]
    · obtain ⟨p, hp, rfl, e⟩ := live0 i hl'
      have := (hin p hp).1
      omega
  have gr : RG ng ρr := fun i hi => by
    obtain ⟨L, h1, h2, h3⟩ := hg i hi
    exact ⟨L, by simpa [ρr, hi] using h1, h2, h3⟩
  have up := run_sound hm hn hh n g .nil (mkTb τ l .leaf) ng (fun v _ _ => isB x v) (fun _ _ _ => false) hrun ρr w [] sr gr (by simp [VRs])
  intro o a next Q h1 h2
  refine up o a next Q (fun ρ' y h' nx' v w' hv' _ hx hky => ?_) (fun ρ' y h' nx' v w' _ _ _ hky => Bool.noConfusion hky)
  obtain ⟨b, rfl, hb⟩ := vB_spec (show vB y (fun b => bs_eq b x) = true from hky)
  have hbx : b = x := by cases b <;> cases x <;> first | rfl | exact Bool.noConfusion hb
  subst hbx
  simp only [VR] at hv'
  subst hv'
  have kept : ∀ b, b < w.heap.size → w'.heap[b]? = w.heap[b]? := fun b hb => (hx.kept b hb fun id L hw _ => (nowr id hw).elim).1
  have keptL : ∀ {L : Loc} {o : Obj}, w.heap[L.blk]? = some o → w'.heap[L.blk]? = some o := fun {L o} ho => by
    rw [kept L.blk (Array.getElem?_eq_some_iff.1 ho).1]; exact ho
  refine h1 ρ (.b b) h nx (.bool b) w' (by simp only [VR]) ⟨fun id L hi hL => ?_, s.inj, s.fresh, s.dead⟩ ⟨Ren.le.refl _, hx.size, hx.os, hx.tape, hx.output, fun b hb hk => ⟨kept b hb, hk⟩, fun _ _ k => ⟨k, rfl⟩⟩ hkk
  obtain ⟨o, g1, g2⟩ := s.rel id L hi hL
  exact ⟨o, keptL g1, g2⟩
end
end Go.Mx
namespace Go.Mx
noncomputable section
variable {P : Program} {ρ : Ren} {h : T O} {nx : Nat} {w : World} {ng : Nat}
structure Stays (w w' : World) : Prop where
  size : w.heap.size ≤ w'.heap.size
  os : w'.os = w.os
  tape : w'.tape = w.tape
  output : w'.output = w.output
  heap : ∀ b, b < w.heap.size → w'.heap[b]? = w.heap[b]?
def HasTables (l : List (Nat × V)) (W : World) : Prop := ∀ p ∈ l, ∃ arr ty, W.heap[p.1]? = some (.cells arr ty (0, 0)) ∧ CR (fun _ => none) p.2 arr.toList
theorem top_run (hm : P.follows .mixedOrders = true) (hn : NameOK P) {hk : Nat → Option HookF} (hh : HKok P ng hk) {n g : Nat} {fn : Func} {c : Code} (hf : P.funcs[g]? = some fn) (hb : fn.body = some c)
    {l : List (Nat × V)} {x : Bool} {args : V} {vs : List Value} (hl : inT ng l = true) (hv : VRs (fun _ => none) args vs)
    (hrun : ∀ τ, mkTK τ l .leaf (fun h0 => run P ng hk n g args h0 ng (fun v _ _ => isB x v) (fun _ _ _ => false)) = true) {W : World} (tab : HasTables l W) :
    Calls P g ⟨vs⟩ W fun e W' => e = .returned (.bool x) ∧ Stays W W' := by
  let τ : Nat → Nat := fun i => match W.heap[i]? with
    | some (.cells _ ty _) => ty
    | _ => 0
  let sz : Nat → Nat := fun i => match W.heap[i]? with
    | some (.cells arr _ _) => arr.size
    | _ => 0
  have hrun := hrun τ
  rw [mkTK_eq] at hrun
  let ρr : Ren := fun i => if i < ng then some ⟨i, 0, sz i⟩ else none
  have hin := inT_spec hl
  have at0 := mkT_at τ l (.leaf : T O)
  have live0 : ∀ i, (gt O.none i (mkTb τ l .leaf)).live → ∃ p ∈ l, p.1 = i ∧ gt O.none i (mkTb τ l .leaf) = tabO p.2 (τ i) := fun i hi => by
    rcases at0 i with h1 | ⟨_, h2⟩
    · exact h1
    · rw [h2, gt_leaf] at hi; exact hi.elim
  have nowr : ∀ i, ¬ (gt O.none i (mkTb τ l .leaf)).wr := fun i hi => by
    obtain ⟨p, _, _, e⟩ := live0 i (O.live_of_wr hi)
    rw [e] at hi
    exact Bool.noConfusion (show false = true from hi)
  have sr : St ρr (mkTb τ l .leaf) ng W := by
    refine ⟨fun id L hi hL => ?_, fun i j L M hi => (nowr i hi).elim, fun i hi => ?_, fun i hi hl' => ?_⟩
    · obtain ⟨p, hp, rfl, e⟩ := live0 id hi
      have hlt := (hin p hp).1
      have hL' : L = ⟨p.1, 0, sz p.1⟩ := by simpa [ρr, hlt, eq_comm] using hL
      subst hL'
      obtain ⟨arr, ty, h1, h2⟩ := tab p hp
      refine ⟨_, h1, ?_⟩
      have et : τ p.1 = ty := by simp only [τ, h1]
      have es : sz p.1 = arr.size := by simp only [sz, h1]
      rw [e, et]
      exact ⟨arr, (0, 0), rfl, es.symm, by intro q _; simp, Nat.zero_le _, by simpa using plain_CR (hin p hp).2 h2⟩
    · have : ¬ i < ng := by omega
      simp [ρr, this]
    · obtain ⟨p, hp, rfl, e⟩ := live0 i hl'
      have := (hin p hp).1
      omega
  have gr : RG ng ρr := fun i hi => ⟨⟨i, 0, sz i⟩, by simp [ρr, hi], rfl, rfl⟩
  have hv' : VRs ρr args vs := hv.mono (fun i L e => by cases e)
  have up := run_sound hm hn hh n g args (mkTb τ l .leaf) ng (fun v _ _ => isB x v) (fun _ _ _ => false) hrun ρr W vs sr gr hv'
  let o : Oper := { (default : Oper) with dst := some 0 }
  let a : Act := { tmps := #[undef], defers := [] }
  have h := up o a (fun a' W' => a'.tmps[0]? = some (.bool x) ∧ Stays W W') (fun _ _ _ => False) (fun ρ' y h' nx' v w' hv' _ hx hky => ?_) (fun ρ' y h' nx' v w' _ _ _ hky => Bool.noConfusion hky)
  · rw [callFunc_enter hn hf hb, Oper.upon_enter] at h
    refine h.mono fun e W' hr => ?_
    cases e with
    | returned v =>
      obtain ⟨h1, h2⟩ := hr
      have : v = .bool x := by simpa [Act.put, o, a] using h1
      exact ⟨by rw [this], h2⟩
    | panicked c => exact hr.elim
    | outgrown => obtain ⟨_, _, hq⟩ := hr; exact hq.elim
  · obtain ⟨b, rfl, hb⟩ := vB_spec (show vB y (fun b => bs_eq b x) = true from hky)
    have hbx : b = x := by cases b <;> cases x <;> first | rfl | exact Bool.noConfusion hb
    subst hbx
    simp only [VR] at hv'
    subst hv'
    exact ⟨by simp [Act.put, o, a], hx.size, hx.os, hx.tape, hx.output, fun b hb => (hx.kept b hb fun id L hw _ => (nowr id hw).elim).1⟩
end
end Go.Mx
namespace Go.Mx
noncomputable section
variable {P : Program}
theorem top_run_sl (hm : P.follows .mixedOrders = true) (hn : NameOK P) {hk : Nat → Option HookF} {ng : Nat} (hh : HKok P ng hk) {n g : Nat} {fn : Func} {cd : Code} (hf : P.funcs[g]? = some fn) (hb : fn.body = some cd)
    {l : List (Nat × V)} {x : Bool} {args c : V} {vs : List Value} (hl : inT ng l = true) (hc : plainC c = true) {W : World} {b off ty : Nat} {arr : Array Value} {fz : Nat × Nat} (hblk : W.heap[b]? = some (.cells arr ty fz)) (hoff : off ≤ arr.size)
    (hcr : CR (fun _ => none) c (arr.toList.drop off)) (_hdis : ∀ p ∈ l, p.1 ≠ b) (hv : VRs (fun i => if i = ng then some ⟨b, off, arr.size⟩ else none) args vs)
    (hrun : ∀ (τ : Nat → Nat) (tb : Nat), mkTK τ l (st O.none (.c c tb false) ng .leaf) (fun h0 => run P ng hk n g args h0 (ng + 1) (fun v _ _ => isB x v) (fun _ _ _ => false)) = true) (tab : HasTables l W) :
    Calls P g ⟨vs⟩ W fun e W' => e = .returned (.bool x) ∧ Stays W W' := by
  let τ : Nat → Nat := fun i => match W.heap[i]? with
    | some (.cells _ ty _) => ty
    | _ => 0
  let sz : Nat → Nat := fun i => match W.heap[i]? with
    | some (.cells arr _ _) => arr.size
    | _ => 0
  have hrun := hrun τ ty
  rw [mkTK_eq] at hrun
  let ρr : Ren := fun i => if i < ng then some ⟨i, 0, sz i⟩ else if i = ng then some ⟨b, off, arr.size⟩ else none
  have hin := inT_spec hl
  have at0 := mkT_at τ l (st O.none (.c c ty false) ng (.leaf : T O))
  have live0 : ∀ i, (gt O.none i (mkTb τ l (st O.none (.c c ty false) ng .leaf))).live → (∃ p ∈ l, p.1 = i ∧ gt O.none i (mkTb τ l (st O.none (.c c ty false) ng .leaf)) = tabO p.2 (τ i)) ∨ (i = ng ∧ gt O.none i (mkTb τ l (st O.none (.c c ty false) ng .leaf)) = .c c ty false) := fun i hi => by
    rcases at0 i with h1 | ⟨_, h2⟩
    · exact .inl h1
    · by_cases e : i = ng
      · subst e
        rw [gt_st_same] at h2
        exact .inr ⟨rfl, h2⟩
      · rw [gt_st_ne _ _ (fun h => e h.symm), gt_leaf] at h2
        rw [h2] at hi; exact hi.elim
  have nowr : ∀ i, ¬ (gt O.none i (mkTb τ l (st O.none (.c c ty false) ng .leaf))).wr := fun i hi => by
    rcases live0 i (O.live_of_wr hi) with ⟨p, _, _, e⟩ | ⟨_, e⟩
    · rw [e] at hi
      exact Bool.noConfusion (show false = true from hi)
    · rw [e] at hi
      exact Bool.noConfusion (show false = true from hi)
  have sr : St ρr (mkTb τ l (st O.none (.c c ty false) ng .leaf)) (ng + 1) W := by
    refine ⟨fun id L hi hL => ?_, fun i j L M hi => (nowr i hi).elim, fun i hi => ?_, fun i hi hl' => ?_⟩
    · rcases live0 id hi with ⟨p, hp, rfl, e⟩ | ⟨rfl, e⟩
      · have hlt := (hin p hp).1
        have hL' : L = ⟨p.1, 0, sz p.1⟩ := by simpa [ρr, hlt, eq_comm] using hL
        subst hL'
        obtain ⟨ar, t', h1, h2⟩ := tab p hp
        refine ⟨_, h1, ?_⟩
        have et : τ p.1 = t' := by simp only [τ, h1]
        have es : sz p.1 = ar.size := by simp only [sz, h1]
        rw [e, et]
        exact ⟨ar, (0, 0), rfl, es.symm, (fun hf => by cases hf), Nat.zero_le _, by simpa using plain_CR (hin p hp).2 h2⟩
      · have hL' : L = ⟨b, off, arr.size⟩ := by simpa [ρr, eq_comm] using hL
        subst hL'
        refine ⟨_, hblk, ?_⟩
        rw [e]
        exact ⟨arr, fz, rfl, rfl, (fun hf => by cases hf), hoff, plain_CR hc hcr⟩
    · have h1 : ¬ i < ng := by omega
      have h2 : ¬ i = ng := by omega
      simp [ρr, h1, h2]
    · rcases live0 i hl' with ⟨p, hp, rfl, _⟩ | ⟨rfl, _⟩
      · have := (hin p hp).1
        omega
      · omega
  have gr : RG ng ρr := fun i hi => ⟨⟨i, 0, sz i⟩, by simp [ρr, hi], rfl, rfl⟩
  have hv' : VRs ρr args vs := hv.mono (fun i L e => by
    by_cases h : i = ng
    · subst h
      simpa [ρr] using e
    · simp [h] at e)
  have up := run_sound hm hn hh n g args (mkTb τ l (st O.none (.c c ty false) ng .leaf)) (ng + 1) (fun v _ _ => isB x v) (fun _ _ _ => false) hrun ρr W vs sr gr hv'
  let o : Oper := { (default : Oper) with dst := some 0 }
  let a : Act := { tmps := #[undef], defers := [] }
  have h := up o a (fun a' W' => a'.tmps[0]? = some (.bool x) ∧ Stays W W') (fun _ _ _ => False) (fun ρ' y h' nx' v w' hv' _ hx hky => ?_) (fun ρ' y h' nx' v w' _ _ _ hky => Bool.noConfusion hky)
  · rw [callFunc_enter hn hf hb, Oper.upon_enter] at h
    refine h.mono fun e W' hr => ?_
    cases e with
    | returned v =>
      obtain ⟨h1, h2⟩ := hr
      have : v = .bool x := by simpa [Act.put, o, a] using h1
      exact ⟨by rw [this], h2⟩
    | panicked c => exact hr.elim
    | outgrown => obtain ⟨_, _, hq⟩ := hr; exact hq.elim
  · obtain ⟨bb, rfl, hbb⟩ := vB_spec (show vB y (fun b => bs_eq b x) = true from hky)
    have hbx : bb = x := by cases bb <;> cases x <;> first | rfl | exact Bool.noConfusion hbb
    subst hbx
    simp only [VR] at hv'
    subst hv'
    exact ⟨by simp [Act.put, o, a], hx.size, hx.os, hx.tape, hx.output, fun b hb => (hx.kept b hb fun id L hw _ => (nowr id hw).elim).1⟩
end
end Go.Mx
