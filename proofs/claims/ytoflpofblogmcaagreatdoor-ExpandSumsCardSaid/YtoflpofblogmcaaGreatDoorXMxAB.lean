/-
  A part of a small executor of the model, proved sound (23 of 34). No condition.
-/
import Derived.Test.YtoflpofblogmcaaGreatDoorXMxX
import Derived.Test.YtoflpofblogmcaaGreatDoorXMxL
namespace Go.Mx
open Instr Builtin
noncomputable section
variable {P : Program} {ρ : Ren} {h : T O} {nx : Nat} {w : World} {ng : Nat}
def kindK (k : IntKind) : (IntKind → Bool) → Bool := IntKind.rec (motive := fun _ => (IntKind → Bool) → Bool) (fun c => c .i8) (fun c => c .i16) (fun c => c .i32) (fun c => c .i64) (fun c => c .u8) (fun c => c .u16) (fun c => c .u32) (fun c => c .u64) k
theorem kindK_eq (k : IntKind) (c : IntKind → Bool) : kindK k c = c k := by cases k <;> rfl
def nlK (l : List Nat) : (List Nat → Bool) → Bool := List.rec (motive := fun _ => (List Nat → Bool) → Bool) (fun k => k []) (fun x _ ih k => forceN x fun x => ih fun l => k (x :: l)) l
theorem nlK_eq : ∀ (l : List Nat) (k : List Nat → Bool), nlK l k = k l
  | [], _ => rfl
  | x :: l, k => by
    show forceN x (fun x => nlK l fun l => k (x :: l)) = _
    rw [forceN_eq, nlK_eq l]
def boolK (b : Bool) (k : Bool → Bool) : Bool := Bool.rec (k false) (k true) b
theorem boolK_eq (b : Bool) (k : Bool → Bool) : boolK b k = k b := by cases b <;> rfl
def nfV (x : V) : (V → Bool) → Bool := V.rec (motive := fun _ => (V → Bool) → Bool)
  (fun k => k .nil)
  (fun _ _ ihx ihl k => ihx fun x => ihl fun l => k (.cons x l))
  (fun b k => boolK b fun b => k (.b b))
  (fun kd n k => kindK kd fun kd => forceI n fun n => k (.i kd n))
  (fun l k => nlK l fun l => k (.s l))
  (fun id off k => forceN id fun id => forceN off fun off => k (.p id off))
  (fun k => k .pn)
  (fun id off len sz k => forceN id fun id => forceN off fun off => forceN len fun len => forceN sz fun sz => k (.sl id off len sz))
  (fun k => k .sn) (fun k => k .se) (fun k => k .s0)
  (fun id k => forceN id fun id => k (.m id))
  (fun k => k .mn)
  (fun g _ ih k => forceN g fun g => ih fun c => k (.f g c))
  (fun k => k .fn)
  (fun t _ ih k => forceN t fun t => ih fun x => k (.e t x))
  (fun k => k .en)
  (fun _ ih k => ih fun l => k (.a l))
  (fun _ ih k => ih fun l => k (.t l))
  (fun a kd lo hi k => forceN a fun a => kindK kd fun kd => forceN lo fun lo => forceN hi fun hi => k (.x a kd lo hi))
  (fun _ ih k => ih fun l => k (.w l))
  (fun _ a lo hi ih k => ih fun l => forceN a fun a => forceN lo fun lo => forceN hi fun hi => k (.y l a lo hi))
  (fun t _ a lo hi ih k => forceN t fun t => ih fun l => forceN a fun a => forceN lo fun lo => forceN hi fun hi => k (.o t l a lo hi)) x
theorem nfV_eq : ∀ (x : V) (k : V → Bool), nfV x k = k x := by
  intro x
  induction x with
  | cons x l ihx ihl => intro k; show nfV x (fun x => nfV l fun l => k (.cons x l)) = _; rw [ihx, ihl]
  | b b => intro k; show boolK b (fun b => k (.b b)) = _; rw [boolK_eq]
  | i kd n => intro k; show kindK kd (fun kd => forceI n fun n => k (.i kd n)) = _; rw [kindK_eq, forceI_eq]
  | s l => intro k; show nlK l (fun l => k (.s l)) = _; rw [nlK_eq]
  | p id off => intro k; show forceN id (fun id => forceN off fun off => k (.p id off)) = _; rw [forceN_eq, forceN_eq]
  | sl id off len sz => intro k; show forceN id (fun id => forceN off fun off => forceN len fun len => forceN sz fun sz => k (.sl id off len sz)) = _; rw [forceN_eq, forceN_eq, forceN_eq, forceN_eq]
  | m id => intro k; show forceN id (fun id => k (.m id)) = _; rw [forceN_eq]
  | f g c ih => intro k; show forceN g (fun g => nfV c fun c => k (.f g c)) = _; rw [forceN_eq, ih]
  | e t x ih => intro k; show forceN t (fun t => nfV x fun x => k (.e t x)) = _; rw [forceN_eq, ih]
  | a l ih => intro k; show nfV l (fun l => k (.a l)) = _; rw [ih]
  | t l ih => intro k; show nfV l (fun l => k (.t l)) = _; rw [ih]
  | x a kd lo hi => intro k; show forceN a (fun a => kindK kd fun kd => forceN lo fun lo => forceN hi fun hi => k (.x a kd lo hi)) = _; rw [forceN_eq, kindK_eq, forceN_eq, forceN_eq]
  | w l ih => intro k; show nfV l (fun l => k (.w l)) = _; rw [ih]
  | y l a lo hi ih => intro k; show nfV l (fun l => forceN a fun a => forceN lo fun lo => forceN hi fun hi => k (.y l a lo hi)) = _; rw [ih, forceN_eq, forceN_eq, forceN_eq]
  | o t l a lo hi ih => intro k; show forceN t (fun t => nfV l fun l => forceN a fun a => forceN lo fun lo => forceN hi fun hi => k (.o t l a lo hi)) = _; rw [forceN_eq, ih, forceN_eq, forceN_eq, forceN_eq]
  | _ => intro k; rfl
def nfE (x : E) : (E → Bool) → Bool := E.rec (motive := fun _ => (E → Bool) → Bool) (fun k => k .nil) (fun a b n _ ih k => nfV a fun a => nfV b fun b => forceN n fun n => ih fun r => k (.cons a b n r)) x
theorem nfE_eq : ∀ (x : E) (k : E → Bool), nfE x k = k x := by
  intro x
  induction x with
  | nil => intro k; rfl
  | cons a b n r ih => intro k; show nfV a (fun a => nfV b fun b => forceN n fun n => nfE r fun r => k (.cons a b n r)) = _; rw [nfV_eq, nfV_eq, forceN_eq, ih]
def nfO (x : O) : (O → Bool) → Bool := O.rec (motive := fun _ => (O → Bool) → Bool) (fun k => k .none)
  (fun l ty wr k => nfV l fun l => Bool.rec (k (.c l ty false)) (forceN ty fun ty => k (.c l ty true)) wr) (fun es c k => nfE es fun es => forceN c fun c => k (.mp es c)) (fun l p k => nlK l fun l => forceN p fun p => k (.si l p))
  (fun l ty k => nfV l fun l => forceN ty fun ty => k (.v l ty)) (fun m a l b k => nfV m fun m => forceN a fun a => nlK l fun l => forceN b fun b => k (.mi m a l b)) (fun l ty wr k => nfV l fun l => Bool.rec (k (.r l ty false)) (forceN ty fun ty => k (.r l ty true)) wr) x
theorem nfO_eq (x : O) (k : O → Bool) : nfO x k = k x := by
  cases x with
  | none => rfl
  | c l ty wr => show nfV l (fun l => Bool.rec (k (.c l ty false)) (forceN ty fun ty => k (.c l ty true)) wr) = _; rw [nfV_eq]; cases wr; rfl; exact forceN_eq _ _
  | mp es c => show nfE es (fun es => forceN c fun c => k (.mp es c)) = _; rw [nfE_eq, forceN_eq]
  | si l p => show nlK l (fun l => forceN p fun p => k (.si l p)) = _; rw [nlK_eq, forceN_eq]
  | v l ty => show nfV l (fun l => forceN ty fun ty => k (.v l ty)) = _; rw [nfV_eq, forceN_eq]
  | mi m a l b => show nfV m (fun m => forceN a fun a => nlK l fun l => forceN b fun b => k (.mi m a l b)) = _; rw [nfV_eq, forceN_eq, nlK_eq, forceN_eq]
  | r l ty wr => show nfV l (fun l => Bool.rec (k (.r l ty false)) (forceN ty fun ty => k (.r l ty true)) wr) = _; rw [nfV_eq]; cases wr; rfl; exact forceN_eq _ _
def nfT (t : T O) : (T O → Bool) → Bool := T.rec (motive := fun _ => (T O → Bool) → Bool) (fun k => k .leaf) (fun v _ _ ihl ihr k => nfO v fun v => ihl fun l => ihr fun r => k (.node v l r)) t
theorem nfT_eq : ∀ (t : T O) (k : T O → Bool), nfT t k = k t := by
  intro t
  induction t with
  | leaf => intro k; rfl
  | node v l r ihl ihr => intro k; show nfO v (fun v => nfT l fun l => nfT r fun r => k (.node v l r)) = _; rw [nfO_eq, ihl, ihr]
def refV (x : V) : T V → (T V → Bool) → Bool := V.rec (motive := fun _ => T V → (T V → Bool) → Bool)
  (fun s k => k s) (fun _ _ ihx ihl s k => ihx s fun s => ihl s k) (fun _ s k => k s) (fun _ _ s k => k s) (fun _ s k => k s)
  (fun id _ s k => stK V.nil (.b true) id s k) (fun s k => k s) (fun id _ _ _ s k => stK V.nil (.b true) id s k) (fun s k => k s) (fun s k => k s) (fun s k => k s)
  (fun id s k => stK V.nil (.b true) id s k) (fun s k => k s) (fun _ _ ih s k => ih s k) (fun s k => k s) (fun _ _ ih s k => ih s k) (fun s k => k s)
  (fun _ ih s k => ih s k) (fun _ ih s k => ih s k) (fun _ _ _ _ s k => k s) (fun _ _ s k => k s) (fun _ _ _ _ _ s k => k s)
  (fun t _ a _ _ ih s k => Bool.rec (ih s k) (stK V.nil (.b true) a s k) (Nat.beq t 3)) x
def refE (x : E) : T V → (T V → Bool) → Bool := E.rec (motive := fun _ => T V → (T V → Bool) → Bool) (fun s k => k s) (fun a b _ _ ih s k => refV a s fun s => refV b s fun s => ih s k) x
def refO (x : O) : T V → (T V → Bool) → Bool := O.rec (motive := fun _ => T V → (T V → Bool) → Bool) (fun s k => k s) (fun l _ _ s k => refV l s k) (fun es _ s k => refE es s k) (fun _ _ s k => k s) (fun l _ s k => refV l s k) (fun m _ _ _ s k => refV m s k) (fun _ _ _ s k => k s) x
def refT (t : T O) : T V → (T V → Bool) → Bool := T.rec (motive := fun _ => T V → (T V → Bool) → Bool) (fun s k => k s) (fun v _ _ ihl ihr s k => refO v s fun s => ihl s fun s => ihr s k) t
def isTrue (x : V) : Bool := vB x fun b => b
def fgK (s : T V) (n : Nat) : Nat → T O → (T O → Bool) → Bool := Nat.rec (motive := fun _ => Nat → T O → (T O → Bool) → Bool) (fun _ h k => k h)
  (fun _ ih i h k => Bool.rec (stK O.none O.none i h fun h => ih (Nat.succ i) h k) (ih (Nat.succ i) h k) (isTrue (gt V.nil i s))) n
theorem fgK_spec {s : T V} : ∀ {n i : Nat} {h : T O} {k : T O → Bool}, fgK s n i h k = true → ∃ h', k h' = true ∧ ∀ j, gt O.none j h' = gt O.none j h ∨ (i ≤ j ∧ gt O.none j h' = O.none) := by
  intro n
  induction n with
  | zero => intro i h k hk; exact ⟨h, hk, fun j => .inl rfl⟩
  | succ n ih =>
    intro i h k hk
    have hk' : (Bool.rec (stK O.none O.none i h fun h => fgK s n (Nat.succ i) h k) (fgK s n (Nat.succ i) h k) (isTrue (gt V.nil i s)) : Bool) = true := hk
    cases e : isTrue (gt V.nil i s) with
    | true =>
      rw [e] at hk'
      obtain ⟨h', h1, h2⟩ := ih hk'
      exact ⟨h', h1, fun j => (h2 j).imp id fun ⟨a, b⟩ => ⟨by omega, b⟩⟩
    | false =>
      rw [e] at hk'
      have hk2 : stK O.none O.none i h (fun h => fgK s n (Nat.succ i) h k) = true := hk'
      rw [stK_eq] at hk2
      obtain ⟨h', h1, h2⟩ := ih hk2
      refine ⟨h', h1, fun j => ?_⟩
      rcases h2 j with h3 | ⟨h3, h4⟩
      · by_cases hj : j = i
        · subst hj
          rw [gt_st_same] at h3
          exact .inr ⟨Nat.le_refl _, h3⟩
        · rw [gt_st_ne _ _ (Ne.symm hj)] at h3
          exact .inl h3
      · exact .inr ⟨by omega, h4⟩
theorem stK_ex {x : V} {i : Nat} {s : T V} {k : T V → Bool} (h : stK V.nil x i s k = true) : ∃ s', k s' = true := by
  rw [stK_eq] at h
  exact ⟨_, h⟩
theorem refV_ex : ∀ (x : V) {s : T V} {k : T V → Bool}, refV x s k = true → ∃ s', k s' = true := by
  intro x
  induction x with
  | cons x l ihx ihl => intro s k h; obtain ⟨s1, h1⟩ := ihx (k := fun s => refV l s k) h; exact ihl h1
  | p id off => intro s k h; exact stK_ex h
  | sl id off len sz => intro s k h; exact stK_ex h
  | m id => intro s k h; exact stK_ex h
  | f g c ih => intro s k h; exact ih h
  | e t x ih => intro s k h; exact ih h
  | a l ih => intro s k h; exact ih h
  | t l ih => intro s k h; exact ih h
  | o t l a lo hi ih =>
    intro s k h
    have h : (Bool.rec (refV l s k) (stK V.nil (.b true) a s k) (Nat.beq t 3) : Bool) = true := h
    cases e : Nat.beq t 3 with
    | true => rw [e] at h; exact stK_ex h
    | false => rw [e] at h; exact ih h
  | _ => intro s k h; exact ⟨_, h⟩
theorem refE_ex : ∀ (x : E) {s : T V} {k : T V → Bool}, refE x s k = true → ∃ s', k s' = true := by
  intro x
  induction x with
  | nil => intro s k h; exact ⟨_, h⟩
  | cons a b n r ih =>
    intro s k h
    obtain ⟨s1, h1⟩ := refV_ex a (k := fun s => refV b s fun s => refE r s k) h
    obtain ⟨s2, h2⟩ := refV_ex b (k := fun s => refE r s k) h1
    exact ih h2
theorem refO_ex (x : O) {s : T V} {k : T V → Bool} (h : refO x s k = true) : ∃ s', k s' = true := by
  cases x with
  | c l ty wr => exact refV_ex l h
  | mp es c => exact refE_ex es h
  | v l ty => exact refV_ex l h
  | mi m a l b => exact refV_ex m h
  | _ => exact ⟨_, h⟩
theorem refT_ex : ∀ (t : T O) {s : T V} {k : T V → Bool}, refT t s k = true → ∃ s', k s' = true := by
  intro t
  induction t with
  | leaf => intro s k h; exact ⟨_, h⟩
  | node v l r ihl ihr =>
    intro s k h
    obtain ⟨s1, h1⟩ := refO_ex v (k := fun s => refT l s fun s => refT r s k) h
    obtain ⟨s2, h2⟩ := ihl (k := fun s => refT r s k) h1
    exact ihr h2
theorem St.less {h' : T O} {i : Nat} (s : St ρ h nx w) (hl : ∀ j, gt O.none j h' = gt O.none j h ∨ (i ≤ j ∧ gt O.none j h' = O.none)) : St ρ h' nx w := by
  have lv : ∀ j, (gt O.none j h').live → gt O.none j h' = gt O.none j h := fun j hj => by
    rcases hl j with e | ⟨_, e⟩
    · exact e
    · rw [e] at hj; exact hj.elim
  refine ⟨fun id L hi hL => ?_, fun i j L M hi hj => ?_, s.fresh, fun j hj hl' => ?_⟩
  · have e := lv id hi
    rw [e] at hi ⊢
    exact s.rel id L hi hL
  · have e1 := lv i (O.live_of_wr hi)
    have e2 := lv j hj
    rw [e1] at hi
    rw [e2] at hj
    exact s.inj i j L M hi hj
  · have e := lv j hl'
    rw [e] at hl'
    exact s.dead j hj hl'
theorem Ext.less {ρ0 : Ren} {h0 h' : T O} {nx0 : Nat} {w0 : World} (s0 : St ρ0 h0 nx0 w0) (x : Ext ρ0 h0 w0 ρ h w) (hl : ∀ j, gt O.none j h' = gt O.none j h ∨ (nx0 ≤ j ∧ gt O.none j h' = O.none)) : Ext ρ0 h0 w0 ρ h' w := by
  refine ⟨x.le, x.size, x.os, x.tape, x.output, fun b hb hw => ?_, fun id hi hn => ?_⟩
  · obtain ⟨h1, h2⟩ := x.kept b hb hw
    refine ⟨h1, fun id L hi hL => ?_⟩
    rcases hl id with e | ⟨_, e⟩
    · rw [e] at hi
      exact h2 id L hi hL
    · rw [e] at hi
      exact (O.live_of_wr hi).elim
  · obtain ⟨h1, h2⟩ := x.phant id hi hn
    refine ⟨h1, ?_⟩
    rcases hl id with e | ⟨e, _⟩
    · rw [e, h2]
    · exact absurd hi (s0.dead id e)
def hkNF (R : CK) (g : Nat) : HookF := fun args h nx K => R g args h nx (fun v h' n' => refV v .leaf fun s => refT h' s fun s => fgK s (Nat.sub n' nx) nx h' fun h' => nfT h' fun h' => nfV v fun v => forceN n' fun n' => Bool.rec false true (K v h' n')) (fun _ _ _ => false)
theorem hkNF_ok {R : CK} (hR : CKok P ng R) {g : Nat} : HookOk P ng g (hkNF R g) := by
  intro args h nx K Kp hk ρ w vs s gr hv
  intro o a next Q h1 _
  refine hR g args h nx _ _ hk ρ w vs s gr hv o a next Q (fun ρ' x h' nx' v w' hv' hs hx hk' => ?_) (fun ρ' x h' nx' v w' _ _ _ hk' => Bool.noConfusion hk')
  obtain ⟨s1, hk1⟩ := refV_ex x hk'
  obtain ⟨s2, hk1⟩ := refT_ex h' hk1
  obtain ⟨h2, hk2, hl⟩ := fgK_spec hk1
  rw [nfT_eq, nfV_eq, forceN_eq] at hk2
  have hk3 : K x h2 nx' = true := by
    cases e : K x h2 nx' with
    | true => rfl
    | false => rw [e] at hk2; exact Bool.noConfusion hk2
  exact h1 ρ' x h2 nx' v w' hv' (hs.less hl) (hx.less s hl) hk3
end
end Go.Mx
namespace Go.Mx
open Instr Builtin
noncomputable section
variable {P : Program} {ρ : Ren} {h : T O} {nx : Nat} {w : World} {ng : Nat}
def cutR (N : Nat) (ρ : Ren) : Ren := fun i => if i < N then ρ i else none
def ltC (N : Nat) (c : V) : Bool := chain (M := Bool) true (fun x _ ih => V.rec (motive := fun _ => Bool) false (fun _ _ _ _ => false) (fun _ => false) (fun _ _ => ih) (fun _ => false) (fun _ _ => false) false (fun _ _ _ _ => false) false false false (fun _ => false) false (fun _ _ _ => false) false (fun _ _ _ => false) false (fun _ _ => false) (fun _ _ => false)
  (fun a _ _ _ => ite1 (Nat.blt a N) ih) (fun _ _ => false) (fun _ _ _ _ _ => false) (fun _ _ _ _ _ _ => false) x) c
theorem ltC_spec {N : Nat} : ∀ {c : V} {vs : List Value}, ltC N c = true → VRs ρ c vs → VRs (cutR N ρ) c vs := by
  intro c
  induction c with
  | nil => intro vs _ h; exact h
  | cons x r _ ih =>
    intro vs hk h
    simp only [VRs] at h ⊢
    obtain ⟨y, ys, rfl, h1, h2⟩ := h
    cases x <;> first | exact Bool.noConfusion hk | skip
    case i kd n _ => exact ⟨y, ys, rfl, h1, ih hk h2⟩
    case x a kd lo hi _ =>
      obtain ⟨e, hk2⟩ := ite1_spec (show ite1 (Nat.blt a N) (ltC N r) = true from hk)
      have e := Nat.blt_eq.mp e
      refine ⟨y, ys, rfl, ?_, ih hk2 h2⟩
      simp only [VR] at h1 ⊢
      obtain ⟨L, q1, q2⟩ := h1
      exact ⟨L, by simp [cutR, e, q1], q2⟩
  | _ => intro vs _ h; simp only [VRs] at h
def argOk (N : Nat) (A : V) : Bool := V.rec (motive := fun _ => Bool) false (fun _ _ _ _ => false) (fun _ => false) (fun _ _ => false) (fun _ => true) (fun _ _ => false) false (fun _ _ _ _ => false) false false false (fun _ => false) false (fun _ _ _ => false) false (fun _ _ _ => false) false (fun _ _ => false) (fun _ _ => false)
  (fun _ _ _ _ => false) (fun c _ => ltC N c) (fun _ _ _ _ _ => false) (fun _ _ _ _ _ _ => false) A
theorem argOk_spec {N : Nat} {A : V} {v : Value} (hk : argOk N A = true) (h : VR ρ A v) : VR (cutR N ρ) A v := by
  cases A <;> first | exact Bool.noConfusion hk | skip
  case s l => simp only [VR] at h ⊢; exact h
  case w c =>
    simp only [VR] at h ⊢
    obtain ⟨b, h1, h2⟩ := h
    exact ⟨b, h1, ltC_spec hk h2⟩
def memoA (l : List (Nat × V)) (A : V) (x : Bool) (e : HookF) : HookF := fun args h nx K => arg0 args fun y r => Bool.rec (e args h nx K) (chain (M := Bool) (hasT l h (K (.b x) h nx)) (fun _ _ _ => false) r) (sameV y A)
theorem memoA_ok (hm : P.follows .mixedOrders = true) (hn : NameOK P) {hk : Nat → Option HookF} (hh : HKok P ng hk) {n g N : Nat} {l : List (Nat × V)} {A : V} {x : Bool} {e : HookF} (he : HookOk P ng g e) (hl : inT ng l = true) (hN : Nat.ble ng N = true) (hA : argOk N A = true)
    (hrun : ∀ τ, mkTK τ l .leaf (fun h0 => run P ng hk n g (.cons A .nil) h0 N (fun v _ _ => isB x v) (fun _ _ _ => false)) = true) : HookOk P ng g (memoA l A x e) := by
  intro args h nx K Kp hk1 ρ w vs s hg hv
  obtain ⟨y, r, rfl, hk2⟩ := arg0_spec hk1
  cases q : sameV y A with
  | false =>
    rw [q] at hk2
    exact he _ h nx K Kp hk2 ρ w vs s hg hv
  | true =>
  rw [q] at hk2
  have q := sameV_eq q
  subst q
  have hN := Nat.ble_eq.mp hN
  have hv0 := hv
  simp only [VRs] at hv
  obtain ⟨v1, l1, rfl, hv1, hv2⟩ := hv
  cases r <;> first | (simp only [VRs] at hv2; done) | exact Bool.noConfusion hk2 | skip
  simp only [VRs] at hv2
  subst hv2
  obtain ⟨hkk, htab⟩ := hasT_spec (show hasT l h (K (.b x) h nx) = true from hk2)
  let τ : Nat → Nat := fun i => match asC (gt O.none i h) with
    | .c _ ty _ => ty
    | _ => 0
  have hrun := hrun τ
  rw [mkTK_eq] at hrun
  have hin := inT_spec hl
  have at0 := mkT_at τ l (.leaf : T O)
  have live0 : ∀ i, (gt O.none i (mkTb τ l .leaf)).live → ∃ p ∈ l, p.1 = i ∧ gt O.none i (mkTb τ l .leaf) = tabO p.2 (τ i) := fun i hi => by
    rcases at0 i with h1 | ⟨_, h2⟩
    · exact h1
    · rw [h2, gt_leaf] at hi; exact hi.elim
  have nowr : ∀ i, ¬ (gt O.none i (mkTb τ l .leaf)).wr := fun i hi => by
    obtain ⟨p, _, _, e⟩ := live0 i (O.live_of_wr hi)
    rw [e] at hi
    exact Bool.noConfusion (show false = true from hi)
  have sr : St (cutR N ρ) (mkTb τ l .leaf) N w := by
    refine ⟨fun id L hi hL => ?_, fun i j L M hi => (nowr i hi).elim, fun i hi => ?_, fun i hi hl' => ?_⟩
    · obtain ⟨p, hp, rfl, e⟩ := live0 id hi
      have hlt := (hin p hp).1
      have hlN : p.1 < N := by omega
      have hL' : ρ p.1 = some L := by simpa [cutR, hlN] using hL
      obtain ⟨ty, wr, ho⟩ := htab p hp
      obtain ⟨o, h1, h2⟩ := s.relC ho hL'
      refine ⟨o, h1, ?_⟩
      have et : τ p.1 = ty := by simp only [τ, ho]
      rw [e, et]
      obtain ⟨arr, fz, q1, q2, q3, q4, q5⟩ := h2
      exact ⟨arr, fz, q1, q2, (fun hf => by cases hf), q4, plain_CR (hin p hp).2 q5⟩
    · have : ¬ i < N := by omega
      simp [cutR, this]
    · obtain ⟨p, hp, rfl, e⟩ := live0 i hl'
      have := (hin p hp).1
      omega
  have gr : RG ng (cutR N ρ) := fun i hi => by
    obtain ⟨L, h1, h2, h3⟩ := hg i hi
    have hiN : i < N := by omega
    exact ⟨L, by simpa [cutR, hiN] using h1, h2, h3⟩
  have up := run_sound hm hn hh n g (.cons y .nil) (mkTb τ l .leaf) N (fun v _ _ => isB x v) (fun _ _ _ => false) hrun (cutR N ρ) w [v1] sr gr (by simp only [VRs]; exact ⟨_, _, rfl, argOk_spec hA hv1, rfl⟩)
  intro o a next Q h1 h2
  refine up o a next Q (fun ρ' z h' nx' v w' hv' _ hx hky => ?_) (fun ρ' z h' nx' v w' _ _ _ hky => Bool.noConfusion hky)
  obtain ⟨b, rfl, hb⟩ := vB_spec (show vB z (fun b => bs_eq b x) = true from hky)
  have hbx : b = x := by cases b <;> cases x <;> first | rfl | exact Bool.noConfusion hb
  subst hbx
  simp only [VR] at hv'
  subst hv'
  have kept : ∀ b, b < w.heap.size → w'.heap[b]? = w.heap[b]? := fun b hb => (hx.kept b hb fun id L hw _ => (nowr id hw).elim).1
  have keptL : ∀ {L : Loc} {o : Obj}, w.heap[L.blk]? = some o → w'.heap[L.blk]? = some o := fun {L o} ho => by
    rw [kept L.blk (Array.getElem?_eq_some_iff.1 ho).1]; exact ho
  refine h1 ρ (.b b) h nx (.bool b) w' (by simp only [VR]) ⟨fun id L hi hL => ?_, s.inj, s.fresh, s.dead⟩ ⟨Ren.le.refl _, hx.size, hx.os, hx.tape, hx.output, fun b hb hk => ⟨kept b hb, hk⟩, fun _ _ k => ⟨k, rfl⟩⟩ hkk
  obtain ⟨o, g1, g2⟩ := s.rel id L hi hL
  exact ⟨o, keptL g1, g2⟩
def hkRun (R : CK) (g : Nat) : HookF := fun args h nx K => R g args h nx K (fun _ _ _ => false)
theorem hkRun_ok {R : CK} (hR : CKok P ng R) {g : Nat} : HookOk P ng g (hkRun R g) := by
  intro args h nx K Kp hk ρ w vs s gr hv
  intro o a next Q h1 _
  exact hR g args h nx K _ hk ρ w vs s gr hv o a next Q h1 (fun ρ' z h' nx' v w' _ _ _ hky => Bool.noConfusion hky)
end
end Go.Mx
namespace Go.Mx
open Instr Builtin
noncomputable section
variable {P : Program} {ρ : Ren} {h : T O} {nx : Nat} {w : World} {ng : Nat}
theorem smallRun {R : CK} (hR : CKok P ng R) {g : Nat} {l : List (Nat × V)} {A : V} {vs : List Value} {ob : List (Nat × O)} {N : Nat} {K1 : KV} (hl : inT ng l = true) (s : St ρ h nx w) (hg : RG ng ρ)
    (htab : ∀ p ∈ l, ∃ ty wr, asC (gt O.none p.1 h) = .c p.2 ty wr) {ρb : Ren} (hN : ng ≤ N) (hρb : ∀ i L, ρb i = some L → ng ≤ i ∧ i < N)
    (hob : ∀ i, (gt O.none i (putO ob .leaf)).live → ng ≤ i ∧ i < N ∧ ∀ L, ρb i = some L → ∃ o, w.heap[L.blk]? = some o ∧ OR ρb L (gt O.none i (putO ob .leaf)) o)
    (hinj : ∀ i L, (gt O.none i (putO ob .leaf)).wr → ρb i = some L → (∀ j M, (gt O.none j (putO ob .leaf)).live → ρb j = some M → L.blk = M.blk → i = j) ∧ ∀ p ∈ l, ∀ M, ρ p.1 = some M → L.blk ≠ M.blk)
    (hv : VRs ρb A vs) (hrun : ∀ τ : Nat → Nat, mkTK τ l (putO ob .leaf) (fun h0 => R g A h0 N K1 (fun _ _ _ => false)) = true) :
    ∃ (ρs : Ren) (h0 : T O), Ren.le ρb ρs ∧ (∀ i, (gt O.none i h0).wr → (gt O.none i (putO ob .leaf)).wr) ∧ (∀ i, ng ≤ i → ρs i = ρb i) ∧ St ρs h0 N w ∧ RG ng ρs ∧ UponOK P ((callFunc g ⟨vs⟩).run P w) ρs h0 w K1 (fun _ _ _ => false) := by
  let τ : Nat → Nat := fun i => match asC (gt O.none i h) with
    | .c _ ty _ => ty
    | _ => 0
  have hrun := hrun τ
  rw [mkTK_eq] at hrun
  let ρr : Ren := fun i => if i < ng then ρ i else ρb i
  have hin := inT_spec hl
  have at0 := mkT_at τ l (putO ob (.leaf : T O))
  have hle : Ren.le ρb ρr := fun i L e => by
    have := (hρb i L e).1
    have h1 : ¬ i < ng := by omega
    simp only [ρr, h1, if_false]
    exact e
  have live0 : ∀ i, (gt O.none i (mkTb τ l (putO ob .leaf))).live → (∃ p ∈ l, p.1 = i ∧ gt O.none i (mkTb τ l (putO ob .leaf)) = tabO p.2 (τ i)) ∨ ((gt O.none i (putO ob .leaf)).live ∧ gt O.none i (mkTb τ l (putO ob .leaf)) = gt O.none i (putO ob .leaf)) := fun i hi => by
    rcases at0 i with h1 | ⟨_, h2⟩
    · exact .inl h1
    · rw [h2] at hi; exact .inr ⟨hi, h2⟩
  have wr0 : ∀ i, (gt O.none i (mkTb τ l (putO ob .leaf))).wr → (gt O.none i (putO ob .leaf)).wr := fun i hi => by
    rcases live0 i (O.live_of_wr hi) with ⟨p, _, _, e⟩ | ⟨_, e⟩
    · rw [e] at hi
      exact Bool.noConfusion (show false = true from hi)
    · rw [e] at hi; exact hi
  have al : ∀ {i : Nat} {L : Loc}, ng ≤ i → ρr i = some L → ρb i = some L := fun {i L} h e => by
    have h1 : ¬ i < ng := by omega
    simpa only [ρr, h1, if_false] using e
  have bl : ∀ {i : Nat} {L : Loc}, i < ng → ρr i = some L → ρ i = some L := fun {i L} h e => by
    simpa only [ρr, h, if_true] using e
  have sr : St ρr (mkTb τ l (putO ob .leaf)) N w := by
    refine ⟨fun id L hi hL => ?_, fun i j L M hi hj hL hM hb => ?_, fun i hi => ?_, fun i hi hl' => ?_⟩
    · rcases live0 id hi with ⟨p, hp, rfl, e⟩ | ⟨h1, e⟩
      · have hL' := bl (hin p hp).1 hL
        obtain ⟨ty, wr, ho⟩ := htab p hp
        obtain ⟨o, h1, h2⟩ := s.relC ho hL'
        refine ⟨o, h1, ?_⟩
        have et : τ p.1 = ty := by simp only [τ, ho]
        rw [e, et]
        obtain ⟨arr, fz, q1, q2, q3, q4, q5⟩ := h2
        exact ⟨arr, fz, q1, q2, (fun hf => by cases hf), q4, plain_CR (hin p hp).2 q5⟩
      · obtain ⟨q1, _, q4⟩ := hob id h1
        obtain ⟨o, g1, g2⟩ := q4 L (al q1 hL)
        exact ⟨o, g1, by rw [e]; exact g2.mono hle⟩
    · have hi := wr0 i hi
      have hib := hob i (O.live_of_wr hi)
      obtain ⟨k1, k2⟩ := hinj i L hi (al hib.1 hL)
      rcases live0 j hj with ⟨p, hp, rfl, _⟩ | ⟨h1, _⟩
      · exact absurd hb (k2 p hp M (bl (hin p hp).1 hM))
      · exact k1 j M h1 (al (hob j h1).1 hM) hb
    · have h1 : ¬ i < ng := by omega
      show (if i < ng then ρ i else ρb i) = none
      rw [if_neg h1]
      cases e : ρb i with
      | none => rfl
      | some L => have := (hρb i L e).2; omega
    · rcases live0 i hl' with ⟨p, hp, rfl, _⟩ | ⟨h1, _⟩
      · have := (hin p hp).1
        omega
      · have := (hob i h1).2.1
        omega
  have gr : RG ng ρr := fun i hi => by
    obtain ⟨L, h1, h2, h3⟩ := hg i hi
    exact ⟨L, by simpa [ρr, hi] using h1, h2, h3⟩
  exact ⟨ρr, _, hle, wr0, fun i hi => by have h1 : ¬ i < ng := by omega
                                         simp only [ρr, h1, if_false], sr, gr, hR g A _ N K1 _ hrun ρr w vs sr gr (hv.mono hle)⟩
theorem ro_back {ρs ρ' : Ren} {h0 h' : T O} {w' : World} (s : St ρ h nx w) (hx : Ext ρs h0 w ρ' h' w') (nowr : ∀ i, ¬ (gt O.none i h0).wr) : St ρ h nx w' ∧ Ext ρ h w ρ h w' := by
  have kept : ∀ b, b < w.heap.size → w'.heap[b]? = w.heap[b]? := fun b hb => (hx.kept b hb fun id L hw _ => (nowr id hw).elim).1
  refine ⟨⟨fun id L hi hL => ?_, s.inj, s.fresh, s.dead⟩, ⟨Ren.le.refl _, hx.size, hx.os, hx.tape, hx.output, fun b hb hk => ⟨kept b hb, hk⟩, fun _ _ k => ⟨k, rfl⟩⟩⟩
  obtain ⟨o, g1, g2⟩ := s.rel id L hi hL
  exact ⟨o, by rw [kept L.blk (Array.getElem?_eq_some_iff.1 g1).1]; exact g1, g2⟩
def mskIn (lo hi M : Nat) : Bool := allN 256 fun q => ior (tbN M q) (ite1 (Nat.ble lo q) (Nat.ble q hi))
theorem mskIn_spec {lo hi M : Nat} (hk : mskIn lo hi M = true) (c : UInt8) (hc : tbN M c.toNat = false) : lo ≤ c.toNat ∧ c.toNat ≤ hi := by
  rcases ior_cases (allN_spec hk c.toNat (UInt8.toNat_lt c)) with h | h
  · rw [hc] at h; cases h
  · obtain ⟨h1, h2⟩ := ite1_spec h
    exact ⟨Nat.ble_eq.mp h1, Nat.ble_eq.mp h2⟩
def byIn (lo hi M : Nat) (y : V) : Bool := V.rec (motive := fun _ => Bool) (false) (fun _ _ _ _ => false) (fun _ => false) (fun _ n => ite1 (ile (Int.ofNat lo) n) (ile n (Int.ofNat hi))) (fun _ => false) (fun _ _ => false) (false) (fun _ _ _ _ => false) (false) (false) (false) (fun _ => false) (false) (fun _ _ _ => false) (false) (fun _ _ _ => false) (false) (fun _ _ => false) (fun _ _ => false)
  (fun _ _ l u => ite1 (Nat.ble lo l) (Nat.ble u hi)) (fun _ _ => false) (fun _ _ _ _ _ => false) (fun t l _ pl _ _ => ite1 (Nat.beq t 1) <| ite1 (Nat.beq (mskV l) M) <| Nat.ble 1 pl) y
theorem byIn_spec {lo hi M : Nat} (hM : mskIn lo hi M = true) {y : V} {s : List UInt8} (hk : byIn lo hi M y = true) (hs : PR ρ y s) : ∃ c r, s = c :: r ∧ lo ≤ c.toNat ∧ c.toNat ≤ hi := by
  cases y <;> first | exact Bool.noConfusion hk | skip
  case i kd n =>
    obtain ⟨h1, h2⟩ := ite1_spec (show ite1 (ile (Int.ofNat lo) n) (ile n (Int.ofNat hi)) = true from hk)
    have h1 := ile_spec h1
    have h2 := ile_spec h2
    simp only [PR] at hs
    obtain ⟨_, c, rfl, rfl⟩ := hs
    have z1 : Int.ofNat lo = (lo : Int) := rfl
    have z2 : Int.ofNat hi = (hi : Int) := rfl
    exact ⟨c, [], rfl, by omega, by omega⟩
  case x a kd l u =>
    obtain ⟨h1, h2⟩ := ite1_spec (show ite1 (Nat.ble lo l) (Nat.ble u hi) = true from hk)
    have h1 := Nat.ble_eq.mp h1
    have h2 := Nat.ble_eq.mp h2
    simp only [PR] at hs
    obtain ⟨_, c, L, rfl, _, q1, q2, q3⟩ := hs
    exact ⟨c, [], rfl, by omega, by omega⟩
  case o t l a pl ph =>
    replace hk := ite1_spec (show ite1 (Nat.beq t 1) (ite1 (Nat.beq (mskV l) M) <| Nat.ble 1 pl) = true from hk)
    obtain ⟨h1, hk⟩ := hk
    obtain ⟨h2, h3⟩ := ite1_spec hk
    have h1 := beq_spec h1
    have h2 := beq_spec h2
    have h3 := Nat.ble_eq.mp h3
    simp only [PR] at hs
    rcases hs with ⟨_, L, _, _, q1, _, q2, _⟩ | ⟨z, _⟩
    · cases s with
      | nil => simp at q1; omega
      | cons c r =>
        have := mskIn_spec hM c (by rw [← h2]; exact q2 c (List.mem_cons_self ..))
        exact ⟨c, r, rfl, this.1, this.2⟩
    · omega
def peekB (lo hi M : Nat) (sV iV : V) : Bool := ropK sV fun R => linK iV fun kd S => ite1 (Nat.beq kd 3) <| atMost R 4611686018427387904 fun _ => splS S fun n ls => dropL R n ls (fun r => arg0 r fun y _ => byIn lo hi M y) false
theorem peekB_spec {lo hi M : Nat} (hM : mskIn lo hi M = true) {sV iV : V} (hk : peekB lo hi M sV iV = true) {vs vi : Value} (hs : VR ρ sV vs) (hi' : VR ρ iV vi) :
    ∃ (b : ByteArray) (j : Nat) (c : UInt8), vs = .string b ∧ vi = .int .i64 (j : Int) ∧ b.data.toList[j]? = some c ∧ lo ≤ c.toNat ∧ c.toNat ≤ hi ∧ b.data.toList.length ≤ 4611686018427387904 := by
  replace hk := ropK_spec hk
  obtain ⟨R, hk, hR⟩ := hk
  obtain ⟨b, rfl, hrr⟩ := hR ρ vs hs
  replace hk := linK_spec hk
  obtain ⟨kd, S, hk, hS⟩ := hk
  obtain ⟨n0, hSn, rfl⟩ := hS ρ vi hi'
  replace hk := ite1_spec hk
  obtain ⟨e1, hk⟩ := hk
  have e1 := beq_spec e1
  subst e1
  replace hk := atMost_spec hk
  obtain ⟨_, hk, hmost⟩ := hk
  replace hk := splS_spec hk (LR_isC hSn)
  obtain ⟨n, ls, hk, hc, hnl⟩ := hk
  replace hk := dropL_spec hk (RR_isC hrr) hc
  rcases hk with hk | ⟨r, hk, _, hr⟩
  · exact Bool.noConfusion hk
  obtain ⟨uu, g1, g2⟩ := hnl ρ n0 hSn
  obtain ⟨j, q0, _, q2⟩ := hr ρ _ uu hrr g1
  have ej : n0 = (j : Int) := by omega
  subst ej
  replace hk := arg0_spec hk
  obtain ⟨y, r', rfl, hk⟩ := hk
  simp only [RR] at q2
  obtain ⟨s1, s2, p1, _, p3⟩ := q2
  obtain ⟨c, r, rfl, c1, c2⟩ := byIn_spec hM hk p1
  refine ⟨b, j, c, rfl, rfl, ?_, c1, c2, (hmost ρ _ hrr).2⟩
  have := congrArg (fun l => l[0]?) p3
  simpa using this
theorem cut_at {s : List UInt8} {p : Nat} {c : UInt8} (h : s[p]? = some c) : s = s.take p ++ ([c] ++ s.drop (p + 1)) := by
  have hpl : p < s.length := (List.getElem?_eq_some_iff.1 h).1
  have h1 := List.drop_eq_getElem_cons hpl
  have h2 : s[p] = c := (List.getElem?_eq_some_iff.1 h).2
  rw [h2] at h1
  have h3 := (List.take_append_drop p s).symm
  rw [h1] at h3
  exact h3
theorem anyP_PR {n : Nat} {s : List UInt8} (r : ρ n = some ⟨0, enc s, 0⟩) (hl : s.length ≤ 4611686018427387904) : PR ρ (anyP n) s := by
  simp only [anyP, PR]
  exact .inl ⟨trivial, _, r, rfl, Nat.zero_le _, hl, fun q _ => tbN_zero _, trivial⟩
theorem txtB_rel {n lo hi p : Nat} {s : List UInt8} {c : UInt8} (hc : s[p]? = some c) (h1 : lo ≤ c.toNat) (h2 : c.toNat ≤ hi) (hl : s.length ≤ 4611686018427387904)
    (r0 : ρ n = some ⟨0, enc (s.take p), 0⟩) (r1 : ρ (n + 1) = some ⟨0, c.toNat, 0⟩) (r2 : ρ (n + 2) = some ⟨0, enc (s.drop (p + 1)), 0⟩) :
    RR ρ (.cons (anyP n) (.cons (.x (n + 1) .u8 lo hi) (.cons (anyP (n + 2)) .nil))) s ∧ LR ρ (.cons (anyP n) .nil) (p : Int) := by
  have hp : p < s.length := (List.getElem?_eq_some_iff.1 hc).1
  have ht : (s.take p).length = p := by rw [List.length_take]; omega
  have p0 := anyP_PR r0 (by omega)
  have p2 := anyP_PR r2 (by rw [List.length_drop]; omega)
  refine ⟨?_, ?_⟩
  · simp only [RR]
    refine ⟨_, _, p0, ⟨_, _, ?_, ⟨_, _, p2, rfl, (List.append_nil _).symm⟩, rfl⟩, cut_at hc⟩
    simp only [PR]
    exact ⟨trivial, c, _, rfl, r1, h1, h2, rfl⟩
  · simp only [LR]
    refine ⟨_, 0, ?_, rfl, (Int.add_zero _).symm⟩
    have := PR_MR (y := anyP n) rfl p0
    rwa [ht] at this
def peekR (ng : Nat) (L : Loc) (s : List UInt8) (p : Nat) (c : UInt8) : Ren := fun i => if i = ng then some L else if i = ng + 1 then some ⟨0, enc (s.take p), 0⟩ else if i = ng + 2 then some ⟨0, c.toNat, 0⟩ else if i = ng + 3 then some ⟨0, enc (s.drop (p + 1)), 0⟩ else none
theorem peekR_eq (ng : Nat) (L : Loc) (s : List UInt8) (p : Nat) (c : UInt8) (i : Nat) : peekR ng L s p c i = if i = ng then some L else if i = ng + 1 then some ⟨0, enc (s.take p), 0⟩ else if i = ng + 2 then some ⟨0, c.toNat, 0⟩ else if i = ng + 3 then some ⟨0, enc (s.drop (p + 1)), 0⟩ else none := rfl
def peekO (ng lo hi ty : Nat) : List (Nat × O) := [(ng, .c (.cons (txtB (ng + 1) lo hi) (.cons (cntB (ng + 1)) .nil)) ty false)]
theorem peek_run {R : CK} (hR : CKok P ng R) {g : Nat} {l : List (Nat × V)} {ex : V} {id lo hi M : Nat} {K1 : KV} (hl : inT ng l = true) (s : St ρ h nx w) (hg : RG ng ρ) (htab : ∀ p ∈ l, ∃ ty wr, asC (gt O.none p.1 h) = .c p.2 ty wr)
    {sV iV rest : V} {ty : Nat} {wr : Bool} (ho : asC (gt O.none id h) = .c (.cons sV (.cons iV rest)) ty wr) (hM : mskIn lo hi M = true) (hpk : peekB lo hi M sV iV = true)
    {v0 : Value} {vs : List Value} (hv0 : VR ρ (.p id 0) v0) (hex : ∀ ρ', VRs ρ' ex vs)
    (hrun : ∀ (ty : Nat) (τ : Nat → Nat), mkTK τ l (putO (peekO ng lo hi ty) .leaf) (fun h0 => R g (.cons (.p ng 0) ex) h0 (ng + 4) K1 (fun _ _ _ => false)) = true) :
    ∃ (ρs : Ren) (h0 : T O) (c : UInt8), (∀ i, ¬ (gt O.none i h0).wr) ∧ lo ≤ c.toNat ∧ c.toNat ≤ hi ∧ ρs (ng + 2) = some ⟨0, c.toNat, 0⟩ ∧ UponOK P ((callFunc g ⟨v0 :: vs⟩).run P w) ρs h0 w K1 (fun _ _ _ => false) := by
  simp only [VR] at hv0
  obtain ⟨L, hL, rfl⟩ := hv0
  obtain ⟨o, ho1, arr, fz, ho2, q2, q3, q4, q5⟩ := s.relC ho hL
  simp only [CR] at q5
  obtain ⟨x1, xs1, e1, hx1, x2, xs2, e2, hx2, _⟩ := q5
  obtain ⟨b, j, c, rfl, rfl, hc, c1, c2, hlen⟩ := peekB_spec hM hpk hx1 hx2
  have r0 : peekR ng L b.data.toList j c (ng + 1) = some ⟨0, enc (b.data.toList.take j), 0⟩ := by rw [peekR_eq, if_neg (by omega), if_pos (by omega)]
  have r1 : peekR ng L b.data.toList j c (ng + 1 + 1) = some ⟨0, c.toNat, 0⟩ := by rw [peekR_eq, if_neg (by omega), if_neg (by omega), if_pos (by omega)]
  have r2 : peekR ng L b.data.toList j c (ng + 1 + 2) = some ⟨0, enc (b.data.toList.drop (j + 1)), 0⟩ := by rw [peekR_eq, if_neg (by omega), if_neg (by omega), if_neg (by omega), if_pos (by omega)]
  obtain ⟨rr, ll⟩ := txtB_rel (ρ := peekR ng L b.data.toList j c) (n := ng + 1) hc c1 c2 hlen r0 r1 r2
  have hg1 : ∀ i, gt O.none i (putO (peekO ng lo hi ty) .leaf) = if i = ng then .c (.cons (txtB (ng + 1) lo hi) (.cons (cntB (ng + 1)) .nil)) ty false else .none := fun i => by
    show gt O.none i (st O.none _ ng .leaf) = _
    by_cases e : i = ng
    · subst e; rw [gt_st_same, if_pos rfl]
    · rw [gt_st_ne _ _ (Ne.symm e), if_neg e, gt_leaf]
  have hgl : ∀ i, (gt O.none i (putO (peekO ng lo hi ty) .leaf)).live → i = ng := fun i hi => by
    rw [hg1 i] at hi
    by_cases e : i = ng
    · exact e
    · rw [if_neg e] at hi; exact hi.elim
  have hgw : ∀ i, ¬ (gt O.none i (putO (peekO ng lo hi ty) .leaf)).wr := fun i hi => by
    rw [hg1 i] at hi
    by_cases e : i = ng
    · rw [if_pos e] at hi; exact Bool.noConfusion (show false = true from hi)
    · rw [if_neg e] at hi; exact hi.elim
  obtain ⟨ρs, h0, hle, hwr, hsame, _, _, up⟩ := smallRun hR (A := .cons (.p ng 0) ex) (vs := .pointer (some ⟨L.blk, L.base + 0, none⟩) :: vs) (ob := peekO ng lo hi ty) (N := ng + 4) hl s hg htab (ρb := peekR ng L b.data.toList j c) (by omega)
    (fun i M hi => by
      by_cases e : i < ng ∨ ng + 4 ≤ i
      · have : peekR ng L b.data.toList j c i = none := by
          simp only [peekR]
          rw [if_neg (by omega), if_neg (by omega), if_neg (by omega), if_neg (by omega)]
        rw [this] at hi; cases hi
      · omega)
    (fun i hi => by
      have e := hgl i hi
      subst e
      refine ⟨Nat.le_refl _, by omega, fun M hM => ?_⟩
      have hLM : M = L := by
        have : peekR i L b.data.toList j c i = some L := by simp [peekR]
        rw [this] at hM
        exact (Option.some.inj hM).symm
      subst hLM
      refine ⟨o, ho1, ?_⟩
      rw [hg1 i, if_pos rfl]
      refine ⟨arr, fz, ho2, q2, (fun hf => by cases hf), q4, ?_⟩
      simp only [CR]
      refine ⟨_, _, e1, VR_rope rr, _, _, e2, VR_lin ll, trivial⟩)
    (fun i L hi => absurd hi (hgw i))
    (by simp only [VRs]; exact ⟨_, _, rfl, by simp only [VR]; exact ⟨L, by simp [peekR], rfl⟩, hex _⟩) (hrun ty)
  exact ⟨ρs, h0, c, fun i hi => hgw i (hwr i hi), c1, c2, by rw [hsame _ (by omega)]; rw [peekR_eq, if_neg (by omega), if_neg (by omega), if_pos rfl], up⟩
def hkPeek (l : List (Nat × V)) (lo hi M : Nat) (ex v0 : V) (e : HookF) : HookF := fun args h nx K => Bool.rec (e args h nx K) (hasT l h (K v0 h nx))
  (arg0 args fun p r => ite1 (sameV r ex) <| vP p fun id off => ite1 (Nat.beq off 0) <| oC (gt O.none id h) fun c _ _ => arg0 c fun sV c2 => arg0 c2 fun iV _ => peekB lo hi M sV iV)
theorem hkPeek_ok {R : CK} (hR : CKok P ng R) {g : Nat} {l : List (Nat × V)} {lo hi M : Nat} {ex v0 : V} {e : HookF} (he : HookOk P ng g e) (hl : inT ng l = true) (hM : mskIn lo hi M = true)
    (hex : ∀ ρ ρ' vs, VRs ρ ex vs → VRs ρ' ex vs) (hv : ∀ ρ ρ' v, VR ρ v0 v → VR ρ' v0 v)
    (hrun : ∀ (ty : Nat) (τ : Nat → Nat), mkTK τ l (putO (peekO ng lo hi ty) .leaf) (fun h0 => R g (.cons (.p ng 0) ex) h0 (ng + 4) (fun v _ _ => sameV v v0) (fun _ _ _ => false)) = true) : HookOk P ng g (hkPeek l lo hi M ex v0 e) := by
  intro args h nx K Kp hk ρ w vs s hg hvs
  have hk : (Bool.rec (e args h nx K) (hasT l h (K v0 h nx)) (arg0 args fun p r => ite1 (sameV r ex) <| vP p fun id off => ite1 (Nat.beq off 0) <| oC (gt O.none id h) fun c _ _ => arg0 c fun sV c2 => arg0 c2 fun iV _ => peekB lo hi M sV iV) : Bool) = true := hk
  generalize hc : (arg0 args fun p r => ite1 (sameV r ex) <| vP p fun id off => ite1 (Nat.beq off 0) <| oC (gt O.none id h) fun c _ _ => arg0 c fun sV c2 => arg0 c2 fun iV _ => peekB lo hi M sV iV) = q at hk
  cases q with
  | false => exact he args h nx K Kp hk ρ w vs s hg hvs
  | true =>
  obtain ⟨hkk, htab⟩ := hasT_spec (show hasT l h (K v0 h nx) = true from hk)
  replace hc := arg0_spec hc
  obtain ⟨p, r, rfl, hc⟩ := hc
  replace hc := ite1_spec hc
  obtain ⟨e1, hc⟩ := hc
  have e1 := sameV_eq e1
  subst e1
  replace hc := vP_spec hc
  obtain ⟨id, off, rfl, hc⟩ := hc
  replace hc := ite1_spec hc
  obtain ⟨e2, hc⟩ := hc
  have e2 := beq_spec e2
  subst e2
  replace hc := oC_spec hc
  obtain ⟨cs, ty, wr, ho, hc⟩ := hc
  replace hc := arg0_spec hc
  obtain ⟨sV, c2, rfl, hc⟩ := hc
  replace hc := arg0_spec hc
  obtain ⟨iV, c3, rfl, hc⟩ := hc
  simp only [VRs] at hvs
  obtain ⟨v1, vr, rfl, hv1, hv2⟩ := hvs
  obtain ⟨ρs, h0, c, nowr, _, _, _, up⟩ := peek_run hR hl s hg htab ho hM hc hv1 (fun ρ' => hex ρ ρ' _ hv2) hrun
  intro o a next Q h1 _
  refine up o a next Q (fun ρ' y h' nx' v w' hv' _ hx hky => ?_) (fun ρ' y h' nx' v w' _ _ _ hky => Bool.noConfusion hky)
  have hy := sameV_eq (show sameV y v0 = true from hky)
  subst hy
  obtain ⟨g1, g2⟩ := ro_back s hx nowr
  exact h1 ρ y h nx v w' (hv _ _ _ hv') g1 g2 hkk
def hkPeekB (l : List (Nat × V)) (lo hi M : Nat) (ex : V) (e : HookF) : HookF := fun args h nx K => Bool.rec (e args h nx K) (hasT l h (K (.x nx .u8 lo hi) h (Nat.succ nx)))
  (arg0 args fun p r => ite1 (sameV r ex) <| vP p fun id off => ite1 (Nat.beq off 0) <| oC (gt O.none id h) fun c _ _ => arg0 c fun sV c2 => arg0 c2 fun iV _ => peekB lo hi M sV iV)
theorem St.atomN (s : St ρ h nx w) (n : Nat) : St (fun i => if i = nx then some ⟨0, n, 0⟩ else ρ i) h (nx + 1) w ∧ Ext ρ h w (fun i => if i = nx then some ⟨0, n, 0⟩ else ρ i) h w := by
  have hlv : ∀ i, (gt O.none i h).live → i ≠ nx := fun i hi e => s.dead i (by omega) hi
  refine ⟨⟨fun id L hi hL => ?_, fun i j L M hi hj hL hM => ?_, fun i hi => ?_, fun i hi => s.dead i (by omega)⟩, ⟨fun i L e => ?_, Nat.le_refl _, rfl, rfl, rfl, fun b _ hk => ⟨rfl, fun id L hi hL => ?_⟩, fun id hi hn => ⟨?_, rfl⟩⟩⟩
  · have hL : ρ id = some L := by simpa [hlv id hi] using hL
    obtain ⟨o, h1, h2⟩ := s.rel id L hi hL
    refine ⟨o, h1, h2.mono fun i L e => ?_⟩
    have : i ≠ nx := fun e2 => by rw [s.fresh i (by omega)] at e; cases e
    simp only [this, if_false]
    exact e
  · have hL : ρ i = some L := by simpa [hlv i (O.live_of_wr hi)] using hL
    have hM : ρ j = some M := by simpa [hlv j hj] using hM
    exact s.inj i j L M hi hj hL hM
  · have : i ≠ nx := by omega
    simp only [this, if_false]
    exact s.fresh i (by omega)
  · have : i ≠ nx := fun e2 => by rw [s.fresh i (by omega)] at e; cases e
    simp only [this, if_false]
    exact e
  · have hL : ρ id = some L := by simpa [hlv id (O.live_of_wr hi)] using hL
    exact hk id L hi hL
  · simp only [hlv id hi, if_false]
    exact hn
theorem hkPeekB_ok {R : CK} (hR : CKok P ng R) {g : Nat} {l : List (Nat × V)} {lo hi M : Nat} {ex : V} {e : HookF} (he : HookOk P ng g e) (hl : inT ng l = true) (hM : mskIn lo hi M = true)
    (hex : ∀ ρ ρ' vs, VRs ρ ex vs → VRs ρ' ex vs)
    (hrun : ∀ (ty : Nat) (τ : Nat → Nat), mkTK τ l (putO (peekO ng lo hi ty) .leaf) (fun h0 => R g (.cons (.p ng 0) ex) h0 (ng + 4) (fun v _ _ => sameV v (.x (ng + 2) .u8 lo hi)) (fun _ _ _ => false)) = true) : HookOk P ng g (hkPeekB l lo hi M ex e) := by
  intro args h nx K Kp hk ρ w vs s hg hvs
  have hk : (Bool.rec (e args h nx K) (hasT l h (K (.x nx .u8 lo hi) h (Nat.succ nx))) (arg0 args fun p r => ite1 (sameV r ex) <| vP p fun id off => ite1 (Nat.beq off 0) <| oC (gt O.none id h) fun c _ _ => arg0 c fun sV c2 => arg0 c2 fun iV _ => peekB lo hi M sV iV) : Bool) = true := hk
  generalize hc : (arg0 args fun p r => ite1 (sameV r ex) <| vP p fun id off => ite1 (Nat.beq off 0) <| oC (gt O.none id h) fun c _ _ => arg0 c fun sV c2 => arg0 c2 fun iV _ => peekB lo hi M sV iV) = q at hk
  cases q with
  | false => exact he args h nx K Kp hk ρ w vs s hg hvs
  | true =>
  obtain ⟨hkk, htab⟩ := hasT_spec (show hasT l h (K (.x nx .u8 lo hi) h (Nat.succ nx)) = true from hk)
  replace hc := arg0_spec hc
  obtain ⟨p, r, rfl, hc⟩ := hc
  replace hc := ite1_spec hc
  obtain ⟨e1, hc⟩ := hc
  have e1 := sameV_eq e1
  subst e1
  replace hc := vP_spec hc
  obtain ⟨id, off, rfl, hc⟩ := hc
  replace hc := ite1_spec hc
  obtain ⟨e2, hc⟩ := hc
  have e2 := beq_spec e2
  subst e2
  replace hc := oC_spec hc
  obtain ⟨cs, ty, wr, ho, hc⟩ := hc
  replace hc := arg0_spec hc
  obtain ⟨sV, c2, rfl, hc⟩ := hc
  replace hc := arg0_spec hc
  obtain ⟨iV, c3, rfl, hc⟩ := hc
  simp only [VRs] at hvs
  obtain ⟨v1, vr, rfl, hv1, hv2⟩ := hvs
  obtain ⟨ρs, h0, c, nowr, c1, c2, hat, up⟩ := peek_run hR hl s hg htab ho hM hc hv1 (fun ρ' => hex ρ ρ' _ hv2) hrun
  intro o a next Q h1 _
  refine up o a next Q (fun ρ' y h' nx' v w' hv' _ hx hky => ?_) (fun ρ' y h' nx' v w' _ _ _ hky => Bool.noConfusion hky)
  have hy := sameV_eq (show sameV y _ = true from hky)
  subst hy
  obtain ⟨g1, g2⟩ := ro_back s hx nowr
  obtain ⟨g3, g4⟩ := g1.atomN c.toNat
  simp only [VR] at hv'
  obtain ⟨L, e3, _, _, rfl⟩ := hv'
  have e4 := hx.le _ _ hat
  rw [e3] at e4
  have e4 := Option.some.inj e4
  subst e4
  refine h1 _ (.x nx .u8 lo hi) h (nx + 1) _ w' ?_ g3 (g2.trans g4) hkk
  simp only [VR]
  exact ⟨⟨0, c.toNat, 0⟩, by simp, c1, c2, rfl⟩
def allIn (lo hi M : Nat) (c : V) : Bool := chain true (fun y _ ih => V.rec (motive := fun _ => Bool) (false) (fun _ _ _ _ => false) (fun _ => false) (fun _ n => ite1 (ile (Int.ofNat lo) n) <| ite1 (ile n (Int.ofNat hi)) ih) (fun _ => false) (fun _ _ => false) (false) (fun _ _ _ _ => false) (false) (false) (false) (fun _ => false) (false) (fun _ _ _ => false) (false) (fun _ _ _ => false) (false) (fun _ _ => false) (fun _ _ => false)
  (fun _ _ l u => ite1 (Nat.ble lo l) <| ite1 (Nat.ble u hi) ih) (fun _ _ => false) (fun _ _ _ _ _ => false) (fun t l _ _ _ _ => ite1 (Nat.beq t 1) <| ite1 (Nat.beq (mskV l) M) ih) y) c
theorem allIn_spec {lo hi M : Nat} (hM : mskIn lo hi M = true) : ∀ {c : V} {s : List UInt8}, allIn lo hi M c = true → RR ρ c s → ∀ d ∈ s, lo ≤ d.toNat ∧ d.toNat ≤ hi := by
  intro c
  induction c with
  | nil => intro s _ hs d hd; simp only [RR] at hs; subst hs; cases hd
  | cons y r ihy ih =>
    clear ihy
    intro s hk hs d hd
    simp only [RR] at hs
    obtain ⟨s1, s2, h1, h2, rfl⟩ := hs
    cases y <;> first | exact Bool.noConfusion hk | skip
    case i kd n =>
      replace hk := ite1_spec (show ite1 (ile (Int.ofNat lo) n) (ite1 (ile n (Int.ofNat hi)) (allIn lo hi M r)) = true from hk)
      obtain ⟨e1, hk⟩ := hk
      replace hk := ite1_spec hk
      obtain ⟨e2, hk⟩ := hk
      have e1 := ile_spec e1
      have e2 := ile_spec e2
      simp only [PR] at h1
      obtain ⟨_, c, rfl, rfl⟩ := h1
      have z1 : Int.ofNat lo = (lo : Int) := rfl
      have z2 : Int.ofNat hi = (hi : Int) := rfl
      rcases List.mem_append.1 hd with hd | hd
      · rw [List.mem_singleton] at hd; subst hd; exact ⟨by omega, by omega⟩
      · exact ih hk h2 d hd
    case x a kd l u =>
      replace hk := ite1_spec (show ite1 (Nat.ble lo l) (ite1 (Nat.ble u hi) (allIn lo hi M r)) = true from hk)
      obtain ⟨e1, hk⟩ := hk
      replace hk := ite1_spec hk
      obtain ⟨e2, hk⟩ := hk
      have e1 := Nat.ble_eq.mp e1
      have e2 := Nat.ble_eq.mp e2
      simp only [PR] at h1
      obtain ⟨_, c, L, rfl, _, q1, q2, q3⟩ := h1
      rcases List.mem_append.1 hd with hd | hd
      · rw [List.mem_singleton] at hd; subst hd; exact ⟨by omega, by omega⟩
      · exact ih hk h2 d hd
    case o t l a pl ph =>
      replace hk := ite1_spec (show ite1 (Nat.beq t 1) (ite1 (Nat.beq (mskV l) M) (allIn lo hi M r)) = true from hk)
      obtain ⟨e1, hk⟩ := hk
      replace hk := ite1_spec hk
      obtain ⟨e2, hk⟩ := hk
      have e1 := beq_spec e1
      have e2 := beq_spec e2
      simp only [PR] at h1
      rcases h1 with ⟨_, L, _, _, _, _, q2, _⟩ | ⟨z, _⟩
      · rcases List.mem_append.1 hd with hd | hd
        · exact mskIn_spec hM d (by rw [← e2]; exact q2 d hd)
        · exact ih hk h2 d hd
      · omega
  | _ => intro s _ hs; simp only [RR] at hs
def wordV (lo hi n ng : Nat) : V := atomsV lo hi n ng .nil
theorem wOk_word (lo hi : Nat) (hh : Nat.ble hi 255 = true) : ∀ n i, wOk (wordV lo hi n i) = true := by
  intro n
  induction n with
  | zero => intro i; rfl
  | succ n ih =>
    intro i
    show (Bool.rec false (wOk (wordV lo hi n (Nat.succ i))) (isB8 (.x i .u8 lo hi)) : Bool) = true
    rw [show isB8 (.x i .u8 lo hi) = true from hh]
    exact ih _
def hkSame (l : List (Nat × V)) (lo hi M B : Nat) (x : Bool) (e : HookF) : HookF := fun args h nx K => arg0 args fun y r => Bool.rec (e args h nx K) (chain (M := Bool) (hasT l h (K (.t (.cons y (.cons (.b x) .nil))) h nx)) (fun _ _ _ => false) r)
  (ropK y fun c => ite1 (allIn lo hi M c) <| atMost c B fun _ => true)
def isSame (W : V) (x : Bool) (v : V) : Bool := vT v fun c => arg0 c fun y r => ropK y fun d => ite1 (sameV d W) <| sameV r (.cons (.b x) .nil)
theorem hkSame_ok {R : CK} (hR : CKok P ng R) {g : Nat} {l : List (Nat × V)} {lo hi M B : Nat} {x : Bool} {e : HookF} (he : HookOk P ng g e) (hl : inT ng l = true) (hM : mskIn lo hi M = true) (hh : Nat.ble hi 255 = true)
    (hrun : ∀ n, n ≤ B → ∀ τ : Nat → Nat, mkTK τ l .leaf (fun h0 => R g (.cons (.w (wordV lo hi n ng)) .nil) h0 (ng + n) (fun v _ _ => isSame (wordV lo hi n ng) x v) (fun _ _ _ => false)) = true) : HookOk P ng g (hkSame l lo hi M B x e) := by
  intro args h nx K Kp hk ρ w vs s hg hvs
  replace hk := arg0_spec hk
  obtain ⟨y, r, rfl, hk⟩ := hk
  generalize hc : (ropK y fun c => ite1 (allIn lo hi M c) <| atMost c B fun _ => true) = q at hk
  cases q with
  | false => exact he _ h nx K Kp hk ρ w vs s hg hvs
  | true =>
  simp only [VRs] at hvs
  obtain ⟨v1, vr, rfl, hv1, hv2⟩ := hvs
  cases r <;> first | (simp only [VRs] at hv2; done) | exact Bool.noConfusion hk | skip
  simp only [VRs] at hv2
  subst hv2
  obtain ⟨hkk, htab⟩ := hasT_spec (show hasT l h (K (.t (.cons y (.cons (.b x) .nil))) h nx) = true from hk)
  replace hc := ropK_spec hc
  obtain ⟨c, hc, hrp⟩ := hc
  obtain ⟨b, rfl, hrr⟩ := hrp ρ v1 hv1
  replace hc := ite1_spec hc
  obtain ⟨e1, hc⟩ := hc
  have hall := allIn_spec hM e1 hrr
  obtain ⟨_, _, hmost⟩ := atMost_spec hc
  have hle := (hmost ρ _ hrr).2
  have hsz : b.size = b.data.toList.length := rfl
  have hw : VR (atomsR ng (b.data.toList.map UInt8.toNat)) (.w (wordV lo hi b.size ng)) (.string b) := VR_word rfl hall (fun j c hj => atomsR_at (by simp [hj]))
  obtain ⟨ρs, h0, hle2, hwr, hsame, _, _, up⟩ := smallRun hR (A := .cons (.w (wordV lo hi b.size ng)) .nil) (vs := [.string b]) (ob := []) (N := ng + b.size) hl s hg htab (ρb := atomsR ng (b.data.toList.map UInt8.toNat)) (by omega)
    (fun i L hi => by
      unfold atomsR at hi
      by_cases e : i < ng
      · rw [if_pos e] at hi; cases hi
      · rw [if_neg e] at hi
        obtain ⟨m, hm, _⟩ := Option.map_eq_some_iff.1 hi
        have := (List.getElem?_eq_some_iff.1 hm).1
        rw [List.length_map, ← hsz] at this
        omega)
    (fun i hi => by rw [show putO [] (.leaf : T O) = .leaf from rfl, gt_leaf] at hi; exact hi.elim)
    (fun i L hi => by rw [show putO [] (.leaf : T O) = .leaf from rfl, gt_leaf] at hi; exact hi.elim)
    (by simp only [VRs]; exact ⟨_, _, rfl, hw, rfl⟩) (hrun b.size (by omega))
  have nowr : ∀ i, ¬ (gt O.none i h0).wr := fun i hi => by
    have := hwr i hi
    rw [show putO [] (.leaf : T O) = .leaf from rfl, gt_leaf] at this
    exact this.elim
  intro o a next Q h1 _
  refine up o a next Q (fun ρ' z h' nx' v w' hv' _ hx hky => ?_) (fun ρ' y h' nx' v w' _ _ _ hky => Bool.noConfusion hky)
  obtain ⟨g1, g2⟩ := ro_back s hx nowr
  replace hky := vT_spec (show isSame (wordV lo hi b.size ng) x z = true from hky)
  obtain ⟨cc, rfl, hky⟩ := hky
  replace hky := arg0_spec hky
  obtain ⟨z1, zr, rfl, hky⟩ := hky
  replace hky := ropK_spec hky
  obtain ⟨d, hky, hd⟩ := hky
  obtain ⟨e3, e4⟩ := ite1_spec hky
  have e3 := sameV_eq e3
  subst e3
  have e4 := sameV_eq e4
  subst e4
  simp only [VR] at hv'
  obtain ⟨vs', hvs', rfl⟩ := hv'
  simp only [VRs] at hvs'
  obtain ⟨a1, as1, rfl, p1, a2, as2, rfl, p2, rfl⟩ := hvs'
  obtain ⟨b2, rfl, hr2⟩ := hd ρ' a1 p1
  have hrw : RR ρ' (wordV lo hi b.size ng) b.data.toList := by
    have h5 := (hw.mono hle2).mono hx.le
    simp only [VR] at h5
    obtain ⟨b3, e5, h8⟩ := h5
    cases e5
    exact wOk_RR (wOk_word lo hi hh b.size ng) h8
  have hbb : b2 = b := by
    have h9 := hr2.fn hrw
    have h10 : bytesV b2 = bytesV b := by unfold bytesV; rw [h9]
    exact bytesV_inj h10
  subst hbb
  refine h1 ρ _ h nx _ w' ?_ g1 g2 hkk
  simp only [VR] at p2 ⊢
  subst p2
  refine ⟨_, ?_, rfl⟩
  simp only [VRs, VR]
  exact ⟨_, _, rfl, hv1, _, _, rfl, rfl, rfl⟩
end
end Go.Mx
