/-
  A part of a small executor of the model, proved sound (22 of 28). No condition.
-/
import Derived.Test.YtnpdmljafaolpaaGreatDoorXMxX
namespace Go.Mx
open Instr Builtin
noncomputable section
variable {P : Program} {ρ : Ren} {h : T O} {nx : Nat} {w : World} {ng : Nat}
def kindK (k : IntKind) : (IntKind → Bool) → Bool := IntKind.rec (motive := fun _ => (IntKind → Bool) → Bool) (fun c => c .i8) (fun c => c .i16) (fun c => c .i32) (fun c => c .i64) (fun c => c .u8) (fun c => c .u16) (fun c => c .u32) (fun c => c .u64) k
theorem kindK_eq (k : IntKind) (c : IntKind → Bool) : kindK k c = c k := by cases k <;> rfl
def nlK (l : List Nat) : (List Nat → Bool) → Bool := List.rec (motive := fun _ => (List Nat → Bool) → Bool) (fun k => k []) (fun x _ ih k => forceN x fun x => ih fun l => k (x :: l)) l
theorem nlK_eq : ∀ (l : List Nat) (k : List Nat → Bool), nlK l k = k l
  | [], _ => rfl
  | x :: l, k => by
    show forceN x (fun x => nlK l fun l => k (x :: l)) = _
    rw [forceN_eq, nlK_eq l]
def boolK (b : Bool) (k : Bool → Bool) : Bool := Bool.rec (k false) (k true) b
theorem boolK_eq (b : Bool) (k : Bool → Bool) : boolK b k = k b := by cases b <;> rfl
def nfV (x : V) : (V → Bool) → Bool := V.rec (motive := fun _ => (V → Bool) → Bool)
  (fun k => k .nil)
  (fun _ _ ihx ihl k => ihx fun x => ihl fun l => k (.cons x l))
  (fun b k => boolK b fun b => k (.b b))
  (fun kd n k => kindK kd fun kd => forceI n fun n => k (.i kd n))
  (fun l k => nlK l fun l => k (.s l))
  (fun id off k => forceN id fun id => forceN off fun off => k (.p id off))
  (fun k => k .pn)
  (fun id off len sz k => forceN id fun id => forceN off fun off => forceN len fun len => forceN sz fun sz => k (.sl id off len sz))
  (fun k => k .sn) (fun k => k .se) (fun k => k .s0)
  (fun id k => forceN id fun id => k (.m id))
  (fun k => k .mn)
  (fun g _ ih k => forceN g fun g => ih fun c => k (.f g c))
  (fun k => k .fn)
  (fun t _ ih k => forceN t fun t => ih fun x => k (.e t x))
  (fun k => k .en)
  (fun _ ih k => ih fun l => k (.a l))
  (fun _ ih k => ih fun l => k (.t l))
  (fun a kd lo hi k => forceN a fun a => kindK kd fun kd => forceN lo fun lo => forceN hi fun hi => k (.x a kd lo hi))
  (fun _ ih k => ih fun l => k (.w l))
  (fun _ a lo hi ih k => ih fun l => forceN a fun a => forceN lo fun lo => forceN hi fun hi => k (.y l a lo hi))
  (fun t _ a lo hi ih k => forceN t fun t => ih fun l => forceN a fun a => forceN lo fun lo => forceN hi fun hi => k (.o t l a lo hi)) x
theorem nfV_eq : ∀ (x : V) (k : V → Bool), nfV x k = k x := by
  intro x
  induction x with
  | cons x l ihx ihl => intro k; show nfV x (fun x => nfV l fun l => k (.cons x l)) = _; rw [ihx, ihl]
  | b b => intro k; show boolK b (fun b => k (.b b)) = _; rw [boolK_eq]
  | i kd n => intro k; show kindK kd (fun kd => forceI n fun n => k (.i kd n)) = _; rw [kindK_eq, forceI_eq]
  | s l => intro k; show nlK l (fun l => k (.s l)) = _; rw [nlK_eq]
  | p id off => intro k; show forceN id (fun id => forceN off fun off => k (.p id off)) = _; rw [forceN_eq, forceN_eq]
  | sl id off len sz => intro k; show forceN id (fun id => forceN off fun off => forceN len fun len => forceN sz fun sz => k (.sl id off len sz)) = _; rw [forceN_eq, forceN_eq, forceN_eq, forceN_eq]
  | m id => intro k; show forceN id (fun id => k (.m id)) = _; rw [forceN_eq]
  | f g c ih => intro k; show forceN g (fun g => nfV c fun c => k (.f g c)) = _; rw [forceN_eq, ih]
  | e t x ih => intro k; show forceN t (fun t => nfV x fun x => k (.e t x)) = _; rw [forceN_eq, ih]
  | a l ih => intro k; show nfV l (fun l => k (.a l)) = _; rw [ih]
  | t l ih => intro k; show nfV l (fun l => k (.t l)) = _; rw [ih]
  | x a kd lo hi => intro k; show forceN a (fun a => kindK kd fun kd => forceN lo fun lo => forceN hi fun hi => k (.x a kd lo hi)) = _; rw [forceN_eq, kindK_eq, forceN_eq, forceN_eq]
  | w l ih => intro k; show nfV l (fun l => k (.w l)) = _; rw [ih]
  | y l a lo hi ih => intro k; show nfV l (fun l => forceN a fun a => forceN lo fun lo => forceN hi fun hi => k (.y l a lo hi)) = _; rw [ih, forceN_eq, forceN_eq, forceN_eq]
  | o t l a lo hi ih => intro k; show forceN t (fun t => nfV l fun l => forceN a fun a => forceN lo fun lo => forceN hi fun hi => k (.o t l a lo hi)) = _; rw [forceN_eq, ih, forceN_eq, forceN_eq, forceN_eq]
  | _ => intro k; rfl
def nfE (x : E) : (E → Bool) → Bool := E.rec (motive := fun _ => (E → Bool) → Bool) (fun k => k .nil) (fun a b n _ ih k => nfV a fun a => nfV b fun b => forceN n fun n => ih fun r => k (.cons a b n r)) x
theorem nfE_eq : ∀ (x : E) (k : E → Bool), nfE x k = k x := by
  intro x
  induction x with
  | nil => intro k; rfl
  | cons a b n r ih => intro k; show nfV a (fun a => nfV b fun b => forceN n fun n => nfE r fun r => k (.cons a b n r)) = _; rw [nfV_eq, nfV_eq, forceN_eq, ih]
def nfO (x : O) : (O → Bool) → Bool := O.rec (motive := fun _ => (O → Bool) → Bool) (fun k => k .none)
  (fun l ty wr k => nfV l fun l => Bool.rec (k (.c l ty false)) (forceN ty fun ty => k (.c l ty true)) wr) (fun es c k => nfE es fun es => forceN c fun c => k (.mp es c)) (fun l p k => nlK l fun l => forceN p fun p => k (.si l p))
  (fun l ty k => nfV l fun l => forceN ty fun ty => k (.v l ty)) (fun m a l b k => nfV m fun m => forceN a fun a => nlK l fun l => forceN b fun b => k (.mi m a l b)) (fun l ty wr k => nfV l fun l => Bool.rec (k (.r l ty false)) (forceN ty fun ty => k (.r l ty true)) wr) x
theorem nfO_eq (x : O) (k : O → Bool) : nfO x k = k x := by
  cases x with
  | none => rfl
  | c l ty wr => show nfV l (fun l => Bool.rec (k (.c l ty false)) (forceN ty fun ty => k (.c l ty true)) wr) = _; rw [nfV_eq]; cases wr; rfl; exact forceN_eq _ _
  | mp es c => show nfE es (fun es => forceN c fun c => k (.mp es c)) = _; rw [nfE_eq, forceN_eq]
  | si l p => show nlK l (fun l => forceN p fun p => k (.si l p)) = _; rw [nlK_eq, forceN_eq]
  | v l ty => show nfV l (fun l => forceN ty fun ty => k (.v l ty)) = _; rw [nfV_eq, forceN_eq]
  | mi m a l b => show nfV m (fun m => forceN a fun a => nlK l fun l => forceN b fun b => k (.mi m a l b)) = _; rw [nfV_eq, forceN_eq, nlK_eq, forceN_eq]
  | r l ty wr => show nfV l (fun l => Bool.rec (k (.r l ty false)) (forceN ty fun ty => k (.r l ty true)) wr) = _; rw [nfV_eq]; cases wr; rfl; exact forceN_eq _ _
def nfT (t : T O) : (T O → Bool) → Bool := T.rec (motive := fun _ => (T O → Bool) → Bool) (fun k => k .leaf) (fun v _ _ ihl ihr k => nfO v fun v => ihl fun l => ihr fun r => k (.node v l r)) t
theorem nfT_eq : ∀ (t : T O) (k : T O → Bool), nfT t k = k t := by
  intro t
  induction t with
  | leaf => intro k; rfl
  | node v l r ihl ihr => intro k; show nfO v (fun v => nfT l fun l => nfT r fun r => k (.node v l r)) = _; rw [nfO_eq, ihl, ihr]
def refV (x : V) : T V → (T V → Bool) → Bool := V.rec (motive := fun _ => T V → (T V → Bool) → Bool)
  (fun s k => k s) (fun _ _ ihx ihl s k => ihx s fun s => ihl s k) (fun _ s k => k s) (fun _ _ s k => k s) (fun _ s k => k s)
  (fun id _ s k => stK V.nil (.b true) id s k) (fun s k => k s) (fun id _ _ _ s k => stK V.nil (.b true) id s k) (fun s k => k s) (fun s k => k s) (fun s k => k s)
  (fun id s k => stK V.nil (.b true) id s k) (fun s k => k s) (fun _ _ ih s k => ih s k) (fun s k => k s) (fun _ _ ih s k => ih s k) (fun s k => k s)
  (fun _ ih s k => ih s k) (fun _ ih s k => ih s k) (fun _ _ _ _ s k => k s) (fun _ _ s k => k s) (fun _ _ _ _ _ s k => k s)
  (fun t _ a _ _ ih s k => Bool.rec (ih s k) (stK V.nil (.b true) a s k) (Nat.beq t 3)) x
def refE (x : E) : T V → (T V → Bool) → Bool := E.rec (motive := fun _ => T V → (T V → Bool) → Bool) (fun s k => k s) (fun a b _ _ ih s k => refV a s fun s => refV b s fun s => ih s k) x
def refO (x : O) : T V → (T V → Bool) → Bool := O.rec (motive := fun _ => T V → (T V → Bool) → Bool) (fun s k => k s) (fun l _ _ s k => refV l s k) (fun es _ s k => refE es s k) (fun _ _ s k => k s) (fun l _ s k => refV l s k) (fun m _ _ _ s k => refV m s k) (fun _ _ _ s k => k s) x
def refT (t : T O) : T V → (T V → Bool) → Bool := T.rec (motive := fun _ => T V → (T V → Bool) → Bool) (fun s k => k s) (fun v _ _ ihl ihr s k => refO v s fun s => ihl s fun s => ihr s k) t
def isTrue (x : V) : Bool := vB x fun b => b
def fgK (s : T V) (n : Nat) : Nat → T O → (T O → Bool) → Bool := Nat.rec (motive := fun _ => Nat → T O → (T O → Bool) → Bool) (fun _ h k => k h)
  (fun _ ih i h k => Bool.rec (stK O.none O.none i h fun h => ih (Nat.succ i) h k) (ih (Nat.succ i) h k) (isTrue (gt V.nil i s))) n
theorem fgK_spec {s : T V} : ∀ {n i : Nat} {h : T O} {k : T O → Bool}, fgK s n i h k = true → ∃ h', k h' = true ∧ ∀ j, gt O.none j h' = gt O.none j h ∨ (i ≤ j ∧ gt O.none j h' = O.none) := by
  intro n
  induction n with
  | zero => intro i h k hk; exact ⟨h, hk, fun j => .inl rfl⟩
  | succ n ih =>
    intro i h k hk
    have hk' : (Bool.rec (stK O.none O.none i h fun h => fgK s n (Nat.succ i) h k) (fgK s n (Nat.succ i) h k) (isTrue (gt V.nil i s)) : Bool) = true := hk
    cases e : isTrue (gt V.nil i s) with
    | true =>
      rw [e] at hk'
      obtain ⟨h', h1, h2⟩ := ih hk'
      exact ⟨h', h1, fun j => (h2 j).imp id fun ⟨a, b⟩ => ⟨by omega, b⟩⟩
    | false =>
      rw [e] at hk'
      have hk2 : stK O.none O.none i h (fun h => fgK s n (Nat.succ i) h k) = true := hk'
      rw [stK_eq] at hk2
      obtain ⟨h', h1, h2⟩ := ih hk2
      refine ⟨h', h1, fun j => ?_⟩
      rcases h2 j with h3 | ⟨h3, h4⟩
      · by_cases hj : j = i
        · subst hj
          rw [gt_st_same] at h3
          exact .inr ⟨Nat.le_refl _, h3⟩
        · rw [gt_st_ne _ _ (Ne.symm hj)] at h3
          exact .inl h3
      · exact .inr ⟨by omega, h4⟩
theorem stK_ex {x : V} {i : Nat} {s : T V} {k : T V → Bool} (h : stK V.nil x i s k = true) : ∃ s', k s' = true := by
  rw [stK_eq] at h
  exact ⟨_, h⟩
theorem refV_ex : ∀ (x : V) {s : T V} {k : T V → Bool}, refV x s k = true → ∃ s', k s' = true := by
  intro x
  induction x with
  | cons x l ihx ihl => intro s k h; obtain ⟨s1, h1⟩ := ihx (k := fun s => refV l s k) h; exact ihl h1
  | p id off => intro s k h; exact stK_ex h
  | sl id off len sz => intro s k h; exact stK_ex h
  | m id => intro s k h; exact stK_ex h
  | f g c ih => intro s k h; exact ih h
  | e t x ih => intro s k h; exact ih h
  | a l ih => intro s k h; exact ih h
  | t l ih => intro s k h; exact ih h
  | o t l a lo hi ih =>
    intro s k h
    have h : (Bool.rec (refV l s k) (stK V.nil (.b true) a s k) (Nat.beq t 3) : Bool) = true := h
    cases e : Nat.beq t 3 with
    | true => rw [e] at h; exact stK_ex h
    | false => rw [e] at h; exact ih h
  | _ => intro s k h; exact ⟨_, h⟩
theorem refE_ex : ∀ (x : E) {s : T V} {k : T V → Bool}, refE x s k = true → ∃ s', k s' = true := by
  intro x
  induction x with
  | nil => intro s k h; exact ⟨_, h⟩
  | cons a b n r ih =>
    intro s k h
    obtain ⟨s1, h1⟩ := refV_ex a (k := fun s => refV b s fun s => refE r s k) h
    obtain ⟨s2, h2⟩ := refV_ex b (k := fun s => refE r s k) h1
    exact ih h2
theorem refO_ex (x : O) {s : T V} {k : T V → Bool} (h : refO x s k = true) : ∃ s', k s' = true := by
  cases x with
  | c l ty wr => exact refV_ex l h
  | mp es c => exact refE_ex es h
  | v l ty => exact refV_ex l h
  | mi m a l b => exact refV_ex m h
  | _ => exact ⟨_, h⟩
theorem refT_ex : ∀ (t : T O) {s : T V} {k : T V → Bool}, refT t s k = true → ∃ s', k s' = true := by
  intro t
  induction t with
  | leaf => intro s k h; exact ⟨_, h⟩
  | node v l r ihl ihr =>
    intro s k h
    obtain ⟨s1, h1⟩ := refO_ex v (k := fun s => refT l s fun s => refT r s k) h
    obtain ⟨s2, h2⟩ := ihl (k := fun s => refT r s k) h1
    exact ihr h2
theorem St.less {h' : T O} {i : Nat} (s : St ρ h nx w) (hl : ∀ j, gt O.none j h' = gt O.none j h ∨ (i ≤ j ∧ gt O.none j h' = O.none)) : St ρ h' nx w := by
  have lv : ∀ j, (gt O.none j h').live → gt O.none j h' = gt O.none j h := fun j hj => by
    rcases hl j with e | ⟨_, e⟩
    · exact e
    · rw [e] at hj; exact hj.elim
  refine ⟨fun id L hi hL => ?_, fun i j L M hi hj => ?_, s.fresh, fun j hj hl' => ?_⟩
  · have e := lv id hi
    rw [e] at hi ⊢
    exact s.rel id L hi hL
  · have e1 := lv i (O.live_of_wr hi)
    have e2 := lv j hj
    rw [e1] at hi
    rw [e2] at hj
    exact s.inj i j L M hi hj
  · have e := lv j hl'
    rw [e] at hl'
    exact s.dead j hj hl'
theorem Ext.less {ρ0 : Ren} {h0 h' : T O} {nx0 : Nat} {w0 : World} (s0 : St ρ0 h0 nx0 w0) (x : Ext ρ0 h0 w0 ρ h w) (hl : ∀ j, gt O.none j h' = gt O.none j h ∨ (nx0 ≤ j ∧ gt O.none j h' = O.none)) : Ext ρ0 h0 w0 ρ h' w := by
  refine ⟨x.le, x.size, x.os, x.tape, x.output, fun b hb hw => ?_, fun id hi hn => ?_⟩
  · obtain ⟨h1, h2⟩ := x.kept b hb hw
    refine ⟨h1, fun id L hi hL => ?_⟩
    rcases hl id with e | ⟨_, e⟩
    · rw [e] at hi
      exact h2 id L hi hL
    · rw [e] at hi
      exact (O.live_of_wr hi).elim
  · obtain ⟨h1, h2⟩ := x.phant id hi hn
    refine ⟨h1, ?_⟩
    rcases hl id with e | ⟨e, _⟩
    · rw [e, h2]
    · exact absurd hi (s0.dead id e)
def hkNF (R : CK) (g : Nat) : HookF := fun args h nx K => R g args h nx (fun v h' n' => refV v .leaf fun s => refT h' s fun s => fgK s (Nat.sub n' nx) nx h' fun h' => nfT h' fun h' => nfV v fun v => forceN n' fun n' => Bool.rec false true (K v h' n')) (fun _ _ _ => false)
theorem hkNF_ok {R : CK} (hR : CKok P ng R) {g : Nat} : HookOk P ng g (hkNF R g) := by
  intro args h nx K Kp hk ρ w vs s gr hv
  intro o a next Q h1 _
  refine hR g args h nx _ _ hk ρ w vs s gr hv o a next Q (fun ρ' x h' nx' v w' hv' hs hx hk' => ?_) (fun ρ' x h' nx' v w' _ _ _ hk' => Bool.noConfusion hk')
  obtain ⟨s1, hk1⟩ := refV_ex x hk'
  obtain ⟨s2, hk1⟩ := refT_ex h' hk1
  obtain ⟨h2, hk2, hl⟩ := fgK_spec hk1
  rw [nfT_eq, nfV_eq, forceN_eq] at hk2
  have hk3 : K x h2 nx' = true := by
    cases e : K x h2 nx' with
    | true => rfl
    | false => rw [e] at hk2; exact Bool.noConfusion hk2
  exact h1 ρ' x h2 nx' v w' hv' (hs.less hl) (hx.less s hl) hk3
end
end Go.Mx
namespace Go.Mx
open Instr Builtin
noncomputable section
variable {P : Program} {ρ : Ren} {h : T O} {nx : Nat} {w : World} {ng : Nat}
def bN (b : Bool) : Nat := Bool.rec 0 1 b
theorem bN_inj {a b : Bool} (h : bN a = bN b) : a = b := by cases a <;> cases b <;> first | rfl | exact absurd h (by decide)
def encE (x : E) : V := E.rec (motive := fun _ => V) .nil (fun k v born _ ih => .cons (.o born (.cons k v) 0 0 0) ih) x
theorem encE_inj : ∀ {a b : E}, encE a = encE b → a = b := by
  intro a
  induction a with
  | nil => intro b h; cases b with
    | nil => rfl
    | cons => exact V.noConfusion h
  | cons k v n r ih =>
    intro b h
    cases b with
    | nil => exact V.noConfusion h
    | cons k' v' n' r' =>
      have h : V.cons (.o n (.cons k v) 0 0 0) (encE r) = V.cons (.o n' (.cons k' v') 0 0 0) (encE r') := h
      injection h with h1 h2
      injection h1 with g1 g2
      injection g2 with g3 g4
      rw [g1, g3, g4, ih h2]
def encO (x : O) : V := O.rec (motive := fun _ => V) .nil (fun l ty wr => .o 1 l ty (bN wr) 0) (fun es c => .o 2 (encE es) c 0 0) (fun l p => .o 3 (.s l) p 0 0) (fun l ty => .o 4 l ty 0 0) (fun m a l b => .o 5 (.cons m (.s l)) a b 0) (fun l ty wr => .o 6 l ty (bN wr) 0) x
theorem encO_inj {a b : O} (h : encO a = encO b) : a = b := by
  cases a with
  | none => cases b <;> first | rfl | exact V.noConfusion h
  | c l ty wr =>
    cases b <;> first | exact V.noConfusion h | skip
    case c l' ty' wr' =>
      have h : V.o 1 l ty (bN wr) 0 = V.o 1 l' ty' (bN wr') 0 := h
      injection h with _ h1 h2 h3
      rw [h1, h2, bN_inj h3]
    all_goals (have h' := h; unfold encO at h'; injection h' with e; exact absurd e (by decide))
  | mp es c =>
    cases b <;> first | exact V.noConfusion h | skip
    case mp es' c' =>
      have h : V.o 2 (encE es) c 0 0 = V.o 2 (encE es') c' 0 0 := h
      injection h with _ h1 h2
      rw [encE_inj h1, h2]
    all_goals (have h' := h; unfold encO at h'; injection h' with e; exact absurd e (by decide))
  | si l p =>
    cases b <;> first | exact V.noConfusion h | skip
    case si l' p' =>
      have h : V.o 3 (.s l) p 0 0 = V.o 3 (.s l') p' 0 0 := h
      injection h with _ h1 h2
      injection h1 with h1
      rw [h1, h2]
    all_goals (have h' := h; unfold encO at h'; injection h' with e; exact absurd e (by decide))
  | v l ty =>
    cases b <;> first | exact V.noConfusion h | skip
    case v l' ty' =>
      have h : V.o 4 l ty 0 0 = V.o 4 l' ty' 0 0 := h
      injection h with _ h1 h2
      rw [h1, h2]
    all_goals (have h' := h; unfold encO at h'; injection h' with e; exact absurd e (by decide))
  | mi m a l b1 =>
    cases b <;> first | exact V.noConfusion h | skip
    case mi m' a' l' b' =>
      have h : V.o 5 (.cons m (.s l)) a b1 0 = V.o 5 (.cons m' (.s l')) a' b' 0 := h
      injection h with _ h1 h2 h3
      injection h1 with h4 h5
      injection h5 with h5
      rw [h4, h5, h2, h3]
    all_goals (have h' := h; unfold encO at h'; injection h' with e; exact absurd e (by decide))
  | r l ty wr =>
    cases b <;> first | exact V.noConfusion h | skip
    case r l' ty' wr' =>
      have h : V.o 6 l ty (bN wr) 0 = V.o 6 l' ty' (bN wr') 0 := h
      injection h with _ h1 h2 h3
      rw [h1, h2, bN_inj h3]
    all_goals (have h' := h; unfold encO at h'; injection h' with e; exact absurd e (by decide))
def chk (n : Nat) : Nat → T O → T O → Bool := Nat.rec (motive := fun _ => Nat → T O → T O → Bool) (fun _ _ _ => true) (fun _ ih i a b => ite1 (sameV (encO (gt O.none i a)) (encO (gt O.none i b))) (ih (Nat.succ i) a b)) n
theorem chk_spec : ∀ {n i : Nat} {a b : T O}, chk n i a b = true → ∀ j, i ≤ j → j < i + n → gt O.none j a = gt O.none j b := by
  intro n
  induction n with
  | zero => intro i a b _ j h1 h2; omega
  | succ n ih =>
    intro i a b hk j h1 h2
    obtain ⟨e, hk2⟩ := ite1_spec (show ite1 (sameV (encO (gt O.none i a)) (encO (gt O.none i b))) (chk n (Nat.succ i) a b) = true from hk)
    by_cases e1 : j = i
    · subst e1; exact encO_inj (sameV_eq e)
    · exact ih hk2 j (by omega) (by omega)
def roO (o : O) : Bool := O.rec (motive := fun _ => Bool) true (fun _ _ wr => inot wr) (fun _ _ => false) (fun _ _ => false) (fun _ _ => false) (fun _ _ _ _ => false) (fun _ _ _ => false) o
def roK (n : Nat) : Nat → T O → Bool := Nat.rec (motive := fun _ => Nat → T O → Bool) (fun _ _ => true) (fun _ ih i h => ite1 (roO (gt O.none i h)) (ih (Nat.succ i) h)) n
theorem roK_spec : ∀ {n i : Nat} {a : T O}, roK n i a = true → ∀ j, i ≤ j → j < i + n → roO (gt O.none j a) = true := by
  intro n
  induction n with
  | zero => intro i a _ j h1 h2; omega
  | succ n ih =>
    intro i a hk j h1 h2
    obtain ⟨e, hk2⟩ := ite1_spec (show ite1 (roO (gt O.none i a)) (roK n (Nat.succ i) a) = true from hk)
    by_cases e1 : j = i
    · subst e1; exact e
    · exact ih hk2 j (by omega) (by omega)
def mgK (n : Nat) : Nat → T O → T O → (T O → Bool) → Bool := Nat.rec (motive := fun _ => Nat → T O → T O → (T O → Bool) → Bool) (fun _ _ b k => k b) (fun _ ih i a b k => stK O.none (gt O.none i a) i b fun b => ih (Nat.succ i) a b k) n
theorem mgK_spec : ∀ {n i : Nat} {a b : T O} {k : T O → Bool}, mgK n i a b k = true → ∃ c, k c = true ∧ ∀ j, gt O.none j c = if i ≤ j ∧ j < i + n then gt O.none j a else gt O.none j b := by
  intro n
  induction n with
  | zero => intro i a b k hk; exact ⟨b, hk, fun j => by rw [if_neg (by omega)]⟩
  | succ n ih =>
    intro i a b k hk
    have hk2 : stK O.none (gt O.none i a) i b (fun b => mgK n (Nat.succ i) a b k) = true := hk
    rw [stK_eq] at hk2
    obtain ⟨c, h1, h2⟩ := ih hk2
    refine ⟨c, h1, fun j => ?_⟩
    rw [h2 j]
    by_cases e : j = i
    · subst e
      rw [if_neg (by omega), if_pos ⟨Nat.le_refl _, by omega⟩, gt_st_same]
    · rw [gt_st_ne _ _ (Ne.symm e)]
      by_cases e2 : Nat.succ i ≤ j ∧ j < Nat.succ i + n
      · rw [if_pos e2, if_pos ⟨by omega, by omega⟩]
      · rw [if_neg e2, if_neg (by omega)]
def inL (lo hi : Nat) (l : List (Nat × O)) : Bool := l.all fun p => Nat.ble lo p.1 && Nat.blt p.1 hi
theorem inL_spec {lo hi : Nat} : ∀ {l : List (Nat × O)}, inL lo hi l = true → ∀ j, ¬ (lo ≤ j ∧ j < hi) → gt O.none j (putO l .leaf) = O.none
  | [], _, j, _ => gt_leaf _ _
  | p :: l, h, j, hj => by
    simp only [inL, List.all_cons, Bool.and_eq_true] at h
    have h1 := Nat.ble_eq.mp h.1.1
    have h2 := Nat.blt_eq.mp h.1.2
    show gt O.none j (st O.none p.2 p.1 (putO l .leaf)) = _
    rw [gt_st_ne _ _ (by omega)]
    exact inL_spec (l := l) (by simpa [inL] using h.2) j hj
def stepK (ng N : Nat) (v : V) (l1 : T O) (N1 : Nat) (v1 : V) (h1 : T O) (n1 : Nat) : Bool := refV v1 .leaf fun s => refT h1 s fun s => fgK s (Nat.sub n1 N) N h1 fun h1 => ite1 (sameV v1 v) <| ite1 (Nat.beq n1 N1) <| chk (Nat.sub N1 ng) ng h1 l1
def hkStep (ng : Nat) (l : List (Nat × V)) (A : V) (N : Nat) (l0 : T O) (v : V) (l1 : T O) (N1 : Nat) : HookF := fun args h nx K =>
  ite1 (sameV args A) <| ite1 (Nat.beq nx N) <| ite1 (roK ng 0 h) <| ite1 (chk (Nat.sub N ng) ng h l0) <| hasT l h <| mgK ng 0 h l1 fun h1 => K v h1 N1
theorem hkStep_ok (hm : P.follows .mixedOrders = true) (hn : NameOK P) {hk : Nat → Option HookF} (hh : HKok P ng hk) {n g : Nat} {l : List (Nat × V)} {A v : V} {l0 l1 : List (Nat × O)} {N N1 : Nat} (hl : inT ng l = true)
    (i0 : inL ng N l0 = true) (i1 : inL ng N1 l1 = true) (hN : Nat.ble ng N = true) (hN1 : Nat.ble N N1 = true)
    (hrun : ∀ τ, mkTK τ l (putO l0 .leaf) (fun h0 => run P ng hk n g A h0 N (stepK ng N v (putO l1 .leaf) N1) (fun _ _ _ => false)) = true) : HookOk P ng g (hkStep ng l A N (putO l0 .leaf) v (putO l1 .leaf) N1) := by
  intro args h nx K Kp hk1 ρ w vs s hg hv
  obtain ⟨e1, hk2⟩ := ite1_spec (show ite1 (sameV args A) (ite1 (Nat.beq nx N) <| ite1 (roK ng 0 h) <| ite1 (chk (Nat.sub N ng) ng h (putO l0 .leaf)) <| hasT l h <| mgK ng 0 h (putO l1 .leaf) fun h1 => K v h1 N1) = true from hk1)
  have e1 := sameV_eq e1
  subst e1
  obtain ⟨e2, hk3⟩ := ite1_spec hk2
  have e2 := Nat.eq_of_beq_eq_true e2
  subst e2
  obtain ⟨e3, hk4⟩ := ite1_spec hk3
  obtain ⟨e4, hk5⟩ := ite1_spec hk4
  obtain ⟨hk6, htab⟩ := hasT_spec hk5
  obtain ⟨hc, hk7, hc2⟩ := mgK_spec hk6
  have hN := Nat.ble_eq.mp hN
  have hN1 := Nat.ble_eq.mp hN1
  have ro := roK_spec e3
  have eq0 := chk_spec e4
  let τ : Nat → Nat := fun i => match gt O.none i h with
    | .c _ ty _ => ty
    | _ => 0
  have hrun := hrun τ
  rw [mkTK_eq] at hrun
  have hin := inT_spec hl
  have less : ∀ j, gt O.none j (mkTb τ l (putO l0 .leaf)) = gt O.none j h ∨ (j < ng ∧ gt O.none j (mkTb τ l (putO l0 .leaf)) = O.none) := fun j => by
    rcases mkT_at τ l (putO l0 .leaf) j with ⟨p, hp, rfl, e⟩ | ⟨_, e⟩
    · left
      have hlt := (hin p hp).1
      obtain ⟨ty, wr, ho⟩ := htab p hp
      have hr := ro p.1 (Nat.zero_le _) (by omega)
      rw [e]
      cases q : gt O.none p.1 h with
      | c l' ty' wr' =>
        rw [q] at hr ho
        have hw : wr' = false := by cases wr' with
          | false => rfl
          | true => exact Bool.noConfusion hr
        have ho : O.c l' ty' wr' = O.c p.2 ty wr := ho
        injection ho with a1 a2 a3
        have et : τ p.1 = ty' := by simp only [τ, q]
        rw [et, hw, a1]
        rfl
      | none => rw [q] at ho; exact O.noConfusion ho
      | _ => rw [q] at hr; exact Bool.noConfusion hr
    · rw [e]
      by_cases c1 : j < ng
      · exact .inr ⟨c1, inL_spec i0 j (by omega)⟩
      · left
        by_cases c2 : j < nx
        · exact (eq0 j (by omega) (by have z : Nat.sub nx ng = nx - ng := rfl; omega)).symm
        · rw [inL_spec i0 j (by omega)]
          have hd := s.dead j (by omega)
          cases q : gt O.none j h with
          | none => rfl
          | _ => rw [q] at hd; exact absurd trivial hd
  have sr : St ρ (mkTb τ l (putO l0 .leaf)) nx w := s.less (i := 0) fun j => (less j).imp id fun ⟨_, b⟩ => ⟨Nat.zero_le _, b⟩
  have up := run_sound hm hn hh n g args (mkTb τ l (putO l0 .leaf)) nx (stepK ng nx v (putO l1 .leaf) N1) (fun _ _ _ => false) hrun ρ w vs sr hg hv
  intro o a next Q h1 h2
  refine up o a next Q (fun ρ' y h' nx' v' w' hv' s' x' hky => ?_) (fun ρ' y h' nx' v w' _ _ _ hky => Bool.noConfusion hky)
  obtain ⟨s1, k1⟩ := refV_ex y hky
  obtain ⟨s2, k2⟩ := refT_ex h' k1
  obtain ⟨h3, k3, hl3⟩ := fgK_spec k2
  obtain ⟨f1, k4⟩ := ite1_spec (show ite1 (sameV y v) (ite1 (Nat.beq nx' N1) (chk (Nat.sub N1 ng) ng h3 (putO l1 .leaf))) = true from k3)
  obtain ⟨f2, k5⟩ := ite1_spec k4
  have f2 := Nat.eq_of_beq_eq_true f2
  have f1 := sameV_eq f1
  clear hky k1 k2 k3 k4
  subst f1
  subst f2
  have eq1 := chk_spec k5
  have s3 : St ρ' h3 nx' w' := s'.less hl3
  have x3 : Ext ρ (mkTb τ l (putO l0 .leaf)) w ρ' h3 w' := x'.less sr hl3
  have at1 : ∀ j, ng ≤ j → gt O.none j hc = gt O.none j h3 := fun j hj => by
    rw [hc2 j, if_neg (by omega)]
    by_cases c1 : j < nx'
    · exact (eq1 j hj (by have z : Nat.sub nx' ng = nx' - ng := rfl; omega)).symm
    · rw [inL_spec i1 j (by omega)]
      have hd := s3.dead j (by omega)
      cases q : gt O.none j h3 with
      | none => rfl
      | _ => rw [q] at hd; exact absurd trivial hd
  have at2 : ∀ j, j < ng → gt O.none j hc = gt O.none j h := fun j hj => by rw [hc2 j, if_pos ⟨Nat.zero_le _, by omega⟩]
  have nw : ∀ j, j < ng → ¬ (gt O.none j h).wr := fun j hj hw => by
    have hr := ro j (Nat.zero_le _) (by omega)
    cases q : gt O.none j h with
    | none => rw [q] at hw; exact hw.elim
    | c l' ty' wr' =>
      rw [q] at hr hw
      cases wr' with
      | false => exact Bool.noConfusion (show false = true from hw)
      | true => exact Bool.noConfusion hr
    | _ => rw [q] at hr; exact Bool.noConfusion hr
  have nw0 : ∀ j, (gt O.none j (mkTb τ l (putO l0 .leaf))).wr → ng ≤ j ∧ (gt O.none j h).wr := fun j hw => by
    rcases less j with e | ⟨_, e⟩
    · rw [e] at hw
      exact ⟨Nat.le_of_not_lt fun c => nw j c hw, hw⟩
    · rw [e] at hw; exact hw.elim
  have glob : ∀ j L, j < ng → ρ' j = some L → ρ j = some L := fun j L hj hL => by
    obtain ⟨L0, q1, _⟩ := hg j hj
    have q2 := x3.le _ _ q1
    rw [hL] at q2
    rw [q1, q2]
  have keptG : ∀ j L, j < ng → (gt O.none j h).live → ρ j = some L → ∃ o, w.heap[L.blk]? = some o ∧ w'.heap[L.blk]? = some o ∧ OR ρ L (gt O.none j h) o ∧ ∀ id M, (gt O.none id h3).wr → ρ' id = some M → M.blk ≠ L.blk := fun j L hj hlv hL => by
    obtain ⟨o, q1, q2⟩ := s.rel j L hlv hL
    have hb := (Array.getElem?_eq_some_iff.1 q1).1
    obtain ⟨k1, k2⟩ := x3.kept L.blk hb fun id M hw hM hbk => by
      obtain ⟨z1, z2⟩ := nw0 id hw
      have := s.inj id j M L z2 hlv hM hL hbk
      omega
    exact ⟨o, q1, by rw [k1, q1], q2, k2⟩
  refine h1 ρ' y hc nx' v' w' hv' ⟨fun id L hi hL => ?_, fun i j L M hi hj hL hM hb => ?_, s3.fresh, fun j hj hlv => ?_⟩ ⟨x3.le, x3.size, x3.os, x3.tape, x3.output, fun b hb hw => ?_, fun id hi hn0 => ?_⟩ hk7
  · by_cases c : id < ng
    · rw [at2 id c] at hi ⊢
      obtain ⟨o, _, q2, q3, _⟩ := keptG id L c hi (glob id L c hL)
      exact ⟨o, q2, q3.mono x3.le⟩
    · rw [at1 id (by omega)] at hi ⊢
      exact s3.rel id L hi hL
  · by_cases c : i < ng
    · rw [at2 i c] at hi
      exact absurd hi (nw i c)
    · rw [at1 i (by omega)] at hi
      by_cases c2 : j < ng
      · rw [at2 j c2] at hj
        obtain ⟨_, _, _, _, q⟩ := keptG j M c2 hj (glob j M c2 hM)
        exact absurd hb (q i L hi hL)
      · rw [at1 j (by omega)] at hj
        exact s3.inj i j L M hi hj hL hM hb
  · rw [at1 j (by omega)] at hlv
    exact s3.dead j hj hlv
  · obtain ⟨k1, k2⟩ := x3.kept b hb fun id L hw0 hL => hw id L (nw0 id hw0).2 hL
    refine ⟨k1, fun id L hi hL => ?_⟩
    by_cases c : id < ng
    · rw [at2 id c] at hi
      exact absurd hi (nw id c)
    · rw [at1 id (by omega)] at hi
      exact k2 id L hi hL
  · have c : ¬ id < ng := fun c => by
      obtain ⟨L0, q1, _⟩ := hg id c
      rw [hn0] at q1
      cases q1
    have e0 : gt O.none id (mkTb τ l (putO l0 .leaf)) = gt O.none id h := by
      rcases less id with e | ⟨e, _⟩
      · exact e
      · exact absurd e c
    obtain ⟨p1, p2⟩ := x3.phant id (by rw [e0]; exact hi) hn0
    exact ⟨p1, by rw [at1 id (by omega), p2, e0]⟩
def hkAt (N : Nat) (f e : HookF) : HookF := fun args h nx K => Bool.rec (e args h nx K) (f args h nx K) (Nat.beq nx N)
theorem hkAt_ok {g N : Nat} {f e : HookF} (hf : HookOk P ng g f) (he : HookOk P ng g e) : HookOk P ng g (hkAt N f e) := by
  intro args h nx K Kp hk
  have hk : (Bool.rec (e args h nx K) (f args h nx K) (Nat.beq nx N) : Bool) = true := hk
  cases q : Nat.beq nx N with
  | true => rw [q] at hk; exact hf args h nx K Kp hk
  | false => rw [q] at hk; exact he args h nx K Kp hk
end
end Go.Mx
namespace Go.Mx
open Instr Builtin
noncomputable section
variable {P : Program} {ρ : Ren} {h : T O} {nx : Nat} {w : World} {ng : Nat}
def cutR (N : Nat) (ρ : Ren) : Ren := fun i => if i < N then ρ i else none
def ltC (N : Nat) (c : V) : Bool := chain (M := Bool) true (fun x _ ih => V.rec (motive := fun _ => Bool) false (fun _ _ _ _ => false) (fun _ => false) (fun _ _ => ih) (fun _ => false) (fun _ _ => false) false (fun _ _ _ _ => false) false false false (fun _ => false) false (fun _ _ _ => false) false (fun _ _ _ => false) false (fun _ _ => false) (fun _ _ => false)
  (fun a _ _ _ => ite1 (Nat.blt a N) ih) (fun _ _ => false) (fun _ _ _ _ _ => false) (fun _ _ _ _ _ _ => false) x) c
theorem ltC_spec {N : Nat} : ∀ {c : V} {vs : List Value}, ltC N c = true → VRs ρ c vs → VRs (cutR N ρ) c vs := by
  intro c
  induction c with
  | nil => intro vs _ h; exact h
  | cons x r _ ih =>
    intro vs hk h
    simp only [VRs] at h ⊢
    obtain ⟨y, ys, rfl, h1, h2⟩ := h
    cases x <;> first | exact Bool.noConfusion hk | skip
    case i kd n _ => exact ⟨y, ys, rfl, h1, ih hk h2⟩
    case x a kd lo hi _ =>
      obtain ⟨e, hk2⟩ := ite1_spec (show ite1 (Nat.blt a N) (ltC N r) = true from hk)
      have e := Nat.blt_eq.mp e
      refine ⟨y, ys, rfl, ?_, ih hk2 h2⟩
      simp only [VR] at h1 ⊢
      obtain ⟨L, q1, q2⟩ := h1
      exact ⟨L, by simp [cutR, e, q1], q2⟩
  | _ => intro vs _ h; simp only [VRs] at h
def argOk (N : Nat) (A : V) : Bool := V.rec (motive := fun _ => Bool) false (fun _ _ _ _ => false) (fun _ => false) (fun _ _ => false) (fun _ => true) (fun _ _ => false) false (fun _ _ _ _ => false) false false false (fun _ => false) false (fun _ _ _ => false) false (fun _ _ _ => false) false (fun _ _ => false) (fun _ _ => false)
  (fun _ _ _ _ => false) (fun c _ => ltC N c) (fun _ _ _ _ _ => false) (fun _ _ _ _ _ _ => false) A
theorem argOk_spec {N : Nat} {A : V} {v : Value} (hk : argOk N A = true) (h : VR ρ A v) : VR (cutR N ρ) A v := by
  cases A <;> first | exact Bool.noConfusion hk | skip
  case s l => simp only [VR] at h ⊢; exact h
  case w c =>
    simp only [VR] at h ⊢
    obtain ⟨b, h1, h2⟩ := h
    exact ⟨b, h1, ltC_spec hk h2⟩
def memoA (l : List (Nat × V)) (A : V) (x : Bool) (e : HookF) : HookF := fun args h nx K => arg0 args fun y r => Bool.rec (e args h nx K) (chain (M := Bool) (hasT l h (K (.b x) h nx)) (fun _ _ _ => false) r) (sameV y A)
theorem memoA_ok (hm : P.follows .mixedOrders = true) (hn : NameOK P) {hk : Nat → Option HookF} (hh : HKok P ng hk) {n g N : Nat} {l : List (Nat × V)} {A : V} {x : Bool} {e : HookF} (he : HookOk P ng g e) (hl : inT ng l = true) (hN : Nat.ble ng N = true) (hA : argOk N A = true)
    (hrun : ∀ τ, mkTK τ l .leaf (fun h0 => run P ng hk n g (.cons A .nil) h0 N (fun v _ _ => isB x v) (fun _ _ _ => false)) = true) : HookOk P ng g (memoA l A x e) := by
  intro args h nx K Kp hk1 ρ w vs s hg hv
  obtain ⟨y, r, rfl, hk2⟩ := arg0_spec hk1
  cases q : sameV y A with
  | false =>
    rw [q] at hk2
    exact he _ h nx K Kp hk2 ρ w vs s hg hv
  | true =>
  rw [q] at hk2
  have q := sameV_eq q
  subst q
  have hN := Nat.ble_eq.mp hN
  have hv0 := hv
  simp only [VRs] at hv
  obtain ⟨v1, l1, rfl, hv1, hv2⟩ := hv
  cases r <;> first | (simp only [VRs] at hv2; done) | exact Bool.noConfusion hk2 | skip
  simp only [VRs] at hv2
  subst hv2
  obtain ⟨hkk, htab⟩ := hasT_spec (show hasT l h (K (.b x) h nx) = true from hk2)
  let τ : Nat → Nat := fun i => match asC (gt O.none i h) with
    | .c _ ty _ => ty
    | _ => 0
  have hrun := hrun τ
  rw [mkTK_eq] at hrun
  have hin := inT_spec hl
  have at0 := mkT_at τ l (.leaf : T O)
  have live0 : ∀ i, (gt O.none i (mkTb τ l .leaf)).live → ∃ p ∈ l, p.1 = i ∧ gt O.none i (mkTb τ l .leaf) = tabO p.2 (τ i) := fun i hi => by
    rcases at0 i with h1 | ⟨_, h2⟩
    · exact h1
    · rw [h2, gt_leaf] at hi; exact hi.elim
  have nowr : ∀ i, ¬ (gt O.none i (mkTb τ l .leaf)).wr := fun i hi => by
    obtain ⟨p, _, _, e⟩ := live0 i (O.live_of_wr hi)
    rw [e] at hi
    exact Bool.noConfusion (show false = true from hi)
  have sr : St (cutR N ρ) (mkTb τ l .leaf) N w := by
    refine ⟨fun id L hi hL => ?_, fun i j L M hi => (nowr i hi).elim, fun i hi => ?_, fun i hi hl' => ?_⟩
    · obtain ⟨p, hp, rfl, e⟩ := live0 id hi
      have hlt := (hin p hp).1
      have hlN : p.1 < N := by omega
      have hL' : ρ p.1 = some L := by simpa [cutR, hlN] using hL
      obtain ⟨ty, wr, ho⟩ := htab p hp
      obtain ⟨o, h1, h2⟩ := s.relC ho hL'
      refine ⟨o, h1, ?_⟩
      have et : τ p.1 = ty := by simp only [τ, ho]
      rw [e, et]
      obtain ⟨arr, fz, q1, q2, q3, q4, q5⟩ := h2
      exact ⟨arr, fz, q1, q2, (fun hf => by cases hf), q4, plain_CR (hin p hp).2 q5⟩
    · have : ¬ i < N := by omega
      simp [cutR, this]
    · obtain ⟨p, hp, rfl, e⟩ := live0 i hl'
      have := (hin p hp).1
      omega
  have gr : RG ng (cutR N ρ) := fun i hi => by
    obtain ⟨L, h1, h2, h3⟩ := hg i hi
    have hiN : i < N := by omega
    exact ⟨L, by simpa [cutR, hiN] using h1, h2, h3⟩
  have up := run_sound hm hn hh n g (.cons y .nil) (mkTb τ l .leaf) N (fun v _ _ => isB x v) (fun _ _ _ => false) hrun (cutR N ρ) w [v1] sr gr (by simp only [VRs]; exact ⟨_, _, rfl, argOk_spec hA hv1, rfl⟩)
  intro o a next Q h1 h2
  refine up o a next Q (fun ρ' z h' nx' v w' hv' _ hx hky => ?_) (fun ρ' z h' nx' v w' _ _ _ hky => Bool.noConfusion hky)
  obtain ⟨b, rfl, hb⟩ := vB_spec (show vB z (fun b => bs_eq b x) = true from hky)
  have hbx : b = x := by cases b <;> cases x <;> first | rfl | exact Bool.noConfusion hb
  subst hbx
  simp only [VR] at hv'
  subst hv'
  have kept : ∀ b, b < w.heap.size → w'.heap[b]? = w.heap[b]? := fun b hb => (hx.kept b hb fun id L hw _ => (nowr id hw).elim).1
  have keptL : ∀ {L : Loc} {o : Obj}, w.heap[L.blk]? = some o → w'.heap[L.blk]? = some o := fun {L o} ho => by
    rw [kept L.blk (Array.getElem?_eq_some_iff.1 ho).1]; exact ho
  refine h1 ρ (.b b) h nx (.bool b) w' (by simp only [VR]) ⟨fun id L hi hL => ?_, s.inj, s.fresh, s.dead⟩ ⟨Ren.le.refl _, hx.size, hx.os, hx.tape, hx.output, fun b hb hk => ⟨kept b hb, hk⟩, fun _ _ k => ⟨k, rfl⟩⟩ hkk
  obtain ⟨o, g1, g2⟩ := s.rel id L hi hL
  exact ⟨o, keptL g1, g2⟩
def hkRun (R : CK) (g : Nat) : HookF := fun args h nx K => R g args h nx K (fun _ _ _ => false)
theorem hkRun_ok {R : CK} (hR : CKok P ng R) {g : Nat} : HookOk P ng g (hkRun R g) := by
  intro args h nx K Kp hk ρ w vs s gr hv
  intro o a next Q h1 _
  exact hR g args h nx K _ hk ρ w vs s gr hv o a next Q h1 (fun ρ' z h' nx' v w' _ _ _ hky => Bool.noConfusion hky)
end
end Go.Mx
