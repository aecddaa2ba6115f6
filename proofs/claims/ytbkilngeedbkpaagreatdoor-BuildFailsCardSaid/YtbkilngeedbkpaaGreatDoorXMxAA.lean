/-
  A part of a small executor of the model, proved sound (22 of 33). No condition.
-/
import Derived.Test.YtbkilngeedbkpaaGreatDoorXMxX
namespace Go.Mx
open Instr Builtin
noncomputable section
variable {P : Program} {ρ : Ren} {h : T O} {nx : Nat} {w : World} {ng : Nat}
def kindK (k : IntKind) : (IntKind → Bool) → Bool := IntKind.rec (motive := fun _ => (IntKind → Bool) → Bool) (fun c => c .i8) (fun c => c .i16) (fun c => c .i32) (fun c => c .i64) (fun c => c .u8) (fun c => c .u16) (fun c => c .u32) (fun c => c .u64) k
theorem kindK_eq (k : IntKind) (c : IntKind → Bool) : kindK k c = c k := by cases k <;> rfl
def nlK (l : List Nat) : (List Nat → Bool) → Bool := List.rec (motive := fun _ => (List Nat → Bool) → Bool) (fun k => k []) (fun x _ ih k => forceN x fun x => ih fun l => k (x :: l)) l
theorem nlK_eq : ∀ (l : List Nat) (k : List Nat → Bool), nlK l k = k l
  | [], _ => rfl
  | x :: l, k => by
    show forceN x (fun x => nlK l fun l => k (x :: l)) = _
    rw [forceN_eq, nlK_eq l]
def boolK (b : Bool) (k : Bool → Bool) : Bool := Bool.rec (k false) (k true) b
theorem boolK_eq (b : Bool) (k : Bool → Bool) : boolK b k = k b := by cases b <;> rfl
def nfV (x : V) : (V → Bool) → Bool := V.rec (motive := fun _ => (V → Bool) → Bool)
  (fun k => k .nil)
  (fun _ _ ihx ihl k => ihx fun x => ihl fun l => k (.cons x l))
  (fun b k => boolK b fun b => k (.b b))
  (fun kd n k => kindK kd fun kd => forceI n fun n => k (.i kd n))
  (fun l k => nlK l fun l => k (.s l))
  (fun id off k => forceN id fun id => forceN off fun off => k (.p id off))
  (fun k => k .pn)
  (fun id off len sz k => forceN id fun id => forceN off fun off => forceN len fun len => forceN sz fun sz => k (.sl id off len sz))
  (fun k => k .sn) (fun k => k .se) (fun k => k .s0)
  (fun id k => forceN id fun id => k (.m id))
  (fun k => k .mn)
  (fun g _ ih k => forceN g fun g => ih fun c => k (.f g c))
  (fun k => k .fn)
  (fun t _ ih k => forceN t fun t => ih fun x => k (.e t x))
  (fun k => k .en)
  (fun _ ih k => ih fun l => k (.a l))
  (fun _ ih k => ih fun l => k (.t l))
  (fun a kd lo hi k => forceN a fun a => kindK kd fun kd => forceN lo fun lo => forceN hi fun hi => k (.x a kd lo hi))
  (fun _ ih k => ih fun l => k (.w l))
  (fun _ a lo hi ih k => ih fun l => forceN a fun a => forceN lo fun lo => forceN hi fun hi => k (.y l a lo hi))
  (fun t _ a lo hi ih k => forceN t fun t => ih fun l => forceN a fun a => forceN lo fun lo => forceN hi fun hi => k (.o t l a lo hi)) x
theorem nfV_eq : ∀ (x : V) (k : V → Bool), nfV x k = k x := by
  intro x
  induction x with
  | cons x l ihx ihl => intro k; show nfV x (fun x => nfV l fun l => k (.cons x l)) = _; rw [ihx, ihl]
  | b b => intro k; show boolK b (fun b => k (.b b)) = _; rw [boolK_eq]
  | i kd n => intro k; show kindK kd (fun kd => forceI n fun n => k (.i kd n)) = _; rw [kindK_eq, forceI_eq]
  | s l => intro k; show nlK l (fun l => k (.s l)) = _; rw [nlK_eq]
  | p id off => intro k; show forceN id (fun id => forceN off fun off => k (.p id off)) = _; rw [forceN_eq, forceN_eq]
  | sl id off len sz => intro k; show forceN id (fun id => forceN off fun off => forceN len fun len => forceN sz fun sz => k (.sl id off len sz)) = _; rw [forceN_eq, forceN_eq, forceN_eq, forceN_eq]
  | m id => intro k; show forceN id (fun id => k (.m id)) = _; rw [forceN_eq]
  | f g c ih => intro k; show forceN g (fun g => nfV c fun c => k (.f g c)) = _; rw [forceN_eq, ih]
  | e t x ih => intro k; show forceN t (fun t => nfV x fun x => k (.e t x)) = _; rw [forceN_eq, ih]
  | a l ih => intro k; show nfV l (fun l => k (.a l)) = _; rw [ih]
  | t l ih => intro k; show nfV l (fun l => k (.t l)) = _; rw [ih]
  | x a kd lo hi => intro k; show forceN a (fun a => kindK kd fun kd => forceN lo fun lo => forceN hi fun hi => k (.x a kd lo hi)) = _; rw [forceN_eq, kindK_eq, forceN_eq, forceN_eq]
  | w l ih => intro k; show nfV l (fun l => k (.w l)) = _; rw [ih]
  | y l a lo hi ih => intro k; show nfV l (fun l => forceN a fun a => forceN lo fun lo => forceN hi fun hi => k (.y l a lo hi)) = _; rw [ih, forceN_eq, forceN_eq, forceN_eq]
  | o t l a lo hi ih => intro k; show forceN t (fun t => nfV l fun l => forceN a fun a => forceN lo fun lo => forceN hi fun hi => k (.o t l a lo hi)) = _; rw [forceN_eq, ih, forceN_eq, forceN_eq, forceN_eq]
  | _ => intro k; rfl
def nfE (x : E) : (E → Bool) → Bool := E.rec (motive := fun _ => (E → Bool) → Bool) (fun k => k .nil) (fun a b n _ ih k => nfV a fun a => nfV b fun b => forceN n fun n => ih fun r => k (.cons a b n r)) x
theorem nfE_eq : ∀ (x : E) (k : E → Bool), nfE x k = k x := by
  intro x
  induction x with
  | nil => intro k; rfl
  | cons a b n r ih => intro k; show nfV a (fun a => nfV b fun b => forceN n fun n => nfE r fun r => k (.cons a b n r)) = _; rw [nfV_eq, nfV_eq, forceN_eq, ih]
def nfO (x : O) : (O → Bool) → Bool := O.rec (motive := fun _ => (O → Bool) → Bool) (fun k => k .none)
  (fun l ty wr k => nfV l fun l => Bool.rec (k (.c l ty false)) (forceN ty fun ty => k (.c l ty true)) wr) (fun es c k => nfE es fun es => forceN c fun c => k (.mp es c)) (fun l p k => nlK l fun l => forceN p fun p => k (.si l p))
  (fun l ty k => nfV l fun l => forceN ty fun ty => k (.v l ty)) (fun m a l b k => nfV m fun m => forceN a fun a => nlK l fun l => forceN b fun b => k (.mi m a l b)) (fun l ty wr k => nfV l fun l => Bool.rec (k (.r l ty false)) (forceN ty fun ty => k (.r l ty true)) wr) x
theorem nfO_eq (x : O) (k : O → Bool) : nfO x k = k x := by
  cases x with
  | none => rfl
  | c l ty wr => show nfV l (fun l => Bool.rec (k (.c l ty false)) (forceN ty fun ty => k (.c l ty true)) wr) = _; rw [nfV_eq]; cases wr; rfl; exact forceN_eq _ _
  | mp es c => show nfE es (fun es => forceN c fun c => k (.mp es c)) = _; rw [nfE_eq, forceN_eq]
  | si l p => show nlK l (fun l => forceN p fun p => k (.si l p)) = _; rw [nlK_eq, forceN_eq]
  | v l ty => show nfV l (fun l => forceN ty fun ty => k (.v l ty)) = _; rw [nfV_eq, forceN_eq]
  | mi m a l b => show nfV m (fun m => forceN a fun a => nlK l fun l => forceN b fun b => k (.mi m a l b)) = _; rw [nfV_eq, forceN_eq, nlK_eq, forceN_eq]
  | r l ty wr => show nfV l (fun l => Bool.rec (k (.r l ty false)) (forceN ty fun ty => k (.r l ty true)) wr) = _; rw [nfV_eq]; cases wr; rfl; exact forceN_eq _ _
def nfT (t : T O) : (T O → Bool) → Bool := T.rec (motive := fun _ => (T O → Bool) → Bool) (fun k => k .leaf) (fun v _ _ ihl ihr k => nfO v fun v => ihl fun l => ihr fun r => k (.node v l r)) t
theorem nfT_eq : ∀ (t : T O) (k : T O → Bool), nfT t k = k t := by
  intro t
  induction t with
  | leaf => intro k; rfl
  | node v l r ihl ihr => intro k; show nfO v (fun v => nfT l fun l => nfT r fun r => k (.node v l r)) = _; rw [nfO_eq, ihl, ihr]
def refV (x : V) : T V → (T V → Bool) → Bool := V.rec (motive := fun _ => T V → (T V → Bool) → Bool)
  (fun s k => k s) (fun _ _ ihx ihl s k => ihx s fun s => ihl s k) (fun _ s k => k s) (fun _ _ s k => k s) (fun _ s k => k s)
  (fun id _ s k => stK V.nil (.b true) id s k) (fun s k => k s) (fun id _ _ _ s k => stK V.nil (.b true) id s k) (fun s k => k s) (fun s k => k s) (fun s k => k s)
  (fun id s k => stK V.nil (.b true) id s k) (fun s k => k s) (fun _ _ ih s k => ih s k) (fun s k => k s) (fun _ _ ih s k => ih s k) (fun s k => k s)
  (fun _ ih s k => ih s k) (fun _ ih s k => ih s k) (fun _ _ _ _ s k => k s) (fun _ _ s k => k s) (fun _ _ _ _ _ s k => k s)
  (fun t _ a _ _ ih s k => Bool.rec (ih s k) (stK V.nil (.b true) a s k) (Nat.beq t 3)) x
def refE (x : E) : T V → (T V → Bool) → Bool := E.rec (motive := fun _ => T V → (T V → Bool) → Bool) (fun s k => k s) (fun a b _ _ ih s k => refV a s fun s => refV b s fun s => ih s k) x
def refO (x : O) : T V → (T V → Bool) → Bool := O.rec (motive := fun _ => T V → (T V → Bool) → Bool) (fun s k => k s) (fun l _ _ s k => refV l s k) (fun es _ s k => refE es s k) (fun _ _ s k => k s) (fun l _ s k => refV l s k) (fun m _ _ _ s k => refV m s k) (fun _ _ _ s k => k s) x
def refT (t : T O) : T V → (T V → Bool) → Bool := T.rec (motive := fun _ => T V → (T V → Bool) → Bool) (fun s k => k s) (fun v _ _ ihl ihr s k => refO v s fun s => ihl s fun s => ihr s k) t
def isTrue (x : V) : Bool := vB x fun b => b
def fgK (s : T V) (n : Nat) : Nat → T O → (T O → Bool) → Bool := Nat.rec (motive := fun _ => Nat → T O → (T O → Bool) → Bool) (fun _ h k => k h)
  (fun _ ih i h k => Bool.rec (stK O.none O.none i h fun h => ih (Nat.succ i) h k) (ih (Nat.succ i) h k) (isTrue (gt V.nil i s))) n
theorem fgK_spec {s : T V} : ∀ {n i : Nat} {h : T O} {k : T O → Bool}, fgK s n i h k = true → ∃ h', k h' = true ∧ ∀ j, gt O.none j h' = gt O.none j h ∨ (i ≤ j ∧ gt O.none j h' = O.none) := by
  intro n
  induction n with
  | zero => intro i h k hk; exact ⟨h, hk, fun j => .inl rfl⟩
  | succ n ih =>
    intro i h k hk
    have hk' : (Bool.rec (stK O.none O.none i h fun h => fgK s n (Nat.succ i) h k) (fgK s n (Nat.succ i) h k) (isTrue (gt V.nil i s)) : Bool) = true := hk
    cases e : isTrue (gt V.nil i s) with
    | true =>
      rw [e] at hk'
      obtain ⟨h', h1, h2⟩ := ih hk'
      exact ⟨h', h1, fun j => (h2 j).imp id fun ⟨a, b⟩ => ⟨by omega, b⟩⟩
    | false =>
      rw [e] at hk'
      have hk2 : stK O.none O.none i h (fun h => fgK s n (Nat.succ i) h k) = true := hk'
      rw [stK_eq] at hk2
      obtain ⟨h', h1, h2⟩ := ih hk2
      refine ⟨h', h1, fun j => ?_⟩
      rcases h2 j with h3 | ⟨h3, h4⟩
      · by_cases hj : j = i
        · subst hj
          rw [gt_st_same] at h3
          exact .inr ⟨Nat.le_refl _, h3⟩
        · rw [gt_st_ne _ _ (Ne.symm hj)] at h3
          exact .inl h3
      · exact .inr ⟨by omega, h4⟩
theorem stK_ex {x : V} {i : Nat} {s : T V} {k : T V → Bool} (h : stK V.nil x i s k = true) : ∃ s', k s' = true := by
  rw [stK_eq] at h
  exact ⟨_, h⟩
theorem refV_ex : ∀ (x : V) {s : T V} {k : T V → Bool}, refV x s k = true → ∃ s', k s' = true := by
  intro x
  induction x with
  | cons x l ihx ihl => intro s k h; obtain ⟨s1, h1⟩ := ihx (k := fun s => refV l s k) h; exact ihl h1
  | p id off => intro s k h; exact stK_ex h
  | sl id off len sz => intro s k h; exact stK_ex h
  | m id => intro s k h; exact stK_ex h
  | f g c ih => intro s k h; exact ih h
  | e t x ih => intro s k h; exact ih h
  | a l ih => intro s k h; exact ih h
  | t l ih => intro s k h; exact ih h
  | o t l a lo hi ih =>
    intro s k h
    have h : (Bool.rec (refV l s k) (stK V.nil (.b true) a s k) (Nat.beq t 3) : Bool) = true := h
    cases e : Nat.beq t 3 with
    | true => rw [e] at h; exact stK_ex h
    | false => rw [e] at h; exact ih h
  | _ => intro s k h; exact ⟨_, h⟩
theorem refE_ex : ∀ (x : E) {s : T V} {k : T V → Bool}, refE x s k = true → ∃ s', k s' = true := by
  intro x
  induction x with
  | nil => intro s k h; exact ⟨_, h⟩
  | cons a b n r ih =>
    intro s k h
    obtain ⟨s1, h1⟩ := refV_ex a (k := fun s => refV b s fun s => refE r s k) h
    obtain ⟨s2, h2⟩ := refV_ex b (k := fun s => refE r s k) h1
    exact ih h2
theorem refO_ex (x : O) {s : T V} {k : T V → Bool} (h : refO x s k = true) : ∃ s', k s' = true := by
  cases x with
  | c l ty wr => exact refV_ex l h
  | mp es c => exact refE_ex es h
  | v l ty => exact refV_ex l h
  | mi m a l b => exact refV_ex m h
  | _ => exact ⟨_, h⟩
theorem refT_ex : ∀ (t : T O) {s : T V} {k : T V → Bool}, refT t s k = true → ∃ s', k s' = true := by
  intro t
  induction t with
  | leaf => intro s k h; exact ⟨_, h⟩
  | node v l r ihl ihr =>
    intro s k h
    obtain ⟨s1, h1⟩ := refO_ex v (k := fun s => refT l s fun s => refT r s k) h
    obtain ⟨s2, h2⟩ := ihl (k := fun s => refT r s k) h1
    exact ihr h2
theorem St.less {h' : T O} {i : Nat} (s : St ρ h nx w) (hl : ∀ j, gt O.none j h' = gt O.none j h ∨ (i ≤ j ∧ gt O.none j h' = O.none)) : St ρ h' nx w := by
  have lv : ∀ j, (gt O.none j h').live → gt O.none j h' = gt O.none j h := fun j hj => by
    rcases hl j with e | ⟨_, e⟩
    · exact e
    · rw [e] at hj; exact hj.elim
  refine ⟨fun id L hi hL => ?_, fun i j L M hi hj => ?_, s.fresh, fun j hj hl' => ?_⟩
  · have e := lv id hi
    rw [e] at hi ⊢
    exact s.rel id L hi hL
  · have e1 := lv i (O.live_of_wr hi)
    have e2 := lv j hj
    rw [e1] at hi
    rw [e2] at hj
    exact s.inj i j L M hi hj
  · have e := lv j hl'
    rw [e] at hl'
    exact s.dead j hj hl'
theorem Ext.less {ρ0 : Ren} {h0 h' : T O} {nx0 : Nat} {w0 : World} (s0 : St ρ0 h0 nx0 w0) (x : Ext ρ0 h0 w0 ρ h w) (hl : ∀ j, gt O.none j h' = gt O.none j h ∨ (nx0 ≤ j ∧ gt O.none j h' = O.none)) : Ext ρ0 h0 w0 ρ h' w := by
  refine ⟨x.le, x.size, x.os, x.tape, x.output, fun b hb hw => ?_, fun id hi hn => ?_⟩
  · obtain ⟨h1, h2⟩ := x.kept b hb hw
    refine ⟨h1, fun id L hi hL => ?_⟩
    rcases hl id with e | ⟨_, e⟩
    · rw [e] at hi
      exact h2 id L hi hL
    · rw [e] at hi
      exact (O.live_of_wr hi).elim
  · obtain ⟨h1, h2⟩ := x.phant id hi hn
    refine ⟨h1, ?_⟩
    rcases hl id with e | ⟨e, _⟩
    · rw [e, h2]
    · exact absurd hi (s0.dead id e)
def hkNF (R : CK) (g : Nat) : HookF := fun args h nx K => R g args h nx (fun v h' n' => refV v .leaf fun s => refT h' s fun s => fgK s (Nat.sub n' nx) nx h' fun h' => nfT h' fun h' => nfV v fun v => forceN n' fun n' => Bool.rec false true (K v h' n')) (fun _ _ _ => false)
theorem hkNF_ok {R : CK} (hR : CKok P ng R) {g : Nat} : HookOk P ng g (hkNF R g) := by
  intro args h nx K Kp hk ρ w vs s gr hv
  intro o a next Q h1 _
  refine hR g args h nx _ _ hk ρ w vs s gr hv o a next Q (fun ρ' x h' nx' v w' hv' hs hx hk' => ?_) (fun ρ' x h' nx' v w' _ _ _ hk' => Bool.noConfusion hk')
  obtain ⟨s1, hk1⟩ := refV_ex x hk'
  obtain ⟨s2, hk1⟩ := refT_ex h' hk1
  obtain ⟨h2, hk2, hl⟩ := fgK_spec hk1
  rw [nfT_eq, nfV_eq, forceN_eq] at hk2
  have hk3 : K x h2 nx' = true := by
    cases e : K x h2 nx' with
    | true => rfl
    | false => rw [e] at hk2; exact Bool.noConfusion hk2
  exact h1 ρ' x h2 nx' v w' hv' (hs.less hl) (hx.less s hl) hk3
end
end Go.Mx
namespace Go.Mx
open Instr Builtin
noncomputable section
variable {P : Program} {ρ : Ren} {h : T O} {nx : Nat} {w : World} {ng : Nat}
def hkRun (R : CK) (g : Nat) : HookF := fun args h nx K => R g args h nx K (fun _ _ _ => false)
theorem hkRun_ok {R : CK} (hR : CKok P ng R) {g : Nat} : HookOk P ng g (hkRun R g) := by
  intro args h nx K Kp hk ρ w vs s gr hv
  intro o a next Q h1 _
  exact hR g args h nx K _ hk ρ w vs s gr hv o a next Q h1 (fun ρ' z h' nx' v w' _ _ _ hky => Bool.noConfusion hky)
end
end Go.Mx
