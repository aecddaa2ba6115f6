/-
  A part of a small executor of the model, proved sound (Mx19 of 46). No condition.
-/
import Derived.Test.YtmplmfieipckjaaGreatDoorXMx18
import Derived.Test.YtmplmfieipckjaaGreatDoorXMx5
namespace Go.Mx
noncomputable section
variable {α β : Type}
def LinK (F : (α → Bool) → Bool) : Prop := (∀ K, F K = false) ∨ ∃ y, ∀ K, F K = K y
theorem lin_no : LinK (α := α) fun _ => false := .inl fun _ => rfl
theorem lin_k (y : α) : LinK fun K => K y := .inr ⟨y, fun _ => rfl⟩
theorem lin_bind {F : (α → Bool) → Bool} {G : α → (β → Bool) → Bool} (hF : LinK F) (hG : ∀ x, LinK (G x)) : LinK fun K => F fun x => G x K := by
  rcases hF with h | ⟨y, h⟩
  · exact .inl fun K => h _
  · rcases hG y with g | ⟨z, g⟩
    · exact .inl fun K => (h _).trans (g K)
    · exact .inr ⟨z, fun K => (h _).trans (g K)⟩
theorem lin_ite1 (c : Bool) {G : (β → Bool) → Bool} (hG : LinK G) : LinK fun K => ite1 c (G K) := by
  cases c
  · exact .inl fun _ => rfl
  · exact hG
theorem lin_bool (c : Bool) {A B : (β → Bool) → Bool} (hA : LinK A) (hB : LinK B) : LinK fun K => (Bool.rec (A K) (B K) c : Bool) := by
  cases c
  · exact hA
  · exact hB
theorem lin_vB (v : V) {G : Bool → (β → Bool) → Bool} (hG : ∀ x, LinK (G x)) : LinK fun K => vB v fun x => G x K := by
  cases v <;> first | exact .inl fun _ => rfl | exact hG _
theorem lin_vI (v : V) {G : IntKind → Int → (β → Bool) → Bool} (hG : ∀ x y, LinK (G x y)) : LinK fun K => vI v fun x y => G x y K := by
  cases v <;> first | exact .inl fun _ => rfl | exact hG _ _
theorem lin_vS (v : V) {G : List Nat → (β → Bool) → Bool} (hG : ∀ x, LinK (G x)) : LinK fun K => vS v fun x => G x K := by
  cases v <;> first | exact .inl fun _ => rfl | exact hG _
theorem lin_vP (v : V) {G : Nat → Nat → (β → Bool) → Bool} (hG : ∀ x y, LinK (G x y)) : LinK fun K => vP v fun x y => G x y K := by
  cases v <;> first | exact .inl fun _ => rfl | exact hG _ _
theorem lin_vA (v : V) {G : V → (β → Bool) → Bool} (hG : ∀ x, LinK (G x)) : LinK fun K => vA v fun x => G x K := by
  cases v <;> first | exact .inl fun _ => rfl | exact hG _
theorem lin_vT (v : V) {G : V → (β → Bool) → Bool} (hG : ∀ x, LinK (G x)) : LinK fun K => vT v fun x => G x K := by
  cases v <;> first | exact .inl fun _ => rfl | exact hG _
theorem lin_vN (v : V) {G : Nat → (β → Bool) → Bool} (hG : ∀ x, LinK (G x)) : LinK fun K => vN v fun x => G x K :=
  lin_vI v fun _ n => by cases n <;> first | exact hG _ | exact .inl fun _ => rfl
theorem lin_cellsK (v : V) : LinK (cellsK v) := by
  cases v <;> first | exact .inl fun _ => rfl | exact lin_k _
theorem lin_oC (o : O) {G : V → Nat → Bool → (β → Bool) → Bool} (hG : ∀ x y z, LinK (G x y z)) : LinK fun K => oC o fun x y z => G x y z K := by
  cases o <;> first | exact .inl fun _ => rfl | exact hG _ _ _
theorem lin_oW (o : O) {G : V → Nat → Bool → (β → Bool) → Bool} {G2 : V → Nat → (β → Bool) → Bool} (hG : ∀ x y z, LinK (G x y z)) (hG2 : ∀ x y, LinK (G2 x y)) : LinK fun K => oW o (fun x y z => G x y z K) (fun x y => G2 x y K) := by
  cases o <;> first | exact .inl fun _ => rfl | exact hG _ _ _ | exact hG2 _ _
theorem lin_oV (o : O) {G : V → Nat → (β → Bool) → Bool} (hG : ∀ x y, LinK (G x y)) : LinK fun K => oV o fun x y => G x y K := by
  cases o <;> first | exact .inl fun _ => rfl | exact hG _ _
theorem lin_oM (o : O) {G : E → Nat → (β → Bool) → Bool} (hG : ∀ x y, LinK (G x y)) : LinK fun K => oM o fun x y => G x y K := by
  cases o <;> first | exact .inl fun _ => rfl | exact hG _ _
theorem lin_nat (n : Nat) {A : (β → Bool) → Bool} {B : Nat → (β → Bool) → Bool} (hA : LinK A) (hB : ∀ m, LinK (B m)) : LinK fun K => (Nat.rec (motive := fun _ => Bool) (A K) (fun m _ => B m K) n : Bool) := by
  cases n
  · exact hA
  · exact hB _
theorem lin_opt {γ : Type} (n : Option γ) {A : (β → Bool) → Bool} {B : γ → (β → Bool) → Bool} (hA : LinK A) (hB : ∀ m, LinK (B m)) : LinK fun K => (Option.rec (motive := fun _ => Bool) (A K) (fun m => B m K) n : Bool) := by
  cases n
  · exact hA
  · exact hB _
theorem lin_int (n : Int) {A B : Nat → (β → Bool) → Bool} (hA : ∀ m, LinK (A m)) (hB : ∀ m, LinK (B m)) : LinK fun K => (Int.rec (motive := fun _ => Bool) (fun m => A m K) (fun m => B m K) n : Bool) := by
  cases n
  · exact hA _
  · exact hB _
theorem lin_forceN (n : Nat) : LinK (forceN n) := by
  cases n
  · exact lin_k _
  · exact lin_k _
theorem lin_nthK : ∀ (l : V) (j : Nat), LinK (nthK l j) := by
  intro l
  induction l with
  | cons x l _ ih =>
    intro j
    cases j with
    | zero => exact lin_k x
    | succ j => exact ih j
  | _ => intro j; exact lin_no
theorem lin_dropK : ∀ (l : V) (j : Nat), LinK (dropK l j) := by
  intro l
  induction l with
  | cons x l _ ih =>
    intro j
    cases j with
    | zero => exact lin_k _
    | succ j => exact ih j
  | _ => intro j; cases j <;> first | exact lin_no | exact lin_k _
theorem lin_takeK : ∀ (l : V) (j : Nat), LinK (takeK l j) := by
  intro l
  induction l with
  | cons x l _ ih =>
    intro j
    cases j with
    | zero => exact lin_k _
    | succ j => show LinK fun K : V → Bool => takeK l j fun c => K (.cons x c); exact lin_bind (ih j) fun c => lin_k _
  | _ => intro j; cases j <;> first | exact lin_no | exact lin_k _
theorem lin_lenK : ∀ (l : V) (j : Nat), LinK (lenK l j) := by
  intro l
  induction l with
  | cons x l _ ih => intro j; exact ih _
  | _ => intro j; exact lin_k _
theorem lin_catK : ∀ (l r : V), LinK (catK l r) := by
  intro l
  induction l with
  | cons x l _ ih => intro j; show LinK fun K : V → Bool => catK l j fun c => K (.cons x c); exact lin_bind (ih j) fun c => lin_k _
  | _ => intro j; exact lin_k _
theorem lin_slenK : ∀ (l : List Nat) (j : Nat), LinK (slenK l j) := by
  intro l
  induction l with
  | cons x l ih => intro j; exact ih _
  | nil => intro j; exact lin_k _
theorem lin_snthK : ∀ (l : List Nat) (j : Nat), LinK (snthK l j) := by
  intro l
  induction l with
  | cons x l ih =>
    intro j
    cases j with
    | zero => exact lin_k x
    | succ j => exact ih j
  | nil => intro j; exact lin_no
theorem lin_sdropK : ∀ (l : List Nat) (j : Nat), LinK (sdropK l j) := by
  intro l
  induction l with
  | cons x l ih =>
    intro j
    cases j with
    | zero => exact lin_k _
    | succ j => exact ih j
  | nil => intro j; cases j <;> first | exact lin_no | exact lin_k _
theorem lin_stakeK : ∀ (l : List Nat) (j : Nat), LinK (stakeK l j) := by
  intro l
  induction l with
  | cons x l ih =>
    intro j
    cases j with
    | zero => exact lin_k _
    | succ j => show LinK fun K : List Nat → Bool => stakeK l j fun c => K (x :: c); exact lin_bind (ih j) fun c => lin_k _
  | nil => intro j; cases j <;> first | exact lin_no | exact lin_k _
theorem lin_scatK : ∀ (l r : List Nat), LinK (scatK l r) := by
  intro l
  induction l with
  | cons x l ih => intro j; show LinK fun K : List Nat → Bool => scatK l j fun c => K (x :: c); exact lin_bind (ih j) fun c => lin_k _
  | nil => intro j; exact lin_k _
theorem lin_bchK : ∀ l : V, LinK (bchK l) := by
  intro l
  induction l with
  | cons x l _ ih =>
    show LinK fun K : List Nat → Bool => vI x fun kd n => IntKind.rec (motive := fun _ => Bool) false false false false (Int.rec (motive := fun _ => Bool) (fun m => Bool.rec false (bchK l fun c => K (m :: c)) (Nat.ble m 255)) (fun _ => false) n) false false false kd
    refine lin_vI x fun kd n => ?_
    cases kd <;> first | exact lin_no | skip
    cases n with
    | ofNat m => exact lin_bool _ lin_no (lin_bind ih fun c => lin_k _)
    | negSucc m => exact lin_no
  | _ => exact lin_k _
theorem lin_wrapK (mx : Nat) (k : IntKind) (n : Int) : LinK (wrapK mx k n) := by
  cases n with
  | ofNat m => show LinK fun K : Int → Bool => (Bool.rec (K (k.wrap (Int.ofNat m))) (forceN m fun m => K (Int.ofNat m)) (Nat.ble m mx) : Bool); exact lin_bool _ (lin_k _) (lin_bind (lin_forceN _) fun m => lin_k _)
  | negSucc m => exact lin_k _
theorem lin_wrap64K (n : Int) : LinK (wrap64K n) := by
  cases n with
  | ofNat m => show LinK fun K : Int → Bool => (Bool.rec (K (IntKind.i64.wrap (Int.ofNat m))) (forceN m fun m => K (Int.ofNat m)) (Nat.ble m 9223372036854775807) : Bool); exact lin_bool _ (lin_k _) (lin_bind (lin_forceN _) fun m => lin_k _)
  | negSucc m => show LinK fun K : Int → Bool => (Bool.rec (K (IntKind.i64.wrap (Int.negSucc m))) (forceN m fun m => K (Int.negSucc m)) (Nat.ble m 9223372036854775807) : Bool); exact lin_bool _ (lin_k _) (lin_bind (lin_forceN _) fun m => lin_k _)
theorem lin_wrK (k : IntKind) (n : Int) : LinK (wrK k n) := by
  cases k <;> first | exact lin_wrapK _ _ _ | exact lin_wrap64K _
theorem lin_partK (n : Nat) (l : V) (off : Nat) : LinK (partK n l off) := by
  cases n with
  | zero => exact lin_no
  | succ n =>
    cases n with
    | zero => exact lin_nthK _ _
    | succ n => show LinK fun K : V → Bool => dropK l off fun r => takeK r n fun c => K (.a c); exact lin_bind (lin_dropK _ _) fun r => lin_bind (lin_takeK _ _) fun c => lin_k _
theorem lin_putK : ∀ (l : V) (off : Nat) (new : V), LinK (putK l off new) := by
  intro l
  induction l with
  | cons x l _ ih =>
    intro off new
    cases off with
    | zero =>
      cases new <;> first | exact lin_k _ | exact lin_no | skip
      case cons y new' =>
        show LinK fun K : V → Bool => (Bool.rec false (putK l 0 new' fun c => K (.cons y c)) (one y) : Bool)
        exact lin_bool _ lin_no (lin_bind (ih 0 _) fun c => lin_k _)
    | succ off => show LinK fun K : V → Bool => putK l off new fun c => K (.cons x c); exact lin_bind (ih off new) fun c => lin_k _
  | _ => intro off new; cases off <;> cases new <;> first | exact lin_no | exact lin_k _
end
end Go.Mx
