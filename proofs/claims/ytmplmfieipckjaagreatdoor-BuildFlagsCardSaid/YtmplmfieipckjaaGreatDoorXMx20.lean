/-
  A part of a small executor of the model, proved sound (Mx20 of 46). No condition.
-/
import Derived.Test.YtmplmfieipckjaaGreatDoorXMx19
namespace Go.Mx
noncomputable section
variable {P : Program} {h : T O} {nx : Nat} {ng : Nat} {β : Type}
theorem lin_opLoad (t : TypeId) (v : V) : LinK fun K => opLoad P t v h K :=
  lin_vP v fun _id _off => lin_oC _ fun _l _ _ => lin_partK _ _ _
theorem lin_fillK (place : Nat → Nat × Nat) : ∀ (l : List (Nat × V)) (c : V), LinK (fillK place l c) := by
  intro l
  induction l with
  | nil => intro c; exact lin_k _
  | cons p l ih =>
    intro c
    show LinK fun K : V → Bool => cellsK p.2 fun new => lenK new 0 fun n => ite1 (Nat.beq (place p.1).2 (Nat.succ n)) <| putK c (place p.1).1 new fun c' => fillK place l c' K
    exact lin_bind (lin_cellsK _) fun new => lin_bind (lin_lenK _ _) fun n => lin_ite1 _ (lin_bind (lin_putK _ _ _) fun c' => ih c')
theorem lin_opBuild (t : TypeId) (ps : List (Nat × V)) : LinK fun K => opBuild P t ps K :=
  lin_ite1 _ (lin_opt _ lin_no fun _c => lin_bind (lin_fillK _ _ _) fun _c' => lin_k _)
theorem lin_opFieldAddr (t : TypeId) (v : V) (f : Nat) : LinK fun K => opFieldAddr P t v f K :=
  lin_vP v fun _id _off => lin_nat _ lin_no fun _o => lin_k _
theorem lin_opField (t : TypeId) (v : V) (f : Nat) : LinK fun K => opField P t v f K :=
  lin_vA v fun _l => lin_nat _ lin_no fun _o => lin_partK _ _ _
theorem lin_opIndexAddr (t : TypeId) (v ix : V) : LinK fun K => opIndexAddr P t v ix K := by
  refine lin_vN ix fun j => ?_
  cases v <;> first | exact lin_no | skip
  case p id off => exact lin_ite1 _ (lin_nat _ lin_no fun sz => lin_k _)
  case sl id off len sz => exact lin_ite1 _ (lin_ite1 _ (lin_k _))
theorem lin_opIndex (t : TypeId) (v ix : V) : LinK fun K => opIndex P t v ix K := by
  refine lin_vN ix fun j => ?_
  cases v <;> first | exact lin_no | skip
  case s l => exact lin_ite1 _ (lin_bind (lin_snthK _ _) fun x => lin_k _)
theorem lin_bndK (lo hi : Option V) (len : Nat) {G : Nat → Nat → (β → Bool) → Bool} (hG : ∀ x y, LinK (G x y)) : LinK fun K => bndK lo hi len fun x y => G x y K := by
  have key : ∀ n, LinK fun K : β → Bool => (Option.rec (motive := fun _ => (Nat → Bool) → Bool) (fun c => c 0) (fun v c => vN v fun l => ite1 (Nat.ble l n) <| c l) lo : (Nat → Bool) → Bool) fun l => G l n K := by
    intro n
    cases lo with
    | none => exact hG _ _
    | some v => exact lin_vN v fun l => lin_ite1 _ (hG _ _)
  cases hi with
  | none => exact key _
  | some v => exact lin_vN v fun n => lin_ite1 _ (key n)
theorem lin_opSlice (t : TypeId) (v : V) (lo hi mx : Option V) : LinK fun K => opSlice P t v lo hi mx K := by
  cases mx with
  | none =>
    cases v <;> first | exact lin_no | skip
    case s l => exact lin_ite1 _ (lin_bind (lin_slenK _ _) fun n => lin_bndK _ _ _ fun a b => lin_bind (lin_sdropK _ _) fun r => lin_bind (lin_stakeK _ _) fun c => lin_k _)
    case sl id off len sz => exact lin_ite1 _ (lin_bndK _ _ _ fun a b => lin_bool _ (lin_bool _ (lin_k _) (lin_k _)) (lin_k _))
    all_goals exact lin_ite1 _ (lin_bndK _ _ _ fun a b => lin_k _)
  | some m =>
    refine lin_vN m fun m' => lin_ite1 _ (lin_ite1 _ (lin_opt _ lin_no fun hv => lin_vN hv fun j => lin_ite1 _ (lin_bndK _ _ _ fun _ _ => ?_)))
    cases v <;> first | exact lin_no | exact lin_k _
theorem lin_forceI (n : Int) : LinK (forceI n) := by
  cases n with
  | ofNat m => show LinK fun K : Int → Bool => forceN m fun m => K (Int.ofNat m); exact lin_bind (lin_forceN _) fun m => lin_k _
  | negSucc m => show LinK fun K : Int → Bool => forceN m fun m => K (Int.negSucc m); exact lin_bind (lin_forceN _) fun m => lin_k _
theorem lin_bitK (op : BinOp) (k : IntKind) (a b : Int) : LinK fun K => bitK op k a b K := by
  show LinK fun K : V → Bool => forceI (bitsI op k a b) fun n => K (.i k n)
  exact lin_bind (lin_forceI _) fun n => lin_k _
theorem lin_wrV (k : IntKind) (n : Int) : LinK fun K : V → Bool => wrK k n fun n => K (.i k n) := lin_bind (lin_wrK _ _) fun _n => lin_k _
theorem lin_shK (op : BinOp) (k : IntKind) (a b : Int) : LinK fun K => shK op k a b K := by
  refine lin_int a (fun m => ?_) (fun m => lin_no)
  refine lin_int b (fun y => lin_ite1 _ ?_) (fun m => lin_no)
  cases op <;> first | exact lin_no | exact lin_wrV _ _ | exact lin_bind (lin_forceN _) fun q => lin_k _
theorem lin_binI (op : BinOp) (k : IntKind) (a b : Int) : LinK fun K => binI op k a b K := by
  cases op <;> first | exact lin_no | exact lin_wrV _ _ | exact lin_k _ | exact lin_bool _ (lin_wrV _ _) lin_no | exact lin_bool _ (lin_k _) lin_no | exact lin_bitK _ _ _ _
theorem lin_binS (op : BinOp) (a b : List Nat) : LinK fun K => binS op a b K := by
  cases op <;> first | exact lin_no | exact lin_k _ | skip
  show LinK fun K : V → Bool => slenK a 0 fun n => slenK b n fun m => ite1 (Nat.ble m 9223372036854775807) <| scatK a b fun c => K (.s c)
  exact lin_bind (lin_slenK _ _) fun n => lin_bind (lin_slenK _ _) fun m => lin_ite1 _ (lin_bind (lin_scatK _ _) fun c => lin_k _)
theorem lin_binE (op : BinOp) (r : Bool) : LinK fun K => binE op r K := by
  cases op <;> first | exact lin_no | exact lin_k _
theorem lin_binIx (op : BinOp) (k : IntKind) (a : Int) (k' : IntKind) (b : Int) {r : (V → Bool) → Bool} (hr : LinK r) : LinK fun K => binIx op k a k' b K (r K) := by
  cases op <;> first | exact hr | exact lin_shK .shl k a b | exact lin_shK .shr k a b
theorem lin_arg0 (l : V) {G : V → V → (β → Bool) → Bool} (hG : ∀ x y, LinK (G x y)) : LinK fun K => arg0 l fun x y => G x y K := by
  cases l <;> first | exact lin_no | exact hG _ _
theorem lin_ceqK (kc : Nat) (x y : V) : LinK (ceqK kc x y) :=
  lin_bool (β := Bool) _ (lin_bool _ (lin_vI x fun _k1 _a => lin_vI y fun _k2 _b => lin_ite1 _ (lin_k _)) (lin_vB x fun _a => lin_vB y fun _b => lin_k _)) (lin_vS x fun _a => lin_vS y fun _b => lin_k _)
theorem lin_eqK : ∀ (ks : List Nat) (l l' : V), LinK (eqK ks l l') := by
  intro ks
  induction ks with
  | nil => intro l l'; exact lin_k _
  | cons c ks ih =>
    intro l l'
    show LinK fun K : Bool → Bool => arg0 l fun x r => arg0 l' fun y r' => ceqK c x y fun b => Bool.rec (K false) (eqK ks r r' K) b
    exact lin_arg0 l fun x r => lin_arg0 l' fun y r' => lin_bind (lin_ceqK _ _ _) fun b => lin_bool b (lin_k _) (ih r r')
theorem lin_binV (op : BinOp) (t : TypeId) (x y : Operand) (a b : V) : LinK fun K => binV P op t x y a b K := by
  cases a <;> first | exact lin_no | skip
  case b q => cases b <;> first | exact lin_no | exact lin_ite1 _ (lin_binE _ _)
  case i k n =>
    cases b <;> first | exact lin_no | skip
    case i k' n' => exact lin_binIx op k n k' n' (lin_ite1 _ (lin_binI _ _ _ _))
  case s l => cases b <;> first | exact lin_no | exact lin_binS _ _ _
  case a l => cases b <;> first | exact lin_no | exact lin_ite1 _ (lin_bind (lin_eqK _ _ _) fun r => lin_binE _ _)
  case p id off => cases b <;> first | exact lin_no | exact lin_ite1 _ (lin_binE _ _) | exact lin_ite1 _ (lin_ite1 _ (lin_ite1 _ (lin_ite1 _ (lin_binE _ _))))
  all_goals cases b <;> first | exact lin_no | exact lin_ite1 _ (lin_binE _ _) | exact lin_ite1 _ (lin_ite1 _ (lin_binE _ _))
theorem lin_unV (op : UnOp) (v : V) : LinK fun K => unV op v K := by
  cases op
  · exact lin_vI v fun k n => lin_wrV _ _
  · exact lin_vI v fun k n => lin_bitK _ _ _ _
  · exact lin_vB v fun b => lin_k _
  · exact lin_no
theorem lin_veqK (kc : Nat) (a b : V) : LinK (veqK kc a b) :=
  lin_bool (β := Bool) _ (lin_ite1 _ (lin_ite1 _ (lin_vI a fun _k1 _n1 => lin_vI b fun _k2 _n2 => lin_ite1 _ (lin_k _)))) (lin_vS a fun _l => lin_vS b fun _l' => lin_k _)
theorem lin_lookE (kc : Nat) (key : V) {no : (β → Bool) → Bool} {yes : V → (β → Bool) → Bool} (h1 : LinK no) (h2 : ∀ v, LinK (yes v)) : ∀ es : E, LinK fun K => lookE kc key (no K) (fun v => yes v K) es := by
  intro es
  induction es with
  | nil => exact h1
  | cons k v bn r ih =>
    show LinK fun K : β → Bool => veqK kc key k fun b => (Bool.rec (lookE kc key (no K) (fun v => yes v K) r) (yes v K) b : Bool)
    exact lin_bind (lin_veqK _ _ _) fun b => lin_bool _ ih (h2 v)
theorem lin_opLookup (t : TypeId) (m key : V) (ok : Bool) : LinK fun K => opLookup P t m key ok h K := by
  refine lin_ite1 _ (lin_ite1 _ (lin_opt _ lin_no fun z => ?_))
  cases m <;> first | exact lin_no | exact lin_k _ | skip
  case m id => exact lin_oM _ fun es _ => lin_lookE _ _ (lin_k _) (fun v => lin_k _) es
theorem lin_opAssert (v : V) (t : TypeId) (ok : Bool) : LinK fun K => opAssert P v t ok K := by
  refine lin_ite1 _ ?_
  cases v <;> first | exact lin_no | skip
  case e t y => exact lin_bool _ (lin_bool _ lin_no (lin_opt _ lin_no fun z => lin_k _)) (lin_k _)
  case en => exact lin_bool _ lin_no (lin_opt _ lin_no fun z => lin_k _)
theorem lin_cntE : ∀ (es : E) (n : Nat), LinK (cntE es n) := by
  intro es
  induction es with
  | nil => intro n; exact lin_k _
  | cons k v bn r ih => intro n; exact ih _
theorem lin_opLen (t : TypeId) (v : V) : LinK fun K => opLen P t v h K := by
  cases v <;> first | exact lin_no | exact lin_ite1 _ (lin_k _) | skip
  case s l => exact lin_ite1 _ (lin_bind (lin_slenK _ _) fun n => lin_k _)
  case m id => exact lin_ite1 _ (lin_oM _ fun es _ => lin_bind (lin_cntE _ _) fun n => lin_k _)
theorem lin_min2 (lt : Bool) (a b : V) : LinK fun K => min2 lt a b K :=
  lin_vI a fun _k _x => lin_vI b fun _k' _y => lin_ite1 _ (lin_bool _ (lin_k _) (lin_k _))
theorem lin_mm (lt : Bool) (l : V) : LinK fun K : V → Bool => arg0 l fun x r => arg0 r fun y r' => chain (min2 lt x y K) (fun _ _ _ => false) r' := by
  refine lin_arg0 l (G := fun x r K => arg0 r fun y r' => chain (min2 lt x y K) (fun _ _ _ => false) r') fun x r => lin_arg0 r (G := fun y r' K => chain (min2 lt x y K) (fun _ _ _ => false) r') fun y r' => ?_
  cases r' <;> first | exact lin_min2 lt x y | exact lin_no
def LinV (F : Nat → KV → Bool) (h : T O) : Prop := (∀ nx K, F nx K = false) ∨ ∃ y, ∀ nx K, F nx K = K y h nx
theorem LinK.v {G : (V → Bool) → Bool} (hG : LinK G) : LinV (fun nx K => G fun v => K v h nx) h := by
  rcases hG with g | ⟨y, g⟩
  · exact .inl fun nx K => g _
  · exact .inr ⟨y, fun nx K => g _⟩
theorem lin_cvP (s d : TypeId) (id off : Nat) : LinK fun K => cvP P s d id off h K :=
  lin_bool _ (lin_ite1 _ (lin_ite1 _ (lin_oV _ fun _l _ty => lin_bind (lin_lenK _ _) fun _n => lin_ite1 _ (lin_ite1 _ (lin_ite1 _ (lin_ite1 _ (lin_k _)))))))
    (lin_ite1 _ (lin_ite1 _ (lin_oC _ fun _l _ _ => lin_bind (lin_nthK _ _) fun _ => lin_k _)))
theorem lin_opConvert (s d : TypeId) (v : V) (hd : Nat.beq (tyk P d) 20 = false) : LinV (fun nx K => opConvert P s d v h nx K) h := by
  have e : (fun nx K => opConvert P s d v h nx K) = fun (nx : Nat) (K : KV) => (fun K : V → Bool => opConvert P s d v h 0 fun v _ _ => K v) fun v => K v h nx := by
    funext nx K
    cases v <;> first | rfl | skip
    case s l => simp only [opConvert, hd, ite1]
    case sl id off len sz => simp only [opConvert, hd]
  rw [e]
  refine LinK.v (G := fun K : V → Bool => opConvert P s d v h 0 fun v _ _ => K v) ?_
  cases v <;> first | exact lin_no | skip
  case i k n => exact lin_ite1 _ (lin_opt _ (lin_ite1 _ (lin_int _ (fun m => lin_ite1 _ (lin_k _)) fun m => lin_no)) fun kd => lin_wrV _ _)
  case s l =>
    refine lin_ite1 _ (lin_bool _ ?_ (lin_k _))
    simp only [hd, ite1]
    exact lin_no
  case p id off => exact lin_cvP _ _ _ _
  case sl id off len sz =>
    simp only [opConvert, hd]
    exact lin_ite1 _ (lin_ite1 _ (lin_ite1 _ (lin_oC _ fun l _ _ => lin_bind (lin_dropK _ _) fun r => lin_bind (lin_takeK _ _) fun c => lin_bind (lin_bchK _) fun t => lin_k _)))
  all_goals exact lin_ite1 _ (lin_ite1 _ (lin_k _))
theorem opK_lin {ck : CK} {tm : T V} {o : Op} (hc : clsOp P o = 0) : LinV (fun nx K => opK P ng ck tm o h nx K fun _ _ _ => false) h := by
  cases o <;> first | (exact absurd hc (by simp only [clsOp]; decide)) | skip
  case move x => exact LinK.v (lin_k _)
  case assign x => exact LinK.v (lin_k _)
  case pick c a b => exact LinK.v (lin_vB _ fun q => lin_bool _ (lin_k _) (lin_k _))
  case build t ps => exact LinK.v (lin_opBuild _ _)
  case load t a => exact LinK.v (lin_opLoad _ _)
  case nilCheck x =>
    generalize hv : ev ng tm x = v
    refine LinK.v (G := fun K => V.rec (motive := fun _ => Bool) (false) (fun _ _ _ _ => false) (fun _ => false) (fun _ _ => false) (fun _ => false) (fun id off => K (.p id off)) (false) (fun _ _ _ _ => false) (false) (false) (false) (fun _ => false) (false) (fun g c _ => K (.f g c)) (false) (fun _ _ _ => false) (false) (fun _ _ => false) (fun _ _ => false) (ev ng tm x)) ?_
    rw [hv]
    cases v <;> first | exact lin_no | exact lin_k _
  case binOp => exact LinK.v (lin_binV _ _ _ _ _ _)
  case unOp => exact LinK.v (lin_unV _ _)
  case convert s d x =>
    refine lin_opConvert _ _ _ ?_
    cases e : Nat.beq (tyk P d) 20 with
    | false => rfl
    | true => exact absurd hc (by simp only [clsOp, e]; decide)
  case makeInterface t x => exact LinK.v (lin_ite1 _ (lin_k _))
  case makeFunc fn first cap =>
    refine LinK.v (G := fun K => ite1 (Nat.beq first.size 0) <| fnK fn fun g => K (.f g (evs ng tm cap.toList))) (lin_ite1 _ ?_)
    cases fn <;> first | exact lin_no | exact lin_k _
  case slice t x lo hi mx => exact LinK.v (lin_opSlice _ _ _ _ _)
  case fieldAddr t x f => exact LinK.v (lin_opFieldAddr _ _ _)
  case field t x f => exact LinK.v (lin_opField _ _ _)
  case indexAddr t x ix => exact LinK.v (lin_opIndexAddr _ _ _)
  case index t x ix => exact LinK.v (lin_opIndex _ _ _)
  case lookup t x ix ok => exact LinK.v (lin_opLookup _ _ _ _)
  case typeAssert x s t ok => exact LinK.v (lin_opAssert _ _ _)
  case extract x ix => exact LinK.v (lin_vT _ fun l => lin_nthK _ _)
  case call c =>
    obtain ⟨callee, args, ts⟩ := c
    cases callee with
    | value f => exact absurd hc (by simp only [clsOp]; decide)
    | invoke a b => exact absurd hc (by simp only [clsOp]; decide)
    | builtin b =>
      cases b <;> first | (exact absurd hc (by simp only [clsOp]; decide)) | skip
      · exact LinK.v (lin_arg0 _ fun x r => lin_ite1 _ (lin_opLen _ _))
      · exact LinK.v (lin_mm false _)
      · exact LinK.v (lin_mm true _)
end
end Go.Mx
