/-
  A part of a small executor of the model, proved sound (11 of 28). No condition.
-/
import Derived.Test.YthocoonhoilmdaaGreatDoorXMx20
namespace Go.Mx
noncomputable section
variable {P : Program} {ρ : Ren} {h : T O} {nx : Nat} {w : World} {ng : Nat} {β : Type}
theorem St.phantom (s : St ρ h nx w) (ob : O) : St ρ (st O.none ob nx h) (nx + 1) w := by
  have hf : ρ nx = none := s.fresh nx (Nat.le_refl _)
  refine ⟨?_, ?_, fun i hi => s.fresh i (by omega), fun i hi => ?_⟩
  · intro id L hl hL
    have e : nx ≠ id := fun e => by rw [← e, hf] at hL; cases hL
    rw [gt_st_ne _ _ e] at hl ⊢
    exact s.rel id L hl hL
  · intro i j L M hi hj hL hM hb
    have e1 : nx ≠ i := fun e => by rw [← e, hf] at hL; cases hL
    have e2 : nx ≠ j := fun e => by rw [← e, hf] at hM; cases hM
    rw [gt_st_ne _ _ e1] at hi
    rw [gt_st_ne _ _ e2] at hj
    exact s.inj i j L M hi hj hL hM hb
  · rw [gt_st_ne _ _ (by omega)]
    exact s.dead i (by omega)
theorem St.late (s : St ρ h nx w) {id : Nat} {n : Nat} {obj : Obj} (hid : id < nx) (hn : ρ id = none) (ho : OR ρ ⟨w.heap.size, 0, n⟩ (gt O.none id h) obj) :
    St (upd ρ id ⟨w.heap.size, 0, n⟩) h nx (w.alloc obj) := by
  have hle := upd_le (L := ⟨w.heap.size, 0, n⟩) hn
  refine ⟨?_, ?_, fun i hi => by rw [upd_ne _ _ (by omega)]; exact s.fresh i hi, s.dead⟩
  · intro j L hl hL
    by_cases e : j = id
    · subst e
      rw [upd_same] at hL; cases hL
      exact ⟨obj, by show (w.heap.push obj)[w.heap.size]? = some obj; simp, ho.mono hle⟩
    · rw [upd_ne _ _ e] at hL
      obtain ⟨o', h2, h3⟩ := s.rel j L hl hL
      refine ⟨o', ?_, h3.mono hle⟩
      have hlt := (Array.getElem?_eq_some_iff.1 h2).1
      show (w.heap.push obj)[L.blk]? = some o'
      rw [Array.getElem?_push, if_neg (by omega)]
      exact h2
  · intro i j L M hi hj hL hM hb
    by_cases ei : i = id
    · by_cases ej : j = id
      · rw [ei, ej]
      · subst ei
        rw [upd_same] at hL; cases hL
        rw [upd_ne _ _ ej] at hM
        have := s.lt hj hM
        simp at hb; omega
    · by_cases ej : j = id
      · subst ej
        rw [upd_same] at hM; cases hM
        rw [upd_ne _ _ ei] at hL
        have := s.lt (O.live_of_wr hi) hL
        simp at hb; omega
      · rw [upd_ne _ _ ei] at hL
        rw [upd_ne _ _ ej] at hM
        exact s.inj i j L M hi hj hL hM hb
def MakesX (P : Program) (ng : Nat) (ck : CK) (tm : T V) (o : Op) (mk : Nat → V) (ob : O) : Prop :=
  (∀ h nx K Kp, opK P ng ck tm o h nx K Kp = K (mk nx) (st O.none ob nx h) (nx + 1)) ∧ ob.live
def MakesM (P : Program) (ρ : Ren) (a : Act) (o : Oper) (mk : Nat → V) (ob : O) : Prop :=
  ∀ w, ∃ obj v n, (execOp a.eval o).run P w = .ok (.value v) (w.alloc obj) ∧ OR ρ ⟨w.heap.size, 0, n⟩ ob obj ∧ ∀ id ρ', ρ' id = some ⟨w.heap.size, 0, n⟩ → VR ρ' (mk id) v
theorem newV_eq (c : V) (ty : TypeId) (K : Nat → T O → Nat → Bool) : newV c ty h nx K = K nx (st O.none (.v c ty) nx h) (nx + 1) := by
  unfold newV
  rw [stK_eq]
theorem newK_eq (c : V) (ty : TypeId) (K : Nat → T O → Nat → Bool) : newK c ty h nx K = K nx (st O.none (.c c ty true) nx h) (nx + 1) := by
  unfold newK
  rw [stK_eq]
theorem lin_repK (z : V) : ∀ n, LinK (repK z n) := by
  intro n
  induction n with
  | zero => exact lin_k _
  | succ n ih => show LinK fun K : V → Bool => repK z n fun c => catK z c K; exact lin_bind ih fun c => lin_catK _ _
def bsc (P : Program) (t : TypeId) (len : Nat) (ps : List (Nat × V)) (K : V × Nat → Bool) : Bool :=
  Nat.rec (motive := fun _ => Bool) false (fun sz _ => ite1 (Nat.blt 0 sz) <| ite1 (Nat.ble (len * sz) 16777216) <| Option.rec (motive := fun _ => Bool) false (fun z => lenK z 0 fun zn => ite1 (Nat.beq zn sz) <| repK z len fun c => fillK (placeS P t) ps c fun c' =>
    K (c', sz)) (zeroC P (slT P t))) (slE P t)
theorem lin_bsc (t : TypeId) (len : Nat) (ps : List (Nat × V)) : LinK (bsc P t len ps) :=
  lin_nat (β := V × Nat) _ lin_no fun _sz => lin_ite1 _ (lin_ite1 _ (lin_opt _ lin_no fun _z => lin_bind (lin_lenK _ _) fun _zn => lin_ite1 _ (lin_bind (lin_repK _ _) fun _c => lin_bind (lin_fillK _ _ _) fun _c' => lin_k _)))
theorem bsc_eq (t : TypeId) (len : Nat) (ps : List (Nat × V)) (K : KV) : opBuildSlice P t len ps h nx K = bsc P t len ps fun p => K (.sl nx 0 len p.2) (st O.none (.c p.1 (slT P t) true) nx h) (nx + 1) := by
  unfold opBuildSlice bsc
  simp only [newK_eq]
theorem bsc_sound {t : TypeId} {len : Nat} {ps : List (Nat × V)} {vs : Array (Nat × Value)} {K : V × Nat → Bool} (hk : bsc P t len ps K = true) (hr : PsR ρ ps vs.toList) :
    ∃ c' sz cells', K (c', sz) = true ∧ CR ρ c' cells' ∧ len * sz ≤ cells'.length ∧ ∀ w : World, (Instr.buildSlice t len vs).run P w = .ok (.slice (some ⟨w.heap.size, 0, none⟩) len len) (w.alloc (.cells ⟨cells'⟩ (slT P t))) := by
  cases hE : slE P t with
  | zero => unfold bsc at hk; rw [hE] at hk; exact Bool.noConfusion hk
  | succ sz =>
    unfold bsc at hk
    rw [hE] at hk
    obtain ⟨e1, hk⟩ := ite1_spec hk
    obtain ⟨e2, hk⟩ := ite1_spec hk
    have e1 := Nat.blt_eq.mp e1
    have e2 := Nat.le_of_ble_eq_true e2
    obtain ⟨ie, hu, hie, hsz⟩ := slE_spec hE
    cases hz : zeroC P (slT P t) with
    | none => rw [hz] at hk; exact Bool.noConfusion hk
    | some z =>
      rw [hz] at hk
      obtain ⟨zv, hzv, hzr⟩ := zeroC_spec hz
      obtain ⟨zn, hk, hzn, _⟩ := lenK_spec (show lenK z 0 (fun zn => ite1 (Nat.beq zn sz) <| repK z len fun c => fillK (placeS P t) ps c fun c' => K (c', sz)) = true from hk) (VRs_isC (hzr ρ))
      rw [Nat.zero_add] at hk
      obtain ⟨e3, hk⟩ := ite1_spec hk
      have e3 := beq_spec e3
      have hzs : zv.cells.size = sz := by have := hzn ρ _ (hzr ρ); simp at this; omega
      obtain ⟨c, hk, hrep⟩ := repK_spec hk (VRs_isC (hzr ρ))
      have hc := hrep ρ _ (hzr ρ)
      have hcells : ((Array.range (len * sz)).map ((if len * sz = 0 then #[] else zv.cells)[· % (if len * sz = 0 then (#[] : Array Value) else zv.cells).size]!)).toList = (List.replicate len zv.cells.toList).flatten := by
        by_cases h0 : len * sz = 0
        · have hl : len = 0 := by
            rcases Nat.mul_eq_zero.1 h0 with h | h
            · exact h
            · omega
          subst hl
          simp
        · rw [if_neg h0]
          have := range_mod zv.cells (by omega) len
          rw [← this, hzs]
          simp
      obtain ⟨c', cells', hk, h2, h3, h4⟩ := fillK_sound (place := placeS P t) (place' := fun i => some (i * sz, sz)) (fun i o s hp => by
        unfold placeS at hp
        rw [hE] at hp
        simp at hp
        obtain ⟨rfl, rfl⟩ := hp
        rfl) (cells := (Array.range (len * sz)).map ((if len * sz = 0 then #[] else zv.cells)[· % (if len * sz = 0 then (#[] : Array Value) else zv.cells).size]!)) hk hr (by rw [hcells]; exact hc)
      refine ⟨c', sz, _, hk, h2.CR', ?_, fun w => ?_⟩
      · simp at h4
        simp [h4]
      · have hle : ¬ (len * sz > 2 ^ 24) := by simp; omega
        unfold Instr.buildSlice
        by_cases h0 : len * sz = 0
        · simp only [h0, if_true] at h3
          have hle0 : ¬ (0 > 2 ^ 24) := by decide
          simp only [Sem.run_bind, run_und hu, Result.andThen_ok, run_size hie, hsz, hle0, if_false, h0, if_true, Sem.run_pure, h3, newRow, run_newObj]
          rfl
        · simp only [h0, if_false] at h3
          simp only [Sem.run_bind, run_und hu, Result.andThen_ok, run_size hie, hsz, hle, if_false, h0, Sem.run_pure, hzv, h3, newRow, run_newObj]
          rfl
theorem OR_new {c : V} {vs : List Value} {ty : TypeId} (hc : CR ρ c vs) : OR ρ ⟨w.heap.size, 0, vs.length⟩ (.c c ty true) (.cells ⟨vs⟩ ty) :=
  ⟨⟨vs⟩, (0, 0), rfl, by simp, by intro q _; simp, Nat.zero_le _, by simpa using hc⟩
open Classical in
theorem opK_makes {ck : CK} {tm : T V} {o : Oper} (hc : clsOp P o.op = 1) {K Kp : KV} (hk : opK P ng ck tm o.op h nx K Kp = true) :
    ∃ mk ob, MakesX P ng ck tm o.op mk ob ∧ ∀ ρ a, RG ng ρ → TR ρ tm a → MakesM P ρ a o mk ob := by
  obtain ⟨dst, o, ty, pos, after, guard⟩ := o
  cases o <;> first | (exact absurd hc (by simp only [clsOp]; decide)) | skip
  case convert s d x => exact absurd hc (by simp only [clsOp]; cases Nat.beq (tyk P d) 20 <;> decide)
  case call c =>
    obtain ⟨callee, args, ts⟩ := c
    cases callee with
    | value f => exact absurd hc (by simp only [clsOp]; decide)
    | invoke a b => exact absurd hc (by simp only [clsOp]; decide)
    | builtin b => exact absurd hc (by cases b <;> simp only [clsOp] <;> decide)
  case alloc t =>
    have hk2 : opAlloc P t h nx K = true := hk
    cases hz : zeroC P t with
    | none => unfold opAlloc at hk2; rw [hz] at hk2; exact Bool.noConfusion hk2
    | some c =>
      obtain ⟨v, hv, hc⟩ := zeroC_spec hz
      refine ⟨fun id => .p id 0, .v c t, ⟨fun h nx K Kp => ?_, trivial⟩, fun ρ a _ _ w => ⟨.cells v.cells t, .pointer (some ⟨w.heap.size, 0, none⟩), v.cells.toList.length, ?_, ⟨v.cells.toList, rfl, rfl, rfl, hc ρ⟩, fun id ρ' hid => ?_⟩⟩
      · show opAlloc P t h nx K = _
        unfold opAlloc
        rw [hz]
        exact newV_eq _ _ _
      · exact vrun (by simp [Instr.alloc, hv, newVar_run])
      · simp only [VR]; exact ⟨_, hid, rfl⟩
  case box t x =>
    have hk2 : opBox t (ev ng tm x) h nx K = true := hk
    rcases lin_cellsK (ev ng tm x) with g | ⟨c, g⟩
    · unfold opBox at hk2; rw [g] at hk2; exact Bool.noConfusion hk2
    · refine ⟨fun id => .p id 0, .v c t, ⟨fun h nx K Kp => ?_, trivial⟩, fun ρ a hg ht w => ?_⟩
      · show opBox t (ev ng tm x) h nx K = _
        unfold opBox
        rw [g]
        exact newV_eq _ _ _
      · obtain ⟨c', hk3, hc'⟩ := cellsK_spec (v := ev ng tm x) (k := fun c' => decide (c' = c)) (by rw [g]; simp)
        have hk3 := of_decide_eq_true hk3
        subst hk3
        refine ⟨.cells (a.eval x).cells t, .pointer (some ⟨w.heap.size, 0, none⟩), (a.eval x).cells.toList.length, ?_, ⟨_, rfl, rfl, rfl, hc' ρ _ (ev_rel hg ht x)⟩, fun id ρ' hid => ?_⟩
        · exact vrun (by simp [Instr.box, newVar_run])
        · simp only [VR]; exact ⟨_, hid, rfl⟩
  case buildSlice t n ps =>
    have hk2 : opBuildSlice P t n (evp ng tm ps.toList) h nx K = true := hk
    rw [bsc_eq] at hk2
    rcases lin_bsc (P := P) t n (evp ng tm ps.toList) with g | ⟨⟨c, sz⟩, g⟩
    · rw [g] at hk2; exact Bool.noConfusion hk2
    · refine ⟨fun id => .sl id 0 n sz, .c c (slT P t) true, ⟨fun h nx K Kp => ?_, trivial⟩, fun ρ a hg ht w => ?_⟩
      · show opBuildSlice P t n (evp ng tm ps.toList) h nx K = _
        rw [bsc_eq, g]
      · obtain ⟨c', sz', cells', hk3, h2, h3, h4⟩ := bsc_sound (P := P) (ρ := ρ) (vs := ps.map fun (i, x) => (i, a.eval x)) (t := t) (len := n) (ps := evp ng tm ps.toList) (K := fun p => decide (p = (c, sz))) (by rw [g]; simp) (by simpa using evp_rel hg ht ps.toList)
        have hk3 := of_decide_eq_true hk3
        cases hk3
        refine ⟨_, .slice (some ⟨w.heap.size, 0, none⟩) n n, _, vrun (h4 w), OR_new h2, fun id ρ' hid => ?_⟩
        exact VR_sl hid (Nat.le_refl _) (by simpa using h3) rfl
end
end Go.Mx
namespace Go.Mx
noncomputable section
variable {P : Program} {ρ : Ren} {h : T O} {nx : Nat} {w : World} {ng : Nat} {tm tm' : T V}
theorem evs_congr : ∀ l : List Operand, (∀ x ∈ l, ev ng tm x = ev ng tm' x) → evs ng tm l = evs ng tm' l
  | [], _ => rfl
  | x :: l, hx => by
    show V.cons (ev ng tm x) (evs ng tm l) = V.cons (ev ng tm' x) (evs ng tm' l)
    rw [hx x (by simp), evs_congr l fun y hy => hx y (by simp [hy])]
theorem evp_congr : ∀ l : List (Nat × Operand), (∀ x ∈ l.map (·.2), ev ng tm x = ev ng tm' x) → evp ng tm l = evp ng tm' l
  | [], _ => rfl
  | (i, x) :: l, hx => by
    show (i, ev ng tm x) :: evp ng tm l = (i, ev ng tm' x) :: evp ng tm' l
    rw [hx x (by simp), evp_congr l fun y hy => hx y (by simp only [List.map_cons, List.mem_cons]; exact .inr hy)]
theorem evo_congr (x : Option Operand) (hx : ∀ y ∈ x.toList, ev ng tm y = ev ng tm' y) : (Option.rec (motive := fun _ => Option V) none (fun x => some (ev ng tm x)) x : Option V) = Option.rec (motive := fun _ => Option V) none (fun x => some (ev ng tm' x)) x := by
  cases x with
  | none => rfl
  | some x => show some (ev ng tm x) = some (ev ng tm' x); rw [hx x (by simp)]
theorem opK_congr {ck : CK} {o : Op} (hx : ∀ x ∈ opnds o, ev ng tm x = ev ng tm' x) : opK P ng ck tm o = opK P ng ck tm' o := by
  funext h nx K Kp
  cases o <;> try rfl
  case move x => have e := hx x (by simp [opnds]); show K (ev ng tm x) h nx = _; rw [e]; rfl
  case assign x => have e := hx x (by simp [opnds]); show K (ev ng tm x) h nx = _; rw [e]; rfl
  case pick c a b =>
    have e1 := hx c (by simp [opnds]); have e2 := hx a (by simp [opnds]); have e3 := hx b (by simp [opnds])
    show (vB (ev ng tm c) fun q => Bool.rec (K (ev ng tm b) h nx) (K (ev ng tm a) h nx) q) = _
    rw [e1, e2, e3]; rfl
  case box t x => have e := hx x (by simp [opnds]); show opBox t (ev ng tm x) h nx K = _; rw [e]; rfl
  case build t ps => have e := evp_congr ps.toList (fun x m => hx x (by simp only [opnds]; exact m)); simp only [opK, e]
  case buildSlice t n ps => have e := evp_congr ps.toList (fun x m => hx x (by simp only [opnds]; exact m)); show opBuildSlice P t n (evp ng tm ps.toList) h nx K = _; rw [e]; rfl
  case insert t m k x =>
    have e1 := hx m (by simp [opnds]); have e2 := hx k (by simp [opnds]); have e3 := hx x (by simp [opnds])
    show opMapUpdate P t (ev ng tm m) (ev ng tm k) (ev ng tm x) h _ = _; rw [e1, e2, e3]; rfl
  case mapUpdate t m k x =>
    have e1 := hx m (by simp [opnds]); have e2 := hx k (by simp [opnds]); have e3 := hx x (by simp [opnds])
    show opMapUpdate P t (ev ng tm m) (ev ng tm k) (ev ng tm x) h _ = _; rw [e1, e2, e3]; rfl
  case mapEntry t m k =>
    have e1 := hx m (by simp [opnds]); have e2 := hx k (by simp [opnds])
    show opMapEntry P t (ev ng tm m) (ev ng tm k) h (fun v h' => K v h' nx) = opMapEntry P t (ev ng tm' m) (ev ng tm' k) h (fun v h' => K v h' nx); rw [e1, e2]
  case entryStore t m k x =>
    have e1 := hx m (by simp [opnds]); have e2 := hx k (by simp [opnds]); have e3 := hx x (by simp [opnds])
    show opEntryStore (ev ng tm m) (ev ng tm k) (ev ng tm x) h (fun h' => K .nil h' nx) = opEntryStore (ev ng tm' m) (ev ng tm' k) (ev ng tm' x) h (fun h' => K .nil h' nx); rw [e1, e2, e3]
  case load t x => have e := hx x (by simp [opnds]); show opLoad P t (ev ng tm x) h _ = _; rw [e]; rfl
  case store t a x =>
    have e1 := hx a (by simp [opnds]); have e2 := hx x (by simp [opnds])
    show opStore P t (ev ng tm a) (ev ng tm x) h _ = _; rw [e1, e2]; rfl
  case nilCheck x => have e := hx x (by simp [opnds]); simp only [opK, e]
  case binOp op t x y u =>
    have e1 := hx x (by simp [opnds]); have e2 := hx y (by simp [opnds])
    show binV P op t x y (ev ng tm x) (ev ng tm y) _ = _; rw [e1, e2]; rfl
  case unOp op t x => have e := hx x (by simp [opnds]); simp only [opK, e]
  case convert s d x => have e := hx x (by simp [opnds]); show opConvert P s d (ev ng tm x) h nx K = _; rw [e]; rfl
  case makeInterface t x => have e := hx x (by simp [opnds]); show ite1 _ (K (.e t (ev ng tm x)) h nx) = _; rw [e]; rfl
  case makeFunc fn first cap =>
    have e1 := evs_congr first.toList (fun x m => hx x (by simp only [opnds]; exact List.mem_append_left _ m))
    have e2 := evs_congr cap.toList (fun x m => hx x (by simp only [opnds]; exact List.mem_append_right _ m))
    show (Bool.rec (ite1 (Nat.beq cap.size 0) <| fnK fn fun g => K (.o 8 (evs ng tm first.toList) g 0 0) h nx) (fnK fn fun g => K (.f g (evs ng tm cap.toList)) h nx) (Nat.beq first.size 0) : Bool) = _
    rw [e1, e2]; rfl
  case makeMap t r => have e := evo_congr r (fun x m => hx x (by simp only [opnds]; exact m)); show opMakeMap P t _ h nx K = _; rw [e]; rfl
  case slice t x lo hi mx =>
    have e := hx x (by simp [opnds])
    have e1 := evo_congr lo (fun x m => hx x (by simp only [opnds, List.mem_cons, List.mem_append]; exact .inr (.inl m)))
    have e2 := evo_congr hi (fun x m => hx x (by simp only [opnds, List.mem_cons, List.mem_append]; exact .inr (.inr (.inl m))))
    have e3 := evo_congr mx (fun x m => hx x (by simp only [opnds, List.mem_cons, List.mem_append]; exact .inr (.inr (.inr m))))
    simp only [opK, e, e1, e2, e3]
  case fieldAddr t x f => have e := hx x (by simp [opnds]); simp only [opK, e]
  case field t x f => have e := hx x (by simp [opnds]); show opField P t (ev ng tm x) f _ = _; rw [e]; rfl
  case indexAddr t x y =>
    have e1 := hx x (by simp [opnds]); have e2 := hx y (by simp [opnds])
    simp only [opK, e1, e2]
  case index t x y =>
    have e1 := hx x (by simp [opnds]); have e2 := hx y (by simp [opnds])
    simp only [opK, e1, e2]
  case lookup t x y ok =>
    have e1 := hx x (by simp [opnds]); have e2 := hx y (by simp [opnds])
    simp only [opK, e1, e2]
  case range t x => have e := hx x (by simp [opnds]); show opRange P t (ev ng tm x) h nx K = _; rw [e]; rfl
  case next x s => have e := hx x (by simp [opnds]); simp only [opK, e]
  case entry x => have e := hx x (by simp [opnds]); simp only [opK, e]
  case typeAssert x s t ok => have e := hx x (by simp [opnds]); simp only [opK, e]
  case extract x ix => have e := hx x (by simp [opnds]); show vT (ev ng tm x) _ = _; rw [e]; rfl
  case makeSlice t l c =>
    have e1 := hx l (by simp [opnds])
    have e2 := hx c (by simp [opnds])
    simp only [opK, e1, e2]
  case panic x => have e := hx x (by simp [opnds]); simp only [opK, e]
  case call c =>
    obtain ⟨callee, args, ts⟩ := c
    cases callee with
    | value f =>
      have e1 := hx f (by simp [opnds])
      have e2 := evs_congr args.toList (fun x m => hx x (by simp only [opnds, List.mem_cons]; exact .inr m))
      show (vF2 (ev ng tm f) (fun g cap => catK (evs ng tm args.toList) cap fun all => ck g all h nx K Kp) (fun g fst => catK fst (evs ng tm args.toList) fun all => ck g all h nx K Kp)) = _
      rw [e1, e2]; rfl
    | invoke a b => rfl
    | builtin b =>
      have e2 := evs_congr args.toList (fun x m => hx x (by simp only [opnds]; exact m))
      show opBuiltin P b ts (evs ng tm args.toList) h nx K = _
      rw [e2]; rfl
def guardT (ops : Array Oper) (g : Option (Nat × Bool)) : Option Nat := g.bind fun p => (ops[p.1]?).bind (·.dst)
def wantV (v : V) (want run skip : Bool) : Bool := V.rec (motive := fun _ => Bool) false (fun _ _ _ _ => false) (fun q => Bool.rec skip run (bs_eq q want)) (fun _ _ => false) (fun _ => false) (fun _ _ => false) false (fun _ _ _ _ => false) false false false (fun _ => false) false (fun _ _ _ => false) false (fun _ _ _ => false) false (fun _ _ => false)
      (fun l _ => chain skip (fun _ _ _ => false) l) (fun _ _ _ _ => false) (fun _ _ => false) (fun _ _ _ _ _ => false) (fun _ _ _ _ _ _ => false) v
theorem wantK_some {ops : Array Oper} {j : Nat} {want : Bool} {d : Nat} (hd : (ops[j]?).bind (·.dst) = some d) (run skip : Bool) : wantK ops tm (some (j, want)) run skip = wantV (gt V.nil d tm) want run skip := by
  simp only [wantK, hd]
  rfl
theorem wantK_none {ops : Array Oper} {j : Nat} {want : Bool} (hd : (ops[j]?).bind (·.dst) = none) (run skip : Bool) : wantK ops tm (some (j, want)) run skip = false := by
  simp only [wantK, hd]
theorem wantK_cases (ops : Array Oper) (tm : T V) (g : Option (Nat × Bool)) :
    (∀ run skip, wantK ops tm g run skip = run) ∨ (∀ run skip, wantK ops tm g run skip = skip) ∨ ∀ run skip, wantK ops tm g run skip = false := by
  cases g with
  | none => exact .inl fun _ _ => rfl
  | some p =>
    obtain ⟨j, want⟩ := p
    cases hd : (ops[j]?).bind (·.dst) with
    | none => exact .inr (.inr fun run skip => wantK_none hd _ _)
    | some d =>
      have key : (∀ run skip, wantV (gt V.nil d tm) want run skip = run) ∨ (∀ run skip, wantV (gt V.nil d tm) want run skip = skip) ∨ ∀ run skip, wantV (gt V.nil d tm) want run skip = false := by
        generalize gt V.nil d tm = v
        cases v <;> first | exact .inr (.inr fun _ _ => rfl) | skip
        case b q => cases q <;> cases want <;> first | exact .inl fun _ _ => rfl | exact .inr (.inl fun _ _ => rfl)
        case t l => cases l <;> first | exact .inr (.inl fun _ _ => rfl) | exact .inr (.inr fun _ _ => rfl)
      rcases key with k | k | k
      · exact .inl fun run skip => (wantK_some hd _ _).trans (k _ _)
      · exact .inr (.inl fun run skip => (wantK_some hd _ _).trans (k _ _))
      · exact .inr (.inr fun run skip => (wantK_some hd _ _).trans (k _ _))
theorem wantK_congr {ops : Array Oper} {g : Option (Nat × Bool)} (hx : ∀ d, guardT ops g = some d → gt V.nil d tm = gt V.nil d tm') : wantK ops tm g = wantK ops tm' g := by
  funext run skip
  cases g with
  | none => rfl
  | some p =>
    obtain ⟨j, want⟩ := p
    cases hd : (ops[j]?).bind (·.dst) with
    | none => rw [wantK_none hd, wantK_none hd]
    | some d => rw [wantK_some hd, wantK_some hd, hx d (by simpa [guardT] using hd)]
theorem wantK_run {ops : Array Oper} {o : Oper} {a : Act} (ht : TR ρ tm a) (h1 : ∀ run skip, wantK ops tm o.guard run skip = run) : Region.wanted o (yielded ops a.tmps) = true := by
  have e := h1 true false
  unfold Region.wanted
  cases hg : o.guard with
  | none => rfl
  | some p =>
    obtain ⟨j, want⟩ := p
    rw [hg] at e
    cases hd : (ops[j]?).bind (·.dst) with
    | none => rw [wantK_none hd] at e; exact Bool.noConfusion e
    | some d =>
      rw [wantK_some hd] at e
      have hv := ht d
      simp only [Array.getD_eq_getD_getElem?] at hv
      generalize gt V.nil d tm = v at e hv
      cases v <;> first | exact Bool.noConfusion e | skip
      case b q =>
        simp only [VR] at hv
        have hq : q = want := by cases q <;> cases want <;> first | rfl | exact Bool.noConfusion e
        subst hq
        have : a.tmps[d]? = some (.bool q) := by
          cases hx : a.tmps[d]? with
          | none => rw [hx] at hv; simp [undef] at hv
          | some y => rw [hx] at hv; simpa using hv
        simp [yielded, hd, this]
      case t l => cases l <;> exact Bool.noConfusion e
theorem wantK_skip {ops : Array Oper} {o : Oper} {a : Act} (ht : TR ρ tm a) (h1 : ∀ run skip, wantK ops tm o.guard run skip = skip) : Region.wanted o (yielded ops a.tmps) = false := by
  have e := h1 false true
  unfold Region.wanted
  cases hg : o.guard with
  | none => rw [hg] at e; exact Bool.noConfusion e
  | some p =>
    obtain ⟨j, want⟩ := p
    rw [hg] at e
    cases hd : (ops[j]?).bind (·.dst) with
    | none => rw [wantK_none hd] at e; exact Bool.noConfusion e
    | some d =>
      rw [wantK_some hd] at e
      have hv := ht d
      simp only [Array.getD_eq_getD_getElem?] at hv
      generalize gt V.nil d tm = v at e hv
      cases v <;> first | exact Bool.noConfusion e | skip
      case b q =>
        simp only [VR] at hv
        have : a.tmps[d]? = some (.bool q) := by
          cases hx : a.tmps[d]? with
          | none => rw [hx] at hv; simp [undef] at hv
          | some y => rw [hx] at hv; simpa using hv
        cases q <;> cases want <;> first | exact Bool.noConfusion e | simp [yielded, hd, this]
      case t l =>
        cases l <;> first | exact Bool.noConfusion e | (simp [VR, VRs] at hv; done) | skip
        simp only [VR, VRs] at hv
        obtain ⟨vs, rfl, hv⟩ := hv
        have : yielded ops a.tmps j = none := by
          simp only [yielded, hd, Option.bind_some]
          cases hx : a.tmps[d]? with
          | none => rfl
          | some y => rw [hx] at hv; simp at hv; subst hv; rfl
        simp [this]
end
end Go.Mx
namespace Go.Mx
noncomputable section
variable {P : Program} {ng : Nat}
theorem tb_eq (m i : Nat) : tb m i = m.testBit i := by
  have h : tb m i = decide (m / 2 ^ i % 2 = 1) := by
    show Nat.beq ((m >>> i) &&& 1) 1 = _
    rw [Nat.shiftRight_eq_div_pow, Nat.and_one_is_mod]
    cases e : Nat.beq (m / 2 ^ i % 2) 1 with
    | true => have := Nat.eq_of_beq_eq_true e; simp [this]
    | false => have := Nat.ne_of_beq_eq_false e; simp [this]
  rw [h, Nat.testBit_eq_decide_div_mod_eq]
theorem bit_test (i j : Nat) : (bit i).testBit j = decide (i = j) := by
  show (1 <<< i).testBit j = _
  rw [Nat.one_shiftLeft, Nat.testBit_two_pow]
theorem bit_self (i : Nat) : (bit i).testBit i = true := by rw [bit_test]; simp
theorem lor_test (a b i : Nat) : (Nat.lor a b).testBit i = (a.testBit i || b.testBit i) := Nat.testBit_or a b i
theorem land_test (a b i : Nat) : (Nat.land a b).testBit i = (a.testBit i && b.testBit i) := Nat.testBit_and a b i
theorem bindB_eq (e : Edge) : bindB e = Region.binds .any e := by
  obtain ⟨on, g⟩ := e
  cases g <;> rfl
theorem lookM_of {l : List Operand} {m t : Nat} (h : Operand.tmp t ∈ l ∨ m.testBit t = true) : (lookM l m).testBit t = true := by
  induction l with
  | nil => rcases h with h | h
           · simp at h
           · exact h
  | cons x l ih =>
    have e : lookM (x :: l) m = Operand.rec (motive := fun _ => Nat) (fun t => Nat.lor (bit t) (lookM l m)) (fun _ => lookM l m) (fun _ => lookM l m) (fun _ => lookM l m) x := rfl
    rw [e]
    by_cases hx : x = .tmp t
    · subst hx
      show (Nat.lor (bit t) (lookM l m)).testBit t = true
      rw [lor_test, bit_self]; rfl
    · have h' : (lookM l m).testBit t = true := ih (by
        rcases h with h | h
        · rcases List.mem_cons.1 h with h | h
          · exact absurd h.symm hx
          · exact .inl h
        · exact .inr h)
      cases x with
      | tmp u =>
        show (Nat.lor (bit u) (lookM l m)).testBit t = true
        rw [lor_test, h']; simp
      | _ => exact h'
theorem dstM_of {d : Option Nat} {t : Nat} : (dstM d).testBit t = true ↔ d = some t := by
  cases d with
  | none => simp [dstM]
  | some u => show (bit u).testBit t = true ↔ _; rw [bit_test]; simp
theorem guardM_of {ops : Array Oper} {g : Option (Nat × Bool)} {t : Nat} (h : guardT ops g = some t) : (guardM ops g).testBit t = true := by
  cases g with
  | none => simp [guardT] at h
  | some p => exact dstM_of.2 (by simpa [guardT] using h)
def looksT (ops : Array Oper) (o : Oper) (t : Nat) : Prop := .tmp t ∈ opnds o.op ∨ guardT ops o.guard = some t
theorem predsIn_spec {dn i : Nat} {l : List Edge} (h : predsIn dn i l = true) : ∀ e ∈ l, bindB e = true → dn.testBit e.on = true ∧ e.on < i := by
  induction l with
  | nil => simp
  | cons e l ih =>
    have h' : (Bool.rec (predsIn dn i l) (ite1 (tb dn e.on) <| ite1 (Nat.blt e.on i) (predsIn dn i l)) (bindB e) : Bool) = true := h
    intro e' he' hb
    cases hbe : bindB e with
    | false =>
      rw [hbe] at h'
      rcases List.mem_cons.1 he' with rfl | he'
      · rw [hbe] at hb; cases hb
      · exact ih h' e' he' hb
    | true =>
      rw [hbe] at h'
      obtain ⟨h1, h2⟩ := ite1_spec h'
      obtain ⟨h3, h4⟩ := ite1_spec h2
      rcases List.mem_cons.1 he' with rfl | he'
      · rw [tb_eq] at h1; exact ⟨h1, Nat.blt_eq.mp h3⟩
      · exact ih h4 e' he' hb
theorem lacks_spec {dn : Nat} {l : List Edge} (h : lacks dn l = true) : ∃ e ∈ l, bindB e = true ∧ dn.testBit e.on = false := by
  induction l with
  | nil => exact Bool.noConfusion h
  | cons e l ih =>
    have h' : (Bool.rec (lacks dn l) (Bool.rec true (lacks dn l) (tb dn e.on)) (bindB e) : Bool) = true := h
    have go : lacks dn l = true → ∃ e' ∈ e :: l, bindB e' = true ∧ dn.testBit e'.on = false := fun h => by
      obtain ⟨e', h1, h2⟩ := ih h
      exact ⟨e', List.mem_cons_of_mem _ h1, h2⟩
    cases hbe : bindB e with
    | false => rw [hbe] at h'; exact go h'
    | true =>
      rw [hbe] at h'
      cases ht : tb dn e.on with
      | false => rw [tb_eq] at ht; exact ⟨e, List.mem_cons_self .., hbe, ht⟩
      | true => rw [ht] at h'; exact go h'
theorem predM_spec {mt : T Nat} {l : List Edge} {j : Nat} (h : (predM mt l).testBit j = true) : ∃ e ∈ l, bindB e = true ∧ (j = e.on ∨ (gt 0 e.on mt).testBit j = true) := by
  induction l with
  | nil => simp [predM] at h
  | cons e l ih =>
    have h' : (Bool.rec (predM mt l) (Nat.lor (Nat.lor (gt 0 e.on mt) (bit e.on)) (predM mt l)) (bindB e) : Nat).testBit j = true := h
    have go : (predM mt l).testBit j = true → ∃ e' ∈ e :: l, bindB e' = true ∧ (j = e'.on ∨ (gt 0 e'.on mt).testBit j = true) := fun h => by
      obtain ⟨e', h1, h2⟩ := ih h
      exact ⟨e', List.mem_cons_of_mem _ h1, h2⟩
    cases hbe : bindB e with
    | false => rw [hbe] at h'; exact go h'
    | true =>
      rw [hbe] at h'
      simp only [lor_test, Bool.or_eq_true, bit_test, decide_eq_true_eq] at h'
      rcases h' with (h1 | h1) | h1
      · exact ⟨e, List.mem_cons_self .., hbe, .inr h1⟩
      · exact ⟨e, List.mem_cons_self .., hbe, .inl h1.symm⟩
      · exact go h1
theorem predD_spec {dt : T Nat} {l : List Edge} {t : Nat} (h : (predD dt l).testBit t = true) : ∃ e ∈ l, bindB e = true ∧ (gt 0 e.on dt).testBit t = true := by
  induction l with
  | nil => simp [predD] at h
  | cons e l ih =>
    have h' : (Bool.rec (predD dt l) (Nat.lor (gt 0 e.on dt) (predD dt l)) (bindB e) : Nat).testBit t = true := h
    have go : (predD dt l).testBit t = true → ∃ e' ∈ e :: l, bindB e' = true ∧ (gt 0 e'.on dt).testBit t = true := fun h => by
      obtain ⟨e', h1, h2⟩ := ih h
      exact ⟨e', List.mem_cons_of_mem _ h1, h2⟩
    cases hbe : bindB e with
    | false => rw [hbe] at h'; exact go h'
    | true =>
      rw [hbe] at h'
      simp only [lor_test, Bool.or_eq_true] at h'
      rcases h' with h1 | h1
      · exact ⟨e, List.mem_cons_self .., hbe, h1⟩
      · exact go h1
structure Added (ops : Array Oper) (war : Bool) (i : Nat) (o : Oper) (d d' : DS) : Prop where
  new : d.dn.testBit i = false
  pr : ∀ e ∈ o.after.toList, bindB e = true → d.dn.testBit e.on = true ∧ e.on < i
  own : ∀ t, o.dst = some t → ¬ looksT ops o t ∧ d.dd.testBit t = false
  dep : ∀ t, looksT ops o t → d.dd.testBit t = true → ∃ e ∈ o.after.toList, bindB e = true ∧ (gt 0 e.on d.dt).testBit t = true
  war : (∀ t, o.dst = some t → d.dl.testBit t = false) ∨ (war = true ∧ ∀ j, d.dn.testBit j = true → (gt 0 i d'.mt).testBit j = true)
  dn : ∀ j, d'.dn.testBit j = true ↔ d.dn.testBit j = true ∨ j = i
  dl : ∀ t, d.dl.testBit t = true ∨ looksT ops o t → d'.dl.testBit t = true
  dd : ∀ t, d.dd.testBit t = true ∨ o.dst = some t → d'.dd.testBit t = true
  mt : ∀ j, (gt 0 i d'.mt).testBit j = true → ∃ e ∈ o.after.toList, bindB e = true ∧ (j = e.on ∨ (gt 0 e.on d.mt).testBit j = true)
  mt' : ∀ k, k ≠ i → gt 0 k d'.mt = gt 0 k d.mt
  dt : ∀ t, (gt 0 i d'.dt).testBit t = true → o.dst = some t
  dt' : ∀ k, k ≠ i → gt 0 k d'.dt = gt 0 k d.dt
theorem addK_spec {ops : Array Oper} {war : Bool} {i : Nat} {o : Oper} {d : DS} {k : DS → Bool} (h : addK ops war i o d k = true) : ∃ d', k d' = true ∧ Added ops war i o d d' := by
  obtain ⟨dst, op, ty, pos, after, guard⟩ := o
  obtain ⟨dn, dl, dd, mt, dt⟩ := d
  simp only [addK, forceN_eq, stK_eq] at h
  obtain ⟨h1, h⟩ := ite1_spec h
  obtain ⟨h2, h⟩ := ite1_spec h
  obtain ⟨h3, h⟩ := ite1_spec h
  obtain ⟨h4, h⟩ := ite1_spec h
  obtain ⟨h5, h⟩ := ite1_spec h
  have h3 := beq_spec h3
  have h4 := beq_spec h4
  have hl : ∀ t, looksT ops ⟨dst, op, ty, pos, after, guard⟩ t → (lookM (opnds op) (guardM ops guard)).testBit t = true := fun t ht => by
    rcases ht with ht | ht
    · exact lookM_of (.inl ht)
    · exact lookM_of (.inr (guardM_of ht))
  refine ⟨_, h, ?_, predsIn_spec h2, ?_, ?_, ?_, ?_, ?_, ?_, ?_, ?_, ?_, ?_⟩
  · show dn.testBit i = false
    rw [← tb_eq]
    cases e : tb dn i with
    | false => rfl
    | true => rw [e] at h1; exact Bool.noConfusion h1
  · intro t ht
    have hb := congrArg (fun n => Nat.testBit n t) h3
    simp only [land_test, lor_test, dstM_of.2 ht, Bool.true_and, Nat.zero_testBit, Bool.or_eq_false_iff] at hb
    refine ⟨fun hl' => ?_, hb.2⟩
    rw [hl t hl'] at hb
    exact Bool.noConfusion hb.1
  · intro t ht hd
    have hb := congrArg (fun n => Nat.testBit n t) h4
    simp only [land_test, hl t ht, Bool.true_and] at hb
    have hd : dd.testBit t = true := hd
    rw [hd] at hb
    simp only [Bool.true_and] at hb
    exact predD_spec hb
  · cases e : Nat.beq (Nat.land (dstM dst) dl) 0 with
    | true =>
      refine .inl fun t ht => ?_
      have hb := congrArg (fun n => Nat.testBit n t) (beq_spec e)
      simp only [land_test, dstM_of.2 ht, Bool.true_and, Nat.zero_testBit] at hb
      exact hb
    | false =>
      rw [e] at h5
      obtain ⟨h6, h7⟩ := ite1_spec h5
      refine .inr ⟨h6, fun j hj => ?_⟩
      have hb := congrArg (fun n => Nat.testBit n j) (beq_spec h7)
      have hj : dn.testBit j = true := hj
      simp only [land_test, hj, Bool.true_and] at hb
      show (gt 0 i (st 0 _ i mt)).testBit j = true
      rw [gt_st_same]
      exact hb
  · intro j
    show (Nat.lor dn (bit i)).testBit j = true ↔ _
    rw [lor_test, bit_test]
    simp only [Bool.or_eq_true, decide_eq_true_eq]
    exact ⟨fun h => h.imp id Eq.symm, fun h => h.imp id Eq.symm⟩
  · intro t ht
    show (Nat.lor dl _).testBit t = true
    rw [lor_test]
    rcases ht with ht | ht
    · have ht : dl.testBit t = true := ht
      rw [ht]; rfl
    · rw [hl t ht]; simp
  · intro t ht
    show (Nat.lor dd _).testBit t = true
    rw [lor_test]
    rcases ht with ht | ht
    · have ht : dd.testBit t = true := ht
      rw [ht]; rfl
    · rw [dstM_of.2 ht]; simp
  · intro j hj
    have hj : (gt 0 i (st 0 (predM mt after.toList) i mt)).testBit j = true := hj
    rw [gt_st_same] at hj
    exact predM_spec hj
  · intro k hk
    exact gt_st_ne _ _ (Ne.symm hk) _
  · intro t ht
    have ht : (gt 0 i (st 0 (dstM dst) i dt)).testBit t = true := ht
    rw [gt_st_same] at ht
    exact dstM_of.1 ht
  · intro k hk
    exact gt_st_ne _ _ (Ne.symm hk) _
end
end Go.Mx
