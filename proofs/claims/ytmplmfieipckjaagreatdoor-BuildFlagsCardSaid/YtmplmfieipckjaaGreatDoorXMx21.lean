/-
  A part of a small executor of the model, proved sound (Mx21 of 46). No condition.
-/
import Derived.Test.YtmplmfieipckjaaGreatDoorXMx20
namespace Go.Mx
noncomputable section
variable {P : Program} {ρ : Ren} {h : T O} {nx : Nat} {w : World} {ng : Nat} {β : Type}
theorem St.phantom (s : St ρ h nx w) (ob : O) : St ρ (st O.none ob nx h) (nx + 1) w := by
  have hf : ρ nx = none := s.fresh nx (Nat.le_refl _)
  refine ⟨?_, ?_, fun i hi => s.fresh i (by omega), fun i hi => ?_⟩
  · intro id L hl hL
    have e : nx ≠ id := fun e => by rw [← e, hf] at hL; cases hL
    rw [gt_st_ne _ _ e] at hl ⊢
    exact s.rel id L hl hL
  · intro i j L M hi hj hL hM hb
    have e1 : nx ≠ i := fun e => by rw [← e, hf] at hL; cases hL
    have e2 : nx ≠ j := fun e => by rw [← e, hf] at hM; cases hM
    rw [gt_st_ne _ _ e1] at hi
    rw [gt_st_ne _ _ e2] at hj
    exact s.inj i j L M hi hj hL hM hb
  · rw [gt_st_ne _ _ (by omega)]
    exact s.dead i (by omega)
theorem St.late (s : St ρ h nx w) {id : Nat} {n : Nat} {obj : Obj} (hid : id < nx) (hn : ρ id = none) (ho : OR ρ ⟨w.heap.size, 0, n⟩ (gt O.none id h) obj) :
    St (upd ρ id ⟨w.heap.size, 0, n⟩) h nx (w.alloc obj) := by
  have hle := upd_le (L := ⟨w.heap.size, 0, n⟩) hn
  refine ⟨?_, ?_, fun i hi => by rw [upd_ne _ _ (by omega)]; exact s.fresh i hi, s.dead⟩
  · intro j L hl hL
    by_cases e : j = id
    · subst e
      rw [upd_same] at hL; cases hL
      exact ⟨obj, by show (w.heap.push obj)[w.heap.size]? = some obj; simp, ho.mono hle⟩
    · rw [upd_ne _ _ e] at hL
      obtain ⟨o', h2, h3⟩ := s.rel j L hl hL
      refine ⟨o', ?_, h3.mono hle⟩
      have hlt := (Array.getElem?_eq_some_iff.1 h2).1
      show (w.heap.push obj)[L.blk]? = some o'
      rw [Array.getElem?_push, if_neg (by omega)]
      exact h2
  · intro i j L M hi hj hL hM hb
    by_cases ei : i = id
    · by_cases ej : j = id
      · rw [ei, ej]
      · subst ei
        rw [upd_same] at hL; cases hL
        rw [upd_ne _ _ ej] at hM
        have := s.lt hj hM
        simp at hb; omega
    · by_cases ej : j = id
      · subst ej
        rw [upd_same] at hM; cases hM
        rw [upd_ne _ _ ei] at hL
        have := s.lt hi hL
        simp at hb; omega
      · rw [upd_ne _ _ ei] at hL
        rw [upd_ne _ _ ej] at hM
        exact s.inj i j L M hi hj hL hM hb
def MakesX (P : Program) (ng : Nat) (ck : CK) (tm : T V) (o : Op) (mk : Nat → V) (ob : O) : Prop :=
  (∀ h nx K Kp, opK P ng ck tm o h nx K Kp = K (mk nx) (st O.none ob nx h) (nx + 1)) ∧ ob.live
def MakesM (P : Program) (ρ : Ren) (a : Act) (o : Oper) (mk : Nat → V) (ob : O) : Prop :=
  ∀ w, ∃ obj v n, (execOp a.eval o).run P w = .ok (.value v) (w.alloc obj) ∧ OR ρ ⟨w.heap.size, 0, n⟩ ob obj ∧ ∀ id ρ', ρ' id = some ⟨w.heap.size, 0, n⟩ → VR ρ' (mk id) v
theorem newV_eq (c : V) (ty : TypeId) (K : Nat → T O → Nat → Bool) : newV c ty h nx K = K nx (st O.none (.v c ty) nx h) (nx + 1) := by
  unfold newV
  rw [stK_eq]
theorem newK_eq (c : V) (ty : TypeId) (K : Nat → T O → Nat → Bool) : newK c ty h nx K = K nx (st O.none (.c c ty true) nx h) (nx + 1) := by
  unfold newK
  rw [stK_eq]
theorem lin_repK (z : V) : ∀ n, LinK (repK z n) := by
  intro n
  induction n with
  | zero => exact lin_k _
  | succ n ih => show LinK fun K : V → Bool => repK z n fun c => catK z c K; exact lin_bind ih fun c => lin_catK _ _
def bsc (P : Program) (t : TypeId) (len : Nat) (ps : List (Nat × V)) (K : V × Nat → Bool) : Bool :=
  Nat.rec (motive := fun _ => Bool) false (fun sz _ => ite1 (Nat.blt 0 sz) <| ite1 (Nat.ble (len * sz) 16777216) <| Option.rec (motive := fun _ => Bool) false (fun z => lenK z 0 fun zn => ite1 (Nat.beq zn sz) <| repK z len fun c => fillK (placeS P t) ps c fun c' =>
    K (c', sz)) (zeroC P (slT P t))) (slE P t)
theorem lin_bsc (t : TypeId) (len : Nat) (ps : List (Nat × V)) : LinK (bsc P t len ps) :=
  lin_nat (β := V × Nat) _ lin_no fun _sz => lin_ite1 _ (lin_ite1 _ (lin_opt _ lin_no fun _z => lin_bind (lin_lenK _ _) fun _zn => lin_ite1 _ (lin_bind (lin_repK _ _) fun _c => lin_bind (lin_fillK _ _ _) fun _c' => lin_k _)))
theorem bsc_eq (t : TypeId) (len : Nat) (ps : List (Nat × V)) (K : KV) : opBuildSlice P t len ps h nx K = bsc P t len ps fun p => K (.sl nx 0 len p.2) (st O.none (.c p.1 (slT P t) true) nx h) (nx + 1) := by
  unfold opBuildSlice bsc
  simp only [newK_eq]
theorem bsc_sound {t : TypeId} {len : Nat} {ps : List (Nat × V)} {vs : Array (Nat × Value)} {K : V × Nat → Bool} (hk : bsc P t len ps K = true) (hr : PsR ρ ps vs.toList) :
    ∃ c' sz cells', K (c', sz) = true ∧ CR ρ c' cells' ∧ len * sz ≤ cells'.length ∧ ∀ w : World, (Instr.buildSlice t len vs).run P w = .ok (.slice (some ⟨w.heap.size, 0, none⟩) len len) (w.alloc (.cells ⟨cells'⟩ (slT P t))) := by
  cases hE : slE P t with
  | zero => unfold bsc at hk; rw [hE] at hk; exact Bool.noConfusion hk
  | succ sz =>
    unfold bsc at hk
    rw [hE] at hk
    obtain ⟨e1, hk⟩ := ite1_spec hk
    obtain ⟨e2, hk⟩ := ite1_spec hk
    have e1 := Nat.blt_eq.mp e1
    have e2 := Nat.le_of_ble_eq_true e2
    obtain ⟨ie, hu, hie, hsz⟩ := slE_spec hE
    cases hz : zeroC P (slT P t) with
    | none => rw [hz] at hk; exact Bool.noConfusion hk
    | some z =>
      rw [hz] at hk
      obtain ⟨zv, hzv, hzr⟩ := zeroC_spec hz
      obtain ⟨zn, hk, hzn, _⟩ := lenK_spec (show lenK z 0 (fun zn => ite1 (Nat.beq zn sz) <| repK z len fun c => fillK (placeS P t) ps c fun c' => K (c', sz)) = true from hk) (VRs_isC (hzr ρ))
      rw [Nat.zero_add] at hk
      obtain ⟨e3, hk⟩ := ite1_spec hk
      have e3 := beq_spec e3
      have hzs : zv.cells.size = sz := by have := hzn ρ _ (hzr ρ); simp at this; omega
      obtain ⟨c, hk, hrep⟩ := repK_spec hk (VRs_isC (hzr ρ))
      have hc := hrep ρ _ (hzr ρ)
      have hcells : ((Array.range (len * sz)).map ((if len * sz = 0 then #[] else zv.cells)[· % (if len * sz = 0 then (#[] : Array Value) else zv.cells).size]!)).toList = (List.replicate len zv.cells.toList).flatten := by
        by_cases h0 : len * sz = 0
        · have hl : len = 0 := by
            rcases Nat.mul_eq_zero.1 h0 with h | h
            · exact h
            · omega
          subst hl
          simp
        · rw [if_neg h0]
          have := range_mod zv.cells (by omega) len
          rw [← this, hzs]
          simp
      obtain ⟨c', cells', hk, h2, h3, h4⟩ := fillK_sound (place := placeS P t) (place' := fun i => some (i * sz, sz)) (fun i o s hp => by
        unfold placeS at hp
        rw [hE] at hp
        simp at hp
        obtain ⟨rfl, rfl⟩ := hp
        rfl) (cells := (Array.range (len * sz)).map ((if len * sz = 0 then #[] else zv.cells)[· % (if len * sz = 0 then (#[] : Array Value) else zv.cells).size]!)) hk hr (by rw [hcells]; exact hc)
      refine ⟨c', sz, _, hk, h2.CR', ?_, fun w => ?_⟩
      · simp at h4
        simp [h4]
      · have hle : ¬ (len * sz > 2 ^ 24) := by simp; omega
        unfold Instr.buildSlice
        by_cases h0 : len * sz = 0
        · simp only [h0, if_true] at h3
          have hle0 : ¬ (0 > 2 ^ 24) := by decide
          simp only [Sem.run_bind, run_und hu, Result.andThen_ok, run_size hie, hsz, hle0, if_false, h0, if_true, Sem.run_pure, h3, newRow, run_newObj]
          rfl
        · simp only [h0, if_false] at h3
          simp only [Sem.run_bind, run_und hu, Result.andThen_ok, run_size hie, hsz, hle, if_false, h0, Sem.run_pure, hzv, h3, newRow, run_newObj]
          rfl
theorem OR_new {c : V} {vs : List Value} {ty : TypeId} (hc : CR ρ c vs) : OR ρ ⟨w.heap.size, 0, vs.length⟩ (.c c ty true) (.cells ⟨vs⟩ ty) :=
  ⟨⟨vs⟩, (0, 0), rfl, by simp, by intro q _; simp, Nat.zero_le _, by simpa using hc⟩
open Classical in
theorem opK_makes {ck : CK} {tm : T V} {o : Oper} (hc : clsOp P o.op = 1) {K Kp : KV} (hk : opK P ng ck tm o.op h nx K Kp = true) :
    ∃ mk ob, MakesX P ng ck tm o.op mk ob ∧ ∀ ρ a, RG ng ρ → TR ρ tm a → MakesM P ρ a o mk ob := by
  obtain ⟨dst, o, ty, pos, after, guard⟩ := o
  cases o <;> first | (exact absurd hc (by simp only [clsOp]; decide)) | skip
  case convert s d x => exact absurd hc (by simp only [clsOp]; cases Nat.beq (tyk P d) 20 <;> decide)
  case call c =>
    obtain ⟨callee, args, ts⟩ := c
    cases callee with
    | value f => exact absurd hc (by simp only [clsOp]; decide)
    | invoke a b => exact absurd hc (by simp only [clsOp]; decide)
    | builtin b => exact absurd hc (by cases b <;> simp only [clsOp] <;> decide)
  case alloc t =>
    have hk2 : opAlloc P t h nx K = true := hk
    cases hz : zeroC P t with
    | none => unfold opAlloc at hk2; rw [hz] at hk2; exact Bool.noConfusion hk2
    | some c =>
      obtain ⟨v, hv, hc⟩ := zeroC_spec hz
      refine ⟨fun id => .p id 0, .v c t, ⟨fun h nx K Kp => ?_, trivial⟩, fun ρ a _ _ w => ⟨.cells v.cells t, .pointer (some ⟨w.heap.size, 0, none⟩), v.cells.toList.length, ?_, ⟨v.cells.toList, rfl, rfl, rfl, hc ρ⟩, fun id ρ' hid => ?_⟩⟩
      · show opAlloc P t h nx K = _
        unfold opAlloc
        rw [hz]
        exact newV_eq _ _ _
      · exact vrun (by simp [Instr.alloc, hv, newVar_run])
      · simp only [VR]; exact ⟨_, hid, rfl⟩
  case box t x =>
    have hk2 : opBox t (ev ng tm x) h nx K = true := hk
    rcases lin_cellsK (ev ng tm x) with g | ⟨c, g⟩
    · unfold opBox at hk2; rw [g] at hk2; exact Bool.noConfusion hk2
    · refine ⟨fun id => .p id 0, .v c t, ⟨fun h nx K Kp => ?_, trivial⟩, fun ρ a hg ht w => ?_⟩
      · show opBox t (ev ng tm x) h nx K = _
        unfold opBox
        rw [g]
        exact newV_eq _ _ _
      · obtain ⟨c', hk3, hc'⟩ := cellsK_spec (v := ev ng tm x) (k := fun c' => decide (c' = c)) (by rw [g]; simp)
        have hk3 := of_decide_eq_true hk3
        subst hk3
        refine ⟨.cells (a.eval x).cells t, .pointer (some ⟨w.heap.size, 0, none⟩), (a.eval x).cells.toList.length, ?_, ⟨_, rfl, rfl, rfl, hc' ρ _ (ev_rel hg ht x)⟩, fun id ρ' hid => ?_⟩
        · exact vrun (by simp [Instr.box, newVar_run])
        · simp only [VR]; exact ⟨_, hid, rfl⟩
  case buildSlice t n ps =>
    have hk2 : opBuildSlice P t n (evp ng tm ps.toList) h nx K = true := hk
    rw [bsc_eq] at hk2
    rcases lin_bsc (P := P) t n (evp ng tm ps.toList) with g | ⟨⟨c, sz⟩, g⟩
    · rw [g] at hk2; exact Bool.noConfusion hk2
    · refine ⟨fun id => .sl id 0 n sz, .c c (slT P t) true, ⟨fun h nx K Kp => ?_, trivial⟩, fun ρ a hg ht w => ?_⟩
      · show opBuildSlice P t n (evp ng tm ps.toList) h nx K = _
        rw [bsc_eq, g]
      · obtain ⟨c', sz', cells', hk3, h2, h3, h4⟩ := bsc_sound (P := P) (ρ := ρ) (vs := ps.map fun (i, x) => (i, a.eval x)) (t := t) (len := n) (ps := evp ng tm ps.toList) (K := fun p => decide (p = (c, sz))) (by rw [g]; simp) (by simpa using evp_rel hg ht ps.toList)
        have hk3 := of_decide_eq_true hk3
        cases hk3
        refine ⟨_, .slice (some ⟨w.heap.size, 0, none⟩) n n, _, vrun (h4 w), OR_new h2, fun id ρ' hid => ?_⟩
        exact VR_sl hid (Nat.le_refl _) (by simpa using h3) rfl
end
end Go.Mx
