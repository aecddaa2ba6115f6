/-
  A part of a small executor of the model, proved sound (7 of 28). No condition.
-/
import Derived.Test.YthocoonhoilmdaaGreatDoorXMx13
namespace Go.Mx
open Builtin
noncomputable section
variable {P : Program} {ρ : Ren} {h : T O} {nx : Nat} {w : World}
theorem St.move {ρ : Ren} {h : T O} {nx : Nat} {w : World} (s : St ρ h nx w) {id : Nat} {L M : Loc} (hw : (gt O.none id h).wr) (hL : ρ id = some L) (hM : M.blk = L.blk) {o : O} {ob : Obj}
    (ho : OR (upd ρ nx M) M o ob) {w' : World} (e : w'.heap = w.heap.setIfInBounds L.blk ob) (e1 : w'.os = w.os) (e2 : w'.tape = w.tape) (e3 : w'.output = w.output) :
    St (upd ρ nx M) (st O.none o nx (st O.none O.none id h)) (nx + 1) w' ∧ Ext ρ h w (upd ρ nx M) (st O.none o nx (st O.none O.none id h)) w' := by
  have hlt := s.lt (O.live_of_wr hw) hL
  have hf : ρ nx = none := s.fresh nx (Nat.le_refl _)
  have hle := upd_le (L := M) hf
  have hne : id ≠ nx := fun e => by rw [e, hf] at hL; cases hL
  have old : ∀ j, j ≠ nx → (gt O.none j (st O.none o nx (st O.none O.none id h))) = if j = id then O.none else gt O.none j h := by
    intro j hj
    rw [gt_st_ne _ _ (Ne.symm hj)]
    by_cases e : j = id
    · subst e; rw [gt_st_same, if_pos rfl]
    · rw [gt_st_ne _ _ (Ne.symm e), if_neg e]
  have hid : id < nx := Nat.lt_of_not_le fun hc => by rw [s.fresh id hc] at hL; cases hL
  refine ⟨⟨?_, ?_, ?_, ?_⟩, hle, by rw [e]; simp, e1, e2, e3, ?_, ?_⟩
  · intro j N hl h1
    by_cases ej : j = nx
    · subst ej
      rw [gt_st_same] at hl ⊢
      rw [upd_same] at h1; cases h1
      exact ⟨ob, by rw [e, hM]; simp [hlt], ho⟩
    · rw [old j ej] at hl ⊢
      by_cases ei : j = id
      · rw [if_pos ei] at hl; exact hl.elim
      · rw [if_neg ei] at hl ⊢
        rw [upd_ne _ _ ej] at h1
        obtain ⟨o', h2, h3⟩ := s.rel j N hl h1
        refine ⟨o', ?_, h3.mono hle⟩
        rw [e, Array.getElem?_setIfInBounds_ne]
        · exact h2
        · intro hb
          exact ei (s.inj id j L N hw hl hL h1 hb).symm
  · intro i j A B hi hj hA hB hb
    by_cases ei : i = nx
    · subst ei
      rw [upd_same] at hA; cases hA
      by_cases ej : j = i
      · exact ej.symm
      · rw [old j ej] at hj
        rw [upd_ne _ _ ej] at hB
        by_cases ek : j = id
        · rw [if_pos ek] at hj; exact hj.elim
        · rw [if_neg ek] at hj
          exact (ek (s.inj id j L B hw hj hL hB (by rw [← hM]; exact hb)).symm).elim
    · rw [old i ei] at hi
      rw [upd_ne _ _ ei] at hA
      by_cases ek : i = id
      · rw [if_pos ek] at hi; exact hi.elim
      · rw [if_neg ek] at hi
        by_cases ej : j = nx
        · subst ej
          rw [upd_same] at hB; cases hB
          exact (ek (s.inj id i L A hw (O.live_of_wr hi) hL hA (by rw [← hM]; exact hb.symm)).symm).elim
        · rw [old j ej] at hj
          rw [upd_ne _ _ ej] at hB
          by_cases el : j = id
          · rw [if_pos el] at hj; exact hj.elim
          · rw [if_neg el] at hj
            exact s.inj i j A B hi hj hA hB hb
  · intro i hi
    rw [upd_ne _ _ (by omega)]
    exact s.fresh i (by omega)
  · intro i hi
    rw [old i (by omega)]
    split
    · exact fun hl => hl
    · exact s.dead i (by omega)
  · intro b hb hk
    refine ⟨?_, fun q N hq hN => ?_⟩
    · rw [e, Array.getElem?_setIfInBounds_ne]
      exact hk id L hw hL
    · by_cases eq : q = nx
      · subst eq
        rw [upd_same] at hN; cases hN
        rw [hM]; exact hk id L hw hL
      · rw [old q eq] at hq
        rw [upd_ne _ _ eq] at hN
        by_cases el : q = id
        · rw [if_pos el] at hq; exact hq.elim
        · rw [if_neg el] at hq
          exact hk q N hq hN
  · intro q hq hn
    have e1 : q ≠ nx := fun e => s.dead nx (Nat.le_refl _) (e ▸ hq)
    have e2 : q ≠ id := fun e => by subst e; rw [hn] at hL; cases hL
    exact ⟨by rw [upd_ne _ _ e1]; exact hn, by rw [old q e1, if_neg e2]⟩
theorem St.kill {ρ : Ren} {h : T O} {nx : Nat} {w : World} (s : St ρ h nx w) {id : Nat} {L : Loc} (hL : ρ id = some L) : St ρ (st O.none O.none id h) nx w ∧ Ext ρ h w ρ (st O.none O.none id h) w := by
  have old : ∀ j, (gt O.none j (st O.none O.none id h)).live → gt O.none j (st O.none O.none id h) = gt O.none j h ∧ (gt O.none j h).live := by
    intro j hj
    by_cases e : id = j
    · subst e; rw [gt_st_same] at hj; exact hj.elim
    · rw [gt_st_ne _ _ e] at hj ⊢; exact ⟨rfl, hj⟩
  have hid : id < nx := Nat.lt_of_not_le fun hc => by rw [s.fresh id hc] at hL; cases hL
  refine ⟨⟨fun j N hl h1 => ?_, fun i j A B hi hj => s.inj i j A B (by have e := (old i (O.live_of_wr hi)).1; rw [e] at hi; exact hi) (old j hj).2, s.fresh, fun i hi => by rw [gt_st_ne _ _ (by omega)]; exact s.dead i hi⟩, Ren.le.refl _, Nat.le_refl _, rfl, rfl, rfl, fun b _ hk => ⟨rfl, fun q N hq => ?_⟩, fun q hq hn => ⟨hn, gt_st_ne _ _ (fun eq => by subst eq; rw [hn] at hL; cases hL) _⟩⟩
  · rw [(old j hl).1]; exact s.rel j N (old j hl).2 h1
  · rw [(old q (O.live_of_wr hq)).1] at hq; exact hk q N hq
theorem ones_spec {ρ : Ren} : ∀ {l : V} {vs : List Value}, ones l = true → VRs ρ l vs → ∀ v ∈ vs, v.oneCell' = true := by
  intro l
  induction l with
  | nil => intro vs _ hv; simp only [VRs] at hv; subst hv; simp
  | cons x l _ ih =>
    intro vs h hv
    simp only [VRs] at hv
    obtain ⟨y, ys, rfl, h1, h2⟩ := hv
    have h' : (Bool.rec false (ones l) (one x) : Bool) = true := h
    cases ho : one x with
    | false => rw [ho] at h'; exact Bool.noConfusion h'
    | true =>
      rw [ho] at h'
      intro v hm
      rcases List.mem_cons.1 hm with rfl | hm
      · exact one_spec ho h1
      · exact ih h' h2 v hm
  | _ => intro vs _ hv; simp [VRs] at hv
theorem nextslicecap_le {n c : Nat} (h : c < n) : nextslicecap n c ≤ 2 * n := by
  unfold nextslicecap
  split
  · omega
  · split
    · omega
    · rename_i h1 h2
      have key : ∀ r c, 256 ≤ c → c < 2 * n → growBy n r c ≤ 2 * n := by
        intro r
        induction r with
        | zero => intro c _ h; simp only [growBy]; omega
        | succ r ih =>
          intro c hc h
          simp only [growBy]
          split
          · omega
          · by_cases hlt : c + (c + 768) / 4 < 2 * n
            · exact ih _ (by omega) hlt
            · have : c + (c + 768) / 4 ≤ 2 * n := by omega
              have e : c + (c + 768) / 4 = 2 * n := by omega
              rw [e]
              cases r with
              | zero => simp [growBy]
              | succ r => simp only [growBy]; rw [if_pos (by omega)]; exact Nat.le_refl _
      exact key 4 c (by omega) (by omega)
theorem bs_cells {l : List Nat} (hl : ∀ n ∈ l, n < 256) : (bs l).data.map (fun b => Value.int .u8 (b.toNat : Int)) = ⟨l.map fun b : Nat => Value.int .u8 (b : Int)⟩ := by
  apply Array.ext'
  simp only [bs, Array.toList_map, List.map_map]
  apply List.map_congr_left
  intro n hn
  simp [UInt8.toNat_ofNat', Nat.mod_eq_of_lt (hl n hn)]
theorem srcK_spec {sz : Nat} {x : V} {k : V → Nat → Bool} {vx : Value} (hk : srcK sz x h k = true) (s : St ρ h nx w) (hx : VR ρ x vx) :
    ∃ c n cells, k c n = true ∧ VRs ρ c cells ∧ cells.length = n * sz ∧ (lenOf vx).run P w = .ok n w ∧ ∀ w' : World, w'.heap = w.heap → (firstCells sz n vx).run P w' = .ok ⟨cells⟩ w' := by
  cases x <;> first | exact Bool.noConfusion hk | skip
  case s l =>
    obtain ⟨e1, hk2⟩ := ite1_spec (show ite1 (Nat.beq sz 1) (chbK l fun c => slenK l 0 fun n => k c n) = true from hk)
    have e1 := beq_spec e1
    subst e1
    obtain ⟨c, hk3, hc⟩ := chbK_spec hk2
    rw [slenK_eq, Nat.zero_add] at hk3
    simp only [VR] at hx
    obtain ⟨rfl, hl⟩ := hx
    refine ⟨c, l.length, _, hk3, hc ρ, by simp, by simp [lenOf, bs_size], fun w' _ => ?_⟩
    have e2 : (bs l).extract 0 l.length = bs l := by rw [bs_extract]; simp
    simp only [firstCells, e2, Sem.run_pure]
    rw [bs_cells hl]
  case w l =>
    obtain ⟨e1, hk2⟩ := ite1_spec (show ite1 (Nat.beq sz 1) (lenK l 0 fun n => k l n) = true from hk)
    have e1 := beq_spec e1
    subst e1
    simp only [VR] at hx
    obtain ⟨x, rfl, hx⟩ := hx
    obtain ⟨n, hk3, hn, _⟩ := lenK_spec hk2 (VRs_isC hx)
    rw [Nat.zero_add] at hk3
    have hn := hn ρ _ hx
    rw [bytesV_length] at hn
    subst hn
    refine ⟨l, x.size, _, hk3, hx, by rw [bytesV_length, Nat.mul_one], by simp [lenOf], fun w' _ => ?_⟩
    have key : ∀ l' : List Nat, (bs l').extract 0 (bs l').size = bs l' := fun l' => by rw [bs_extract, bs_size]; simp
    have e2 := key (x.data.toList.map UInt8.toNat)
    rw [bs_bytes] at e2
    simp only [firstCells, e2, Sem.run_pure]
    congr 1
    apply Array.ext'
    simp [bytesV, byteV]
  case sl id off len sz' =>
    obtain ⟨e1, hk2⟩ := ite1_spec (show ite1 (Nat.beq sz sz') (oC (gt O.none id h) fun l _ _ => dropK l off fun r => takeK r (Nat.mul len sz) fun c => k c len) = true from hk)
    have e1 := beq_spec e1
    subst e1
    obtain ⟨l, ty, wr, ho, hk3⟩ := oC_spec hk2
    simp only [VR] at hx
    obtain ⟨L, cap, hL, hc1, hc2, rfl⟩ := hx
    obtain ⟨o, h2, h3⟩ := s.relC ho hL
    obtain ⟨arr, fz, rfl, h4, h5, h6, h7⟩ := h3
    obtain ⟨r, hk4, hrc, hr⟩ := dropK_spec hk3 (CR_isC h7)
    obtain ⟨c, hk5, hc⟩ := takeK_spec hk4 hrc
    obtain ⟨g1, g2⟩ := hr ρ _ h7
    obtain ⟨g3, g4⟩ := hc ρ _ g1
    have hlen : (((arr.toList.drop L.base).drop off).take (len * sz)).length = len * sz := by
      simp only [List.length_take]
      have : len.mul sz = len * sz := rfl
      omega
    refine ⟨c, len, _, hk5, g3, hlen, rfl, fun w' hw => ?_⟩
    have hle : L.base + off + len * sz ≤ arr.size := by
      have := g4
      simp at this
      have e : len.mul sz = len * sz := rfl
      have h8 : len * sz ≤ cap * sz := Nat.mul_le_mul_right _ hc1
      omega
    simp only [firstCells]
    rw [run_loadCells_of P w' L.blk (L.base + off) (len * sz) ty fz arr (by rw [hw]; exact h2) hle]
    rw [List.drop_drop]
    rfl
  all_goals
    simp only [VR] at hx
    first
      | subst hx
      | obtain ⟨A, c, rfl⟩ := hx
      | obtain ⟨A, rfl⟩ := hx
    refine ⟨.nil, 0, [], hk, by simp [VRs], by simp, rfl, fun w' _ => ?_⟩
    simp [firstCells, loadCells, loadCellsFrom]
theorem xt_spec {t : TypeId} (h : ior (Nat.beq (tyk P t) 1) (ior (Nat.beq (tyk P t) 20) (Nat.beq (tyk P t) 21)) = true) : ∃ d, P.underlying t = some d ∧ ∀ k, d ≠ .int k := by
  rw [ior_eq, ior_eq] at h
  have hne : tyk P t ≠ 0 := by
    intro e; rw [e] at h; exact absurd h (by decide)
  obtain ⟨d, hu⟩ := (tyk_cases t).2.2.2.2.2.2.2.1 hne
  refine ⟨d, hu, fun k e => ?_⟩
  subst e
  unfold tyk at h
  rw [hu] at h
  cases k <;> simp [ikn, Nat.beq] at h
theorem appNew_new {et sz bytes n : Nat} {old new : V} {K : KV} {ie : TypeInfo} (hk : appNew P et sz bytes old new n h nx K = true) (s : St ρ h nx w) (_hie : P.info? et = some ie) (_hsz : ie.size = sz)
    {co cn : List Value} (ho : VRs ρ old co) (hn : VRs ρ new cn) (hl : (co ++ cn).length = n * sz) {w1 : World} (hw : w1.heap = w.heap) (h1 : w1.os = w.os) (h2 : w1.tape = w.tape) (h3 : w1.output = w.output) {cap : Nat} (hc : n ≤ cap) :
    ∃ ρ' x h' nx' w', K x h' nx' = true ∧ VR ρ' x (.slice (some ⟨w1.heap.size, 0, none⟩) n cap) ∧ St ρ' h' nx' w' ∧ Ext ρ h w ρ' h' w' ∧
      (do let rest := zeroCells (← zeroValue et).cells (cap - n); pure (Value.slice (some (← newRow et (⟨co⟩ ++ ⟨cn⟩ ++ rest))) n cap) : Sem Value).run P w1 = .ok (.slice (some ⟨w1.heap.size, 0, none⟩) n cap) w' := by
  obtain ⟨_, hk⟩ := ite1_spec hk
  obtain ⟨_, hk⟩ := ite1_spec hk
  obtain ⟨_, hk⟩ := ite1_spec hk
  cases hz : zeroC P et with
  | none => rw [hz] at hk; exact Bool.noConfusion hk
  | some z =>
    rw [hz] at hk
    obtain ⟨zv, hzv, hzr⟩ := zeroC_spec hz
    obtain ⟨zn, hk, hzn, _⟩ := lenK_spec (show lenK z 0 (fun zn => ite1 (Nat.beq zn sz) <| catK old new fun c => newK c et h nx fun id h' nx' => K (.sl id 0 n sz) h' nx') = true from hk) (VRs_isC (hzr ρ))
    rw [Nat.zero_add] at hk
    obtain ⟨e3, hk⟩ := ite1_spec hk
    have e3 := beq_spec e3
    have hzs : zv.cells.size = sz := by have := hzn ρ _ (hzr ρ); simp at this; omega
    obtain ⟨c, hk, _, hcat, _⟩ := catK_spec hk (VRs_isC ho)
    have hcc := hcat ρ _ _ ho hn
    have s1 : St ρ h nx w1 := s.heap hw
    obtain ⟨h', w', g1, g2, g3, g4⟩ := newK_sound (K := fun id h' nx' => K (.sl id 0 n sz) h' nx') (vs := co ++ cn ++ (zeroCells zv.cells (cap - n)).toList) hk s1 (hcc.CR _)
    refine ⟨_, _, _, _, w', g1, ?_, g3, Ext.trans (Ext.same hw h1 h2 h3) g4, ?_⟩
    · refine VR_sl (upd_same _ _ _) hc ?_ rfl
      have : (zeroCells zv.cells (cap - n)).size = (cap - n) * sz := by simp [zeroCells, hzs]
      have e : n * sz + (cap - n) * sz = cap * sz := by rw [← Nat.add_mul]; congr 1; omega
      simp only [List.length_append] at hl
      simp only [List.length_append, Array.length_toList, this]
      omega
    · simp only [Sem.run_bind, hzv, Result.andThen_ok, newRow, run_newObj, Sem.run_pure, g2]
      congr 3
      simp
theorem bytes_of {et : TypeId} {ie : TypeInfo} (h : P.info? et = some ie) : bytesE P et = ie.bytes := by simp [bytesE, h]
theorem run_append_room {ts : Array TypeId} {st' xt et : TypeId} {args : Array Value} {ty : TypeId} {base : Option Addr} {sLen sCap n sz : Nat} {vx : Value} {cells : List Value} {ie : TypeInfo} {dx : TypeDesc} {w' : World}
    (ht0 : ts[0]? = some st') (ht1 : ts[1]? = some xt) (ha0 : args[0]? = some (.slice base sLen sCap)) (ha1 : args[1]? = some vx) (hu : P.underlying st' = some (.slice et)) (hie : P.info? et = some ie) (hsz : ie.size = sz)
    (hux : P.underlying xt = some dx) (hni : ∀ k, dx ≠ .int k) (hlo : (lenOf vx).run P w = .ok n w) (hfc : (firstCells sz n vx).run P w = .ok ⟨cells⟩ w) (hle : sLen + n ≤ sCap)
    (hst : match base with | some a => (storeCells (a.add (sLen * sz)) cells).run P w = .ok () w' | none => w' = w) :
    (append_ ts ty args).run P w = .ok (.slice base (sLen + n) sCap) w' := by
  have hd : (match dx with | .int _ => true | _ => false) = false := by cases dx <;> first | rfl | exact (hni _ rfl).elim
  unfold append_
  simp only [ht0, ht1, ha0, ha1, Sem.run_bind, run_und hu, Result.andThen_ok, run_size hie, hsz, run_und hux, Sem.run_pure, Bool.false_eq_true, if_false, hlo, hle, if_true]
  simp only [Bool.not_false, if_true, hfc, Result.andThen_ok]
  cases base with
  | none => simp only at hst; subst hst; rfl
  | some a => simp only [Sem.run_bind] at hst ⊢; rw [hst]; rfl
theorem run_append_grow {ts : Array TypeId} {st' xt et : TypeId} {args : Array Value} {ty : TypeId} {base : Option Addr} {sLen sCap n sz : Nat} {vx : Value} {co cells : List Value} {ie : TypeInfo} {dx : TypeDesc}
    (ht0 : ts[0]? = some st') (ht1 : ts[1]? = some xt) (ha0 : args[0]? = some (.slice base sLen sCap)) (ha1 : args[1]? = some vx) (hu : P.underlying st' = some (.slice et)) (hie : P.info? et = some ie) (hsz : ie.size = sz)
    (hux : P.underlying xt = some dx) (hni : ∀ k, dx ≠ .int k) (hlo : (lenOf vx).run P w = .ok n w) (hgt : ¬ sLen + n ≤ sCap) (hb1 : sLen + n ≤ 140737488355328) (hb2 : (sLen + n) * ie.bytes ≤ 140737488355328)
    {r : Value} {w' : World}
    (hold : ∀ w1 : World, w1.heap = w.heap → (firstCells sz sLen (.slice base sLen sCap)).run P w1 = .ok ⟨co⟩ w1)
    (hfc : ∀ w1 : World, w1.heap = w.heap → (firstCells sz n vx).run P w1 = .ok ⟨cells⟩ w1)
    (hfin : (do let rest := zeroCells (← zeroValue et).cells ((Question.appendCap (sLen + n) sCap et).cut (w.tape w.drawn (.appendCap (sLen + n) sCap et)) - (sLen + n))
                pure (Value.slice (some (← newRow et (⟨co⟩ ++ ⟨cells⟩ ++ rest))) (sLen + n) ((Question.appendCap (sLen + n) sCap et).cut (w.tape w.drawn (.appendCap (sLen + n) sCap et)))) : Sem Value).run P w.drew = .ok r w') :
    (append_ ts ty args).run P w = .ok r w' := by
  have hd : (match dx with | .int _ => true | _ => false) = false := by cases dx <;> first | rfl | exact (hni _ rfl).elim
  have hmax : ¬ (((sLen + n : Nat) : Int) > IntKind.i64.max ∧ (False ∨ ie.bytes = 0)) := by
    rw [IntKind.max_i64]; omega
  have hcap : ¬ (nextslicecap (sLen + n) sCap * ie.bytes > 2 ^ 48) := by
    have := nextslicecap_le (n := sLen + n) (c := sCap) (by omega)
    have h2 : nextslicecap (sLen + n) sCap * ie.bytes ≤ 2 * (sLen + n) * ie.bytes := Nat.mul_le_mul_right _ this
    have h3 : 2 * (sLen + n) * ie.bytes = 2 * ((sLen + n) * ie.bytes) := by rw [Nat.mul_assoc]
    omega
  have hh : w.drew.heap = w.heap := rfl
  unfold append_
  simp only [ht0, ht1, ha0, ha1, Sem.run_bind, run_und hu, Result.andThen_ok, run_size hie, hsz, run_und hux, Sem.run_pure, Bool.false_eq_true, if_false, hlo, hgt, run_info hie]
  rw [if_neg hmax]
  simp only [Sem.run_bind, run_info hie, Result.andThen_ok]
  rw [if_neg hcap]
  have hch : (choose (.appendCap (sLen + n) sCap et)).run P w = .ok ((Question.appendCap (sLen + n) sCap et).cut (w.tape w.drawn (.appendCap (sLen + n) sCap et))) w.drew := by
    simp [run_choose, Question.forced]
  simp only [Sem.run_bind, hch, Result.andThen_ok, run_askRoom, hold _ hh, run_info hie, Bool.not_false, if_true, hfc _ hh]
  simpa only [Sem.run_bind] using hfin
theorem cut_ge (need old : Nat) (e : TypeId) (t : Nat) : need ≤ (Question.appendCap need old e).cut t := by simp [Question.cut]
theorem wrap_nat {n : Nat} (h : n ≤ 140737488355328) : IntKind.i64.wrap ((n : Nat) : Int) = n := by
  simp [IntKind.wrap, IntKind.bits, IntKind.signed]
  omega
theorem run_append_roomZ {ts : Array TypeId} {st' xt et : TypeId} {args : Array Value} {ty : TypeId} {base : Option Addr} {sLen sCap n sz : Nat} {k : IntKind} {ie : TypeInfo} {zv : Value} {w' : World}
    (ht0 : ts[0]? = some st') (ht1 : ts[1]? = some xt) (ha0 : args[0]? = some (.slice base sLen sCap)) (ha1 : args[1]? = some (.int k (n : Int))) (hu : P.underlying st' = some (.slice et)) (hie : P.info? et = some ie) (hsz : ie.size = sz)
    (hux : P.underlying xt = some (.int .i64)) (hn : n ≤ 140737488355328) (hnb : n * ie.bytes ≤ 140737488355328) (hsz0 : 0 < sz) (hz : ∀ w1 : World, (zeroValue et).run P w1 = .ok zv w1) (hle : sLen + n ≤ sCap)
    (hst : match base with | some a => (storeCells (a.add (sLen * sz)) (zeroCells zv.cells n).toList).run P w = .ok () w' | none => w' = w) :
    (append_ ts ty args).run P w = .ok (.slice base (sLen + n) sCap) w' := by
  have hb : ((n : Nat) : Int) * (ie.bytes : Int) ≤ 140737488355328 := by
    have h : ((n * ie.bytes : Nat) : Int) ≤ 140737488355328 := by omega
    rwa [Int.natCast_mul] at h
  have hai : ∀ w1 : World, (asInt (.int k ((n : Nat) : Int))).run P w1 = .ok ((n : Nat) : Int) w1 := fun _ => rfl
  have h1 : ¬ (((n : Nat) : Int) < 0) := by omega
  have h2 : ¬ (((n : Nat) : Int) * (ie.bytes : Int) > 2 ^ 48) := by omega
  have hap : (if n * sz = 0 then pure #[] else do pure (zeroCells (← zeroValue et).cells n) : Sem (Array Value)).run P w = .ok (zeroCells zv.cells n) w := by
    by_cases e : n = 0
    · subst e
      simp [zeroCells]
    · rw [if_neg (by have := Nat.mul_pos (Nat.pos_of_ne_zero e) hsz0; omega)]
      simp only [Sem.run_bind, hz, Result.andThen_ok, Sem.run_pure]
  unfold append_
  simp only [ht0, ht1, ha0, ha1, Sem.run_bind, run_und hu, Result.andThen_ok, run_size hie, hsz, run_und hux, Sem.run_pure, if_true, hai, wrap_nat hn, run_info hie, if_neg h1, if_neg h2, Int.toNat_natCast, hle]
  simp only [Bool.not_true, Bool.false_eq_true, if_false, hap, Result.andThen_ok]
  cases base with
  | none => simp only at hst; subst hst; rfl
  | some a => simp only [Sem.run_bind] at hst ⊢; rw [hst]; rfl
theorem run_append_growZ {ts : Array TypeId} {st' xt et : TypeId} {args : Array Value} {ty : TypeId} {base : Option Addr} {sLen sCap n sz : Nat} {k : IntKind} {co : List Value} {ie : TypeInfo} {zv : Value}
    (ht0 : ts[0]? = some st') (ht1 : ts[1]? = some xt) (ha0 : args[0]? = some (.slice base sLen sCap)) (ha1 : args[1]? = some (.int k (n : Int))) (hu : P.underlying st' = some (.slice et)) (hie : P.info? et = some ie) (hsz : ie.size = sz)
    (hux : P.underlying xt = some (.int .i64)) (hn : n ≤ 140737488355328) (hnb : n * ie.bytes ≤ 140737488355328) (hsz0 : 0 < sz) (hz : ∀ w1 : World, (zeroValue et).run P w1 = .ok zv w1)
    (hgt : ¬ sLen + n ≤ sCap) (hb1 : sLen + n ≤ 140737488355328) (hb2 : (sLen + n) * ie.bytes ≤ 140737488355328)
    {r : Value} {w' : World}
    (hold : ∀ w1 : World, w1.heap = w.heap → (firstCells sz sLen (.slice base sLen sCap)).run P w1 = .ok ⟨co⟩ w1)
    (hfin : (do let rest := zeroCells (← zeroValue et).cells ((Question.appendCap (sLen + n) sCap et).cut (w.tape w.drawn (.appendCap (sLen + n) sCap et)) - (sLen + n))
                pure (Value.slice (some (← newRow et (⟨co⟩ ++ zeroCells zv.cells n ++ rest))) (sLen + n) ((Question.appendCap (sLen + n) sCap et).cut (w.tape w.drawn (.appendCap (sLen + n) sCap et)))) : Sem Value).run P w.drew = .ok r w') :
    (append_ ts ty args).run P w = .ok r w' := by
  have hb : ((n : Nat) : Int) * (ie.bytes : Int) ≤ 140737488355328 := by
    have h : ((n * ie.bytes : Nat) : Int) ≤ 140737488355328 := by omega
    rwa [Int.natCast_mul] at h
  have hai : ∀ w1 : World, (asInt (.int k ((n : Nat) : Int))).run P w1 = .ok ((n : Nat) : Int) w1 := fun _ => rfl
  have h1 : ¬ (((n : Nat) : Int) < 0) := by omega
  have h2 : ¬ (((n : Nat) : Int) * (ie.bytes : Int) > 2 ^ 48) := by omega
  have hmax : ¬ (((sLen + n : Nat) : Int) > IntKind.i64.max ∧ (True ∨ ie.bytes = 0)) := by
    rw [IntKind.max_i64]; omega
  have hcap : ¬ (nextslicecap (sLen + n) sCap * ie.bytes > 2 ^ 48) := by
    have := nextslicecap_le (n := sLen + n) (c := sCap) (by omega)
    have h2 : nextslicecap (sLen + n) sCap * ie.bytes ≤ 2 * (sLen + n) * ie.bytes := Nat.mul_le_mul_right _ this
    have h3 : 2 * (sLen + n) * ie.bytes = 2 * ((sLen + n) * ie.bytes) := by rw [Nat.mul_assoc]
    omega
  have hh : w.drew.heap = w.heap := rfl
  have hap : ∀ w1 : World, (if n * sz = 0 then pure #[] else do pure (zeroCells (← zeroValue et).cells n) : Sem (Array Value)).run P w1 = .ok (zeroCells zv.cells n) w1 := fun w1 => by
    by_cases e : n = 0
    · subst e
      simp [zeroCells]
    · rw [if_neg (by have := Nat.mul_pos (Nat.pos_of_ne_zero e) hsz0; omega)]
      simp only [Sem.run_bind, hz, Result.andThen_ok, Sem.run_pure]
  unfold append_
  simp only [ht0, ht1, ha0, ha1, Sem.run_bind, run_und hu, Result.andThen_ok, run_size hie, hsz, run_und hux, Sem.run_pure, if_true, hai, wrap_nat hn, run_info hie, if_neg h1, if_neg h2, Int.toNat_natCast, hgt, if_false]
  rw [if_neg hmax]
  simp only [Sem.run_bind, run_info hie, Result.andThen_ok]
  rw [if_neg hcap]
  have hch : (choose (.appendCap (sLen + n) sCap et)).run P w = .ok ((Question.appendCap (sLen + n) sCap et).cut (w.tape w.drawn (.appendCap (sLen + n) sCap et))) w.drew := by
    simp [run_choose, Question.forced]
  simp only [Sem.run_bind, hch, Result.andThen_ok, run_askRoom, hold _ hh, run_info hie, Bool.not_true, Bool.false_eq_true, if_false, hap]
  simpa only [Sem.run_bind] using hfin
theorem zsrcK_spec {et sz : Nat} {x : V} {k : V → Nat → Bool} {vx : Value} {ie : TypeInfo} (hk : zsrcK P et sz x k = true) (hx : VR ρ x vx) (hie : P.info? et = some ie) (_hsz : ie.size = sz) (hsz0 : 0 < sz) :
    ∃ (new : V) (n : Nat) (zv : Value) (kd : IntKind), k new n = true ∧ VRs ρ new (zeroCells zv.cells n).toList ∧ (zeroCells zv.cells n).toList.length = n * sz ∧ vx = .int kd (n : Int) ∧ n ≤ 140737488355328 ∧ n * ie.bytes ≤ 140737488355328 ∧
      ∀ w1 : World, (zeroValue et).run P w1 = .ok zv w1 := by
  obtain ⟨kd, n, rfl, hk⟩ := vN_spec hk
  obtain ⟨e1, hk⟩ := ite1_spec hk
  obtain ⟨e2, hk⟩ := ite1_spec hk
  have e1 := Nat.le_of_ble_eq_true e1
  have e2 := Nat.le_of_ble_eq_true e2
  rw [bytes_of hie] at e2
  cases hz : zeroC P et with
  | none => rw [hz] at hk; exact Bool.noConfusion hk
  | some z =>
    rw [hz] at hk
    obtain ⟨zv, hzv, hzr⟩ := zeroC_spec hz
    obtain ⟨zn, hk, hzn, _⟩ := lenK_spec (show lenK z 0 (fun zn => ite1 (Nat.beq zn sz) <| repK z n fun c => k c n) = true from hk) (VRs_isC (hzr ρ))
    rw [Nat.zero_add] at hk
    obtain ⟨e3, hk⟩ := ite1_spec hk
    have e3 := beq_spec e3
    have hzs : zv.cells.size = sz := by have := hzn ρ _ (hzr ρ); simp at this; omega
    obtain ⟨c, hk, hrep⟩ := repK_spec hk (VRs_isC (hzr ρ))
    have e4 : (zeroCells zv.cells n).toList = (List.replicate n zv.cells.toList).flatten := by
      have := range_mod zv.cells (by omega) n
      simp only [zeroCells, Array.toList_map, Array.toList_range]
      exact this
    simp only [VR] at hx
    refine ⟨c, n, zv, kd, hk, by rw [e4]; exact hrep ρ _ (hzr ρ), by rw [e4]; simp [hzs], hx, e1, e2, hzv⟩
theorem tyk_i64 {t : TypeId} (h : Nat.beq (tyk P t) 6 = true) : P.underlying t = some (.int .i64) := by
  have h := beq_spec h
  obtain ⟨k, hu⟩ := tyk_int (t := t) (P := P) (by omega) (by omega)
  rw [hu]
  unfold tyk at h
  rw [hu] at h
  cases k <;> simp [ikn] at h ⊢
set_option maxHeartbeats 800000 in
theorem appK_sound {ts : Array TypeId} {st' sz n : Nat} {sv new : V} {K : KV} {vs : Value} {args : Array Value} {ty : TypeId} {cells : List Value} {ie : TypeInfo} (hk : appK P st' sz sv new n h nx K = true) (s : St ρ h nx w)
    (hs : VR ρ sv vs) (_e1 : 0 < sz) (hie : P.info? (slT P st') = some ie) (hsz : ie.size = sz) (hnew : VRs ρ new cells) (hlen : cells.length = n * sz)
    (hroomA : ∀ {base : Option Addr} {sLen sCap : Nat} {w' : World}, vs = .slice base sLen sCap → sLen + n ≤ sCap → (match base with | some a => (storeCells (a.add (sLen * sz)) cells).run P w = .ok () w' | none => w' = w) →
      (append_ ts ty args).run P w = .ok (.slice base (sLen + n) sCap) w')
    (hgrow : ∀ {base : Option Addr} {sLen sCap : Nat} {co : List Value} {r : Value} {w' : World}, vs = .slice base sLen sCap → ¬ sLen + n ≤ sCap → sLen + n ≤ 140737488355328 → (sLen + n) * ie.bytes ≤ 140737488355328 →
      (∀ w1 : World, w1.heap = w.heap → (firstCells sz sLen (.slice base sLen sCap)).run P w1 = .ok ⟨co⟩ w1) →
      (do let rest := zeroCells (← zeroValue (slT P st')).cells ((Question.appendCap (sLen + n) sCap (slT P st')).cut (w.tape w.drawn (.appendCap (sLen + n) sCap (slT P st'))) - (sLen + n))
          pure (Value.slice (some (← newRow (slT P st') (⟨co⟩ ++ ⟨cells⟩ ++ rest))) (sLen + n) ((Question.appendCap (sLen + n) sCap (slT P st')).cut (w.tape w.drawn (.appendCap (sLen + n) sCap (slT P st'))))) : Sem Value).run P w.drew = .ok r w' →
      (append_ ts ty args).run P w = .ok r w') :
    ∃ ρ' y h' nx' v w', K y h' nx' = true ∧ VR ρ' y v ∧ St ρ' h' nx' w' ∧ Ext ρ h w ρ' h' w' ∧ (append_ ts ty args).run P w = .ok v w' := by
  have hby := bytes_of hie
  unfold appK at hk
  cases en : Nat.beq n 0 with
  | true =>
    rw [en] at hk
    have en := beq_spec en
    subst en
    have hnil : cells = [] := by apply List.eq_nil_of_length_eq_zero; omega
    subst hnil
    cases sv <;> first | exact Bool.noConfusion hk | skip
    case sl id off len sz' =>
      obtain ⟨_, hk⟩ := ite1_spec (show ite1 (Nat.beq sz sz') (K (.sl id off len sz') h nx) = true from hk)
      have hs' := hs
      simp only [VR] at hs'
      obtain ⟨L, cap, hL, hc1, hc2, rfl⟩ := hs'
      exact ⟨ρ, _, h, nx, _, w, hk, hs, s, Ext.refl _ _ _, hroomA rfl (by omega) (by simp [storeCells])⟩
    case sn =>
      have hs' := hs
      simp only [VR] at hs'
      subst hs'
      exact ⟨ρ, _, h, nx, _, w, hk, hs, s, Ext.refl _ _ _, hroomA rfl (by omega) rfl⟩
    case se =>
      have hs' := hs
      simp only [VR] at hs'
      obtain ⟨A, c, rfl⟩ := hs'
      exact ⟨ρ, _, h, nx, _, w, hk, hs, s, Ext.refl _ _ _, hroomA rfl (by omega) (by simp [storeCells])⟩
    case s0 =>
      have hs' := hs
      simp only [VR] at hs'
      obtain ⟨A, rfl⟩ := hs'
      exact ⟨ρ, _, h, nx, _, w, hk, hs, s, Ext.refl _ _ _, hroomA rfl (by omega) (by simp [storeCells])⟩
  | false =>
    rw [en] at hk
    have hn0 : n ≠ 0 := fun e => by rw [e, Nat.beq_refl] at en; cases en
    have grow : ∀ (base : Option Addr) (sCap : Nat), vs = .slice base 0 sCap → sCap = 0 → appNew P (slT P st') sz (bytesE P (slT P st')) .nil new n h nx K = true →
        ∃ ρ' y h' nx' v w', K y h' nx' = true ∧ VR ρ' y v ∧ St ρ' h' nx' w' ∧ Ext ρ h w ρ' h' w' ∧ (append_ ts ty args).run P w = .ok v w' := by
      intro base sCap hv hz hk
      subst hv
      subst hz
      have hb1 := (ite1_spec (ite1_spec hk).2).1
      have hb2 := (ite1_spec (ite1_spec (ite1_spec hk).2).2).1
      have hb1 := Nat.le_of_ble_eq_true hb1
      have hb2 := Nat.le_of_ble_eq_true hb2
      rw [hby] at hb2
      obtain ⟨ρ', y, h', nx', w', g1, g2, g3, g4, g5⟩ := appNew_new (ρ := ρ) (w := w) hk s hie hsz (co := []) (by simp [VRs]) hnew (by simpa using hlen) (w1 := w.drew) rfl rfl rfl rfl
        (cap := (Question.appendCap (0 + n) 0 (slT P st')).cut (w.tape w.drawn (.appendCap (0 + n) 0 (slT P st')))) (by have := cut_ge (0 + n) 0 (slT P st') (w.tape w.drawn (.appendCap (0 + n) 0 (slT P st'))); omega)
      refine ⟨ρ', y, h', nx', _, w', g1, g2, g3, g4, ?_⟩
      refine hgrow (co := []) rfl (by omega) (by omega) (by simpa using hb2) (fun w1 _ => ?_) ?_
      · cases base <;> simp [firstCells, loadCells, loadCellsFrom]
      · simpa using g5
    cases sv <;> first | exact Bool.noConfusion hk | skip
    case sn =>
      simp only [VR] at hs
      exact grow none 0 hs rfl hk
    case s0 =>
      simp only [VR] at hs
      obtain ⟨A, hs⟩ := hs
      exact grow (some A) 0 hs rfl hk
    case sl id off len sz' =>
      obtain ⟨e3, hkA⟩ := ite1_spec (show ite1 (Nat.beq sz sz') (oC (gt O.none id h) fun l ty wr => ite1 wr <| ite1 (Nat.beq ty (slT P st')) <| dropK l off fun r => takeK r (Nat.mul len sz) fun old => stK O.none O.none id h fun h' => appNew P (slT P st') sz (bytesE P (slT P st')) old new (Nat.add len n) h' nx K) = true from hk)
      clear hk
      have e3 := beq_spec e3
      subst e3
      obtain ⟨l, bty, wr, ho, hkB⟩ := oC_spec hkA
      clear hkA
      obtain ⟨hwr, hkC⟩ := ite1_spec hkB
      clear hkB
      subst hwr
      obtain ⟨e4, hk⟩ := ite1_spec hkC
      clear hkC
      have e4 := beq_spec e4
      subst e4
      simp only [VR] at hs
      obtain ⟨L, cap, hL, hc1, hc2, rfl⟩ := hs
      obtain ⟨o, h2, h3⟩ := s.relC ho hL
      obtain ⟨arr, fz, rfl, h4, h5, h6, h7⟩ := h3
      obtain ⟨r, hk, hrc, hr⟩ := dropK_spec hk (CR_isC h7)
      obtain ⟨old, hk, hc⟩ := takeK_spec hk hrc
      obtain ⟨g1, g2⟩ := hr ρ _ h7
      obtain ⟨g3, g4⟩ := hc ρ _ g1
      rw [stK_eq] at hk
      have hmul : len.mul sz = len * sz := rfl
      rw [hmul] at g3 g4
      have hlcap : len * sz ≤ cap * sz := Nat.mul_le_mul_right _ hc1
      have hclen : (((arr.toList.drop L.base).drop off).take (len * sz)).length = len * sz := by simp only [List.length_take]; omega
      have hones := (ite1_spec hk).1
      have hb1 := Nat.le_of_ble_eq_true (ite1_spec (ite1_spec hk).2).1
      have hb2 := Nat.le_of_ble_eq_true (ite1_spec (ite1_spec (ite1_spec hk).2).2).1
      rw [hby] at hb2
      have hadd : len.add n = len + n := rfl
      rw [hadd] at hb1 hb2
      by_cases hroom : len + n ≤ cap
      · 
        obtain ⟨_, hk2⟩ := ite1_spec hk
        obtain ⟨_, hk3⟩ := ite1_spec hk2
        obtain ⟨_, hk4⟩ := ite1_spec hk3
        cases hz : zeroC P (slT P st') with
        | none => rw [hz] at hk4; exact Bool.noConfusion hk4
        | some z =>
          rw [hz] at hk4
          obtain ⟨zv, hzv, hzr⟩ := zeroC_spec hz
          obtain ⟨zn, hk5, _, _⟩ := lenK_spec (show lenK z 0 (fun zn => ite1 (Nat.beq zn sz) <| catK old new fun c => newK c (slT P st') (st O.none O.none id h) nx fun id h' nx' => K (.sl id 0 (len.add n) sz) h' nx') = true from hk4) (VRs_isC (hzr ρ))
          obtain ⟨_, hk6⟩ := ite1_spec hk5
          obtain ⟨c, hk7, _, hcat, _⟩ := catK_spec hk6 (VRs_isC g3)
          have hcc := hcat ρ _ _ g3 hnew
          unfold newK at hk7
          rw [stK_eq] at hk7
          have hcl : cells.length = n * sz := hlen
          have hnc : (len + n) * sz ≤ cap * sz := Nat.mul_le_mul_right _ hroom
          rw [Nat.add_mul] at hnc
          have hal : arr.toList.length = arr.size := by simp
          have hst := run_storeCells_free P L.blk (L.base + off + len * sz) (slT P st') fz cells 0 arr w h2 (by rw [h4]; exact h5 rfl) (by omega) (ones_spec hones hnew)
          rw [Nat.add_zero] at hst
          have hdrop : (lput arr.toList (L.base + off + len * sz) cells).drop (L.base + off) = ((arr.toList.drop L.base).drop off).take (len * sz) ++ cells ++ ((arr.toList.drop L.base).drop off).drop (len * sz + cells.length) := by
            rw [lput_drop arr.toList (L.base + off) (len * sz) cells (by omega)]
            simp only [lput, List.drop_drop]
          have hor : OR (upd ρ nx ⟨L.blk, L.base + off, L.size⟩) ⟨L.blk, L.base + off, L.size⟩ (.c c (slT P st') true) (.cells (lput arr.toList (L.base + off + len * sz) cells).toArray (slT P st') fz) := by
            refine ⟨_, fz, rfl, ?_, h5, by show L.base + off ≤ L.size; omega, ?_⟩
            · rw [List.size_toArray, lput_length _ _ _ (by omega), hal, h4]
            · show CR _ c (List.drop (L.base + off) _)
              rw [hdrop]
              exact (hcc.mono (upd_le (s.fresh nx (Nat.le_refl _)))).CR _
          obtain ⟨q1, q2⟩ := s.move (id := id) (L := L) (M := ⟨L.blk, L.base + off, L.size⟩) (asC_wr ho) hL rfl hor (setRow_heap_eq w _ _ _ _ _ h2) rfl rfl rfl
          refine ⟨_, _, _, _, .slice (some ⟨L.blk, L.base + off, none⟩) (len + n) cap, _, hk7, ?_, q1, q2, ?_⟩
          · exact VR_sl (upd_same _ _ _) hroom (by show L.base + off + 0 + cap * sz ≤ L.size; omega) rfl
          · refine hroomA rfl hroom ?_
            simp only [addr_add]
            exact hst
      · 
        obtain ⟨s2, x2⟩ := s.kill hL
        obtain ⟨ρ', y, h', nx', w', q1, q2, q3, q4, q5⟩ := appNew_new (ρ := ρ) (w := w) hk s2 hie hsz g3 hnew (by rw [List.length_append, hclen, hlen, hadd, Nat.add_mul]) (w1 := w.drew) rfl rfl rfl rfl
          (cap := (Question.appendCap (len + n) cap (slT P st')).cut (w.tape w.drawn (.appendCap (len + n) cap (slT P st')))) (by have := cut_ge (len + n) cap (slT P st') (w.tape w.drawn (.appendCap (len + n) cap (slT P st'))); rw [hadd]; omega)
        refine ⟨ρ', y, h', nx', _, w', q1, q2, q3, x2.trans q4, ?_⟩
        refine hgrow (co := ((arr.toList.drop L.base).drop off).take (len * sz)) rfl hroom hb1 hb2 (fun w1 hw1 => ?_) q5
        simp only [firstCells]
        rw [run_loadCells_of P w1 L.blk (L.base + off) (len * sz) _ fz arr (by rw [hw1]; exact h2) (by omega)]
        rw [List.drop_drop]
theorem opAppend0_sound {ts : Array TypeId} {st' xt : TypeId} {sv x : V} {K : KV} {vs vx : Value} {args : Array Value} {ty : TypeId} (hk0 : opAppend0 P st' xt sv x h nx K = true) (s : St ρ h nx w)
    (ht0 : ts[0]? = some st') (ht1 : ts[1]? = some xt) (ha0 : args[0]? = some vs) (ha1 : args[1]? = some vx) (hs : VR ρ sv vs) (hx : VR ρ x vx) :
    ∃ ρ' y h' nx' v w', K y h' nx' = true ∧ VR ρ' y v ∧ St ρ' h' nx' w' ∧ Ext ρ h w ρ' h' w' ∧ (append_ ts ty args).run P w = .ok v w' := by
  cases hE : slE P st' with
  | zero => unfold opAppend0 at hk0; rw [hE] at hk0; exact Bool.noConfusion hk0
  | succ sz =>
    unfold opAppend0 at hk0
    rw [hE] at hk0
    obtain ⟨e1, hk1⟩ := ite1_spec hk0
    clear hk0
    have e1 := Nat.blt_eq.mp e1
    obtain ⟨ie, hu, hie, hsz⟩ := slE_spec hE
    cases hT : Nat.beq (tyk P xt) 6 with
    | false =>
      rw [hT] at hk1
      obtain ⟨e2, hk2⟩ := ite1_spec hk1
      obtain ⟨dx, hux, hni⟩ := xt_spec e2
      obtain ⟨new, n, cells, hk, hnew, hlen, hlo, hfc⟩ := srcK_spec (P := P) hk2 s hx
      exact appK_sound hk s hs e1 hie hsz hnew hlen
        (fun hv hle hst => run_append_room ht0 ht1 (by rw [ha0, hv]) ha1 hu hie hsz hux hni hlo (hfc w rfl) hle hst)
        (fun hv hgt hb1 hb2 hold hfin => run_append_grow ht0 ht1 (by rw [ha0, hv]) ha1 hu hie hsz hux hni hlo hgt hb1 hb2 hold hfc hfin)
    | true =>
      rw [hT] at hk1
      have hux := tyk_i64 hT
      obtain ⟨new, n, zv, kd, hk, hnew, hlen, hvx, hn, hnb, hz⟩ := zsrcK_spec (P := P) hk1 hx hie hsz e1
      exact appK_sound hk s hs e1 hie hsz hnew hlen
        (fun hv hle hst => run_append_roomZ ht0 ht1 (by rw [ha0, hv]) (by rw [ha1, hvx]) hu hie hsz hux hn hnb e1 hz hle hst)
        (fun hv hgt hb1 hb2 hold hfin => run_append_growZ ht0 ht1 (by rw [ha0, hv]) (by rw [ha1, hvx]) hu hie hsz hux hn hnb e1 hz hgt hb1 hb2 hold hfin)
end
end Go.Mx
namespace Go.Mx
open Builtin
noncomputable section
variable {P : Program} {ρ : Ren} {h : T O} {nx : Nat} {w : World}
theorem oR_spec {o : O} {k : V → Nat → Bool → Bool} (h : oR o k = true) : ∃ l ty wr, o = .r l ty wr ∧ k l ty wr = true := by cases o <;> first | (simp [oR] at h; done) | exact ⟨_, _, _, rfl, h⟩
theorem St.relR (s : St ρ h nx w) {id : Nat} {L : Loc} {l : V} {ty : Nat} {wr : Bool} (ho : gt O.none id h = .r l ty wr) (hL : ρ id = some L) :
    ∃ arr fz sb, w.heap[L.blk]? = some (.cells arr ty fz) ∧ arr.size = L.size ∧ (wr = true → free L.size fz) ∧ L.base + sb.length ≤ L.size ∧ RR ρ l sb ∧ (arr.toList.drop L.base).take sb.length = sb.map byteV := by
  obtain ⟨o, h1, h2⟩ := s.rel id L (by rw [ho]; trivial) hL
  rw [ho] at h2
  obtain ⟨arr, fz, sb, rfl, h3, h4, h5, h6, h7⟩ := h2
  exact ⟨arr, fz, sb, h1, h3, h4, h5, h6, h7⟩
theorem str_src (b : ByteArray) (w : World) : (lenOf (.string b)).run P w = .ok b.data.toList.length w ∧ (firstCells 1 b.data.toList.length (.string b)).run P w = .ok ⟨b.data.toList.map byteV⟩ w := by
  have hsz : b.data.toList.length = b.size := rfl
  refine ⟨by simp [lenOf, hsz], ?_⟩
  have key : ∀ l' : List Nat, (bs l').extract 0 (bs l').size = bs l' := fun l' => by rw [bs_extract, bs_size]; simp
  have e2 := key (b.data.toList.map UInt8.toNat)
  rw [bs_bytes] at e2
  rw [hsz]
  simp only [firstCells, e2, Sem.run_pure]
  congr 1
  apply Array.ext'
  simp [byteV]
theorem bytes_of_cells {c : V} {vs : List Value} (hw : wOk c = true) (hv : VRs ρ c vs) : ∃ b : List UInt8, vs = b.map byteV ∧ RR ρ c b := by
  obtain ⟨b, rfl⟩ := wOk_spec hw hv
  exact ⟨b, rfl, wOk_RR hw hv⟩
theorem srcR_spec {x : V} {k : V → Bool} {vx : Value} (hk : srcR x h k = true) (s : St ρ h nx w) (hx : VR ρ x vx) :
    ∃ c b, k c = true ∧ RR ρ c b ∧ (lenOf vx).run P w = .ok b.length w ∧ ∀ w' : World, w'.heap = w.heap → (firstCells 1 b.length vx).run P w' = .ok ⟨b.map byteV⟩ w' := by
  have txt : ∀ {c : V} {b : ByteArray}, k c = true → vx = .string b → RR ρ c b.data.toList → ∃ c b, k c = true ∧ RR ρ c b ∧ (lenOf vx).run P w = .ok b.length w ∧ ∀ w' : World, w'.heap = w.heap → (firstCells 1 b.length vx).run P w' = .ok ⟨b.map byteV⟩ w' := fun {c b} h1 h2 h3 => by
    subst h2
    exact ⟨c, _, h1, h3, (str_src b w).1, fun w' _ => (str_src b w').2⟩
  have nil : k .nil = true → (∃ A cap, vx = .slice A 0 cap) → ∃ c b, k c = true ∧ RR ρ c b ∧ (lenOf vx).run P w = .ok b.length w ∧ ∀ w' : World, w'.heap = w.heap → (firstCells 1 b.length vx).run P w' = .ok ⟨b.map byteV⟩ w' := fun h1 h2 => by
    obtain ⟨A, cap, rfl⟩ := h2
    refine ⟨.nil, [], h1, by simp [RR], rfl, fun w' _ => ?_⟩
    cases A <;> simp [firstCells, loadCells, loadCellsFrom]
  cases x <;> first | exact Bool.noConfusion hk | skip
  case s l =>
    obtain ⟨c, h1, h2⟩ := chbK_RR (show chbK l k = true from hk)
    simp only [VR] at hx
    obtain ⟨rfl, hl⟩ := hx
    exact txt h1 rfl (by rw [bs_data]; exact h2 ρ hl)
  case w l =>
    obtain ⟨e, hk2⟩ := ite1_spec (show ite1 (wOk l) (k l) = true from hk)
    simp only [VR] at hx
    obtain ⟨b, rfl, hb⟩ := hx
    exact txt hk2 rfl (wOk_RR e hb)
  case sn => simp only [VR] at hx; exact nil hk ⟨_, _, hx⟩
  case se => simp only [VR] at hx; obtain ⟨A, c, hx⟩ := hx; exact nil hk ⟨_, _, hx⟩
  case s0 => simp only [VR] at hx; obtain ⟨A, hx⟩ := hx; exact nil hk ⟨_, _, hx⟩
  case sl id off len sz =>
    obtain ⟨e1, hk2⟩ := ite1_spec (show ite1 (Nat.beq sz 1) (oC (gt O.none id h) fun l _ _ => dropK l off fun r => takeK r len fun c => ite1 (wOk c) (k c)) = true from hk)
    have e1 := beq_spec e1
    subst e1
    obtain ⟨l, ty, wr, ho, hk3⟩ := oC_spec hk2
    simp only [VR] at hx
    obtain ⟨L, cap, hL, hc1, hc2, rfl⟩ := hx
    obtain ⟨o, h2, h3⟩ := s.relC ho hL
    obtain ⟨arr, fz, rfl, h4, h5, h6, h7⟩ := h3
    obtain ⟨r, hk4, hrc, hr⟩ := dropK_spec hk3 (CR_isC h7)
    obtain ⟨c, hk5, hc⟩ := takeK_spec hk4 hrc
    obtain ⟨g1, g2⟩ := hr ρ _ h7
    obtain ⟨g3, g4⟩ := hc ρ _ g1
    obtain ⟨e2, hk6⟩ := ite1_spec hk5
    obtain ⟨b, hb1, hb2⟩ := bytes_of_cells e2 g3
    have hbl : b.length = len := by
      have := congrArg List.length hb1
      simp only [List.length_take, List.length_map] at this
      omega
    refine ⟨c, b, hk6, hb2, by rw [hbl]; rfl, fun w' hw => ?_⟩
    have hle : L.base + off + b.length * 1 ≤ arr.size := by simp at g4; omega
    simp only [firstCells]
    rw [run_loadCells_of P w' L.blk (L.base + off) (b.length * 1) ty fz arr (by rw [hw]; exact h2) hle]
    rw [← hb1, List.drop_drop, hbl, Nat.mul_one]
  case o t l a lo hi =>
    have hk2 : (Bool.rec (ite1 (Nat.beq t 3) <| oR (gt O.none a h) fun c _ _ => lenR c fun m => ite1 (sameV l m) (k c)) (k l) (Nat.beq t 0) : Bool) = true := hk
    cases e : Nat.beq t 0 with
    | true =>
      rw [e] at hk2
      obtain ⟨b, h1, h2⟩ := rope_of (beq_spec e) hx
      exact txt hk2 h1 h2
    | false =>
      rw [e] at hk2
      obtain ⟨e3, hk3⟩ := ite1_spec hk2
      obtain ⟨L, n, cap, hL, hn, hc1, hc2, rfl⟩ := slice_of (beq_spec e3) hx
      obtain ⟨c, ty, wr, ho, hk4⟩ := oR_spec hk3
      obtain ⟨m, hk5, _, hm⟩ := lenR_spec hk4
      obtain ⟨e4, hk6⟩ := ite1_spec hk5
      have e4 := sameV_eq e4
      subst e4
      obtain ⟨arr, fz, sb, g1, g2, g3, g4, g5, g6⟩ := s.relR ho hL
      have hnn : n = sb.length := by have := hn.fn (hm ρ _ g5); omega
      subst hnn
      refine ⟨c, sb, hk6, g5, rfl, fun w' hw => ?_⟩
      simp only [firstCells]
      rw [run_loadCells_of P w' L.blk L.base (sb.length * 1) ty fz arr (by rw [hw]; exact g1) (by omega)]
      rw [Nat.mul_one, g6]
theorem minOne_spec {c : V} {k : Bool} (hk : minOne c k = true) : k = true ∧ ∀ ρ s, RR ρ c s → 1 ≤ s.length := by
  obtain ⟨l, hk2, _, hl⟩ := lenR_spec hk
  obtain ⟨lo, hi, hk3, hr⟩ := rgK_spec hk2
  obtain ⟨e, hk4⟩ := ite1_spec hk3
  have e := ile_spec e
  refine ⟨hk4, fun ρ s hs => ?_⟩
  have := hr ρ _ (hl ρ s hs)
  have z : Int.ofNat 1 = (1 : Int) := rfl
  omega
theorem oldR_spec {et : TypeId} {sv new : V} {k : V → T O → Bool} {vs : Value} (hk : oldR et sv h new k = true) (s : St ρ h nx w) (hs : VR ρ sv vs) :
    ((∃ base, vs = .slice base 0 0) ∧ k .nil h = true ∧ ∀ ρ s, RR ρ new s → 1 ≤ s.length) ∨
    ∃ (id : Nat) (L : Loc) (arr : Array Value) (fz : Nat × Nat) (off : Nat) (old : V) (bo : List UInt8) (cap : Nat), ρ id = some L ∧ (gt O.none id h).wr ∧ w.heap[L.blk]? = some (.cells arr et fz) ∧ arr.size = L.size ∧ free L.size fz ∧ RR ρ old bo ∧
      vs = .slice (some ⟨L.blk, L.base + off, none⟩) bo.length cap ∧ bo.length ≤ cap ∧ L.base + off + cap ≤ L.size ∧ (arr.toList.drop (L.base + off)).take bo.length = bo.map byteV ∧ k old (st O.none O.none id h) = true := by
  cases sv <;> first | exact Bool.noConfusion hk | skip
  case sn =>
    simp only [VR] at hs
    obtain ⟨h1, h2⟩ := minOne_spec (show minOne new (k .nil h) = true from hk)
    exact .inl ⟨⟨_, hs⟩, h1, h2⟩
  case s0 =>
    simp only [VR] at hs
    obtain ⟨A, hs⟩ := hs
    obtain ⟨h1, h2⟩ := minOne_spec (show minOne new (k .nil h) = true from hk)
    exact .inl ⟨⟨_, hs⟩, h1, h2⟩
  case sl id off len sz =>
    obtain ⟨e1, hk2⟩ := ite1_spec (show ite1 (Nat.beq sz 1) (oC (gt O.none id h) fun l ty wr => ite1 wr <| ite1 (Nat.beq ty et) <| dropK l off fun r => takeK r len fun c => ite1 (wOk c) <| stK O.none O.none id h fun h' => k c h') = true from hk)
    have e1 := beq_spec e1
    subst e1
    obtain ⟨l, ty, wr, ho, hk3⟩ := oC_spec hk2
    obtain ⟨ewr, hk4⟩ := ite1_spec hk3
    subst ewr
    obtain ⟨e2, hk5⟩ := ite1_spec hk4
    have e2 := beq_spec e2
    subst e2
    simp only [VR] at hs
    obtain ⟨L, cap, hL, hc1, hc2, rfl⟩ := hs
    obtain ⟨o, h2, h3⟩ := s.relC ho hL
    obtain ⟨arr, fz, rfl, h4, h5, h6, h7⟩ := h3
    obtain ⟨r, hk6, hrc, hr⟩ := dropK_spec hk5 (CR_isC h7)
    obtain ⟨c, hk7, hc⟩ := takeK_spec hk6 hrc
    obtain ⟨g1, g2⟩ := hr ρ _ h7
    obtain ⟨g3, g4⟩ := hc ρ _ g1
    obtain ⟨e3, hk8⟩ := ite1_spec hk7
    rw [stK_eq] at hk8
    obtain ⟨b, hb1, hb2⟩ := bytes_of_cells e3 g3
    have hbl : b.length = len := by
      have := congrArg List.length hb1
      simp only [List.length_take, List.length_map] at this
      omega
    subst hbl
    refine .inr ⟨id, L, arr, fz, off, c, b, cap, hL, asC_wr ho, h2, h4, h5 rfl, hb2, rfl, hc1, by omega, ?_, hk8⟩
    rw [← hb1, List.drop_drop]
  case o t l a lo hi =>
    obtain ⟨e3, hk3⟩ := ite1_spec (show ite1 (Nat.beq t 3) (oR (gt O.none a h) fun c ty wr => ite1 wr <| ite1 (Nat.beq ty et) <| lenR c fun m => ite1 (sameV l m) <| stK O.none O.none a h fun h' => k c h') = true from hk)
    obtain ⟨L, n, cap, hL, hn, hc1, hc2, rfl⟩ := slice_of (beq_spec e3) hs
    obtain ⟨c, ty, wr, ho, hk4w⟩ := oR_spec hk3
    obtain ⟨ewr, hk4⟩ := ite1_spec hk4w
    subst ewr
    obtain ⟨e2, hk5⟩ := ite1_spec hk4
    have e2 := beq_spec e2
    subst e2
    obtain ⟨m, hk6, _, hm⟩ := lenR_spec hk5
    obtain ⟨e4, hk7⟩ := ite1_spec hk6
    have e4 := sameV_eq e4
    subst e4
    rw [stK_eq] at hk7
    obtain ⟨arr, fz, sb, g1, g2, g3, g4, g5, g6⟩ := s.relR ho hL
    have hnn : n = sb.length := by have := hn.fn (hm ρ _ g5); omega
    subst hnn
    exact .inr ⟨a, L, arr, fz, 0, c, sb, cap, hL, by rw [ho]; exact rfl, g1, g2, g3 rfl, g5, rfl, hc1, by omega, by simpa using g6, hk7⟩
theorem zOk_spec {et : TypeId} {k : Bool} (hk : zOk P et k = true) : k = true ∧ ∃ zv, (∀ w, (zeroValue et).run P w = .ok zv w) ∧ zv.cells.size = 1 := by
  unfold zOk at hk
  cases hz : zeroC P et with
  | none => rw [hz] at hk; exact Bool.noConfusion hk
  | some z =>
    rw [hz] at hk
    obtain ⟨zv, hzv, hzr⟩ := zeroC_spec hz
    obtain ⟨zn, hk, hzn, _⟩ := lenK_spec (show lenK z 0 (fun zn => ite1 (Nat.beq zn 1) k) = true from hk) (VRs_isC (hzr (fun _ => none)))
    rw [Nat.zero_add] at hk
    obtain ⟨e3, hk⟩ := ite1_spec hk
    have e3 := beq_spec e3
    exact ⟨hk, zv, hzv, by have := hzn _ _ (hzr (fun _ => none)); simp at this; omega⟩
theorem xt_spec2 {t : TypeId} (h : ior (Nat.beq (tyk P t) 1) (Nat.beq (tyk P t) 20) = true) : ∃ d, P.underlying t = some d ∧ ∀ k, d ≠ .int k := by
  refine xt_spec ?_
  rw [ior_eq, Bool.or_eq_true] at h
  rw [ior_eq, ior_eq, Bool.or_eq_true, Bool.or_eq_true]
  rcases h with h | h
  · exact .inl h
  · exact .inr (.inl h)
theorem one_bytes (b : List UInt8) : ∀ v ∈ b.map byteV, v.oneCell' = true := by
  intro v hv
  obtain ⟨c, _, rfl⟩ := List.mem_map.1 hv
  rfl
set_option maxHeartbeats 800000 in
theorem appO_sound {ts : Array TypeId} {st' xt : TypeId} {sv x : V} {K : KV} {vs vx : Value} {args : Array Value} {ty : TypeId} (hk0 : appO P st' xt sv x h nx K = true) (s : St ρ h nx w)
    (ht0 : ts[0]? = some st') (ht1 : ts[1]? = some xt) (ha0 : args[0]? = some vs) (ha1 : args[1]? = some vx) (hs : VR ρ sv vs) (hx : VR ρ x vx) :
    ∃ ρ' y h' nx' v w', K y h' nx' = true ∧ VR ρ' y v ∧ St ρ' h' nx' w' ∧ Ext ρ h w ρ' h' w' ∧ (append_ ts ty args).run P w = .ok v w' := by
  obtain ⟨e1, hk1⟩ := ite1_spec hk0
  obtain ⟨ie, hu, hie, hsz⟩ := slE_spec (P := P) (t := st') (n := 1) (beq_spec e1)
  obtain ⟨hk2, zv, hzv, hzs⟩ := zOk_spec hk1
  have hby := bytes_of hie
  clear hk0 hk1
  have z : ∀ n : Nat, Int.ofNat n = (n : Int) := fun _ => rfl
  cases eT : Nat.beq (tyk P xt) 6 with
  | true =>
    rw [eT] at hk2
    have hux := tyk_i64 eT
    obtain ⟨esn, hk3⟩ := ite1_spec hk2
    have esn := isSn_spec esn
    subst esn
    simp only [VR] at hs
    subst hs
    obtain ⟨kd, l, hk4, hl⟩ := linK_spec hk3
    obtain ⟨n, hn, rfl⟩ := hl ρ _ hx
    obtain ⟨e3, hk5⟩ := ite1_spec hk4
    obtain ⟨lo, hi, hk6, hr⟩ := rgK_spec hk5
    obtain ⟨q1, hk7⟩ := ite1_spec hk6
    obtain ⟨q2, hk8⟩ := ite1_spec hk7
    obtain ⟨q3, hk9⟩ := ite1_spec hk8
    have q1 := ile_spec q1
    have q2 := ile_spec q2
    have q3 := ile_spec q3
    rw [stK_eq] at hk9
    have hb := hr ρ _ hn
    rw [z] at q1 q2 q3
    obtain ⟨m, rfl⟩ : ∃ m : Nat, n = (m : Int) := ⟨n.toNat, by omega⟩
    have hm1 : 1 ≤ m := by omega
    have hm2 : m ≤ 140737488355328 := by omega
    have hm3 : m * ie.bytes ≤ 140737488355328 := by
      rw [hby] at q3
      have h1 : (m : Int) * (ie.bytes : Int) ≤ hi * (ie.bytes : Int) := Int.mul_le_mul_of_nonneg_right hb.2 (by omega)
      have q3 : hi * (ie.bytes : Int) ≤ 140737488355328 := q3
      have h3 : ((m * ie.bytes : Nat) : Int) ≤ 140737488355328 := by rw [Int.natCast_mul]; omega
      omega
    have hcap := cut_ge (0 + m) 0 (slT P st') (w.tape w.drawn (.appendCap (0 + m) 0 (slT P st')))
    generalize hC : (Question.appendCap (0 + m) 0 (slT P st')).cut (w.tape w.drawn (.appendCap (0 + m) 0 (slT P st'))) = cap at hcap
    let arr : Array Value := ((⟨[]⟩ : Array Value) ++ zeroCells zv.cells m) ++ zeroCells zv.cells (cap - (0 + m))
    have hasz : arr.size = cap := by simp [arr, zeroCells, hzs]; omega
    have s1 : St ρ h nx w.drew := s.heap rfl
    obtain ⟨k1, k2⟩ := s1.alloc (o := .c .nil (slT P st') true) (ob := .cells arr (slT P st')) (n := cap)
      ⟨arr, (0, 0), rfl, hasz, by intro _ q _; simp, Nat.zero_le _, by simp [CR]⟩
    refine ⟨_, _, _, _, .slice (some ⟨w.heap.size, 0, none⟩) (0 + m) cap, _, hk9, ?_, k1, Ext.trans (Ext.same (w' := w.drew) rfl rfl rfl rfl) k2, ?_⟩
    · rw [Nat.zero_add]
      exact VR_o3 (upd_same _ _ _) (hn.mono (upd_le (s1.fresh nx (Nat.le_refl _)))) (by omega) (by show 0 + cap ≤ cap; omega)
    · refine run_append_growZ (base := none) (sLen := 0) (sCap := 0) (co := []) (n := m) ht0 ht1 ha0 ha1 hu hie hsz hux hm2 hm3 (by omega) hzv (by omega) (by omega) (by simpa using hm3) (fun w1 _ => by simp [firstCells]) ?_
      rw [hC]
      simp only [Sem.run_bind, hzv, Result.andThen_ok, newRow, run_newObj, Sem.run_pure]
      rfl
  | false =>
    rw [eT] at hk2
    obtain ⟨e2, hk3⟩ := ite1_spec hk2
    obtain ⟨dx, hux, hni⟩ := xt_spec2 e2
    obtain ⟨new, bn, hk4, hnew, hlo, hfc⟩ := srcR_spec (P := P) hk3 s hx
    clear hk2 hk3
    have fin : ∀ {old : V} {bo : List UInt8} {h' : T O}, RR ρ old bo → (catK old new fun c => lenR c fun m => rgK m fun _ hi => ite1 (ile hi (Int.ofNat 140737488355328)) <| ite1 (ile (Int.mul hi (Int.ofNat (bytesE P (slT P st')))) (Int.ofNat 140737488355328)) <| stK O.none (O.r c (slT P st') true) nx h' fun h'' => K (.o 3 m nx 0 0) h'' (Nat.succ nx)) = true →
        ∃ c m, RR ρ c (bo ++ bn) ∧ LR ρ m ((bo.length + bn.length : Nat) : Int) ∧ bo.length + bn.length ≤ 140737488355328 ∧ (bo.length + bn.length) * ie.bytes ≤ 140737488355328 ∧ K (.o 3 m nx 0 0) (st O.none (O.r c (slT P st') true) nx h') (nx + 1) = true := fun {old bo h'} ho hk => by
      obtain ⟨c, hk5, hc⟩ := catK_RR hk (RR_isC ho)
      obtain ⟨m, hk6, _, hm⟩ := lenR_spec hk5
      obtain ⟨lo, hi, hk7, hr⟩ := rgK_spec hk6
      obtain ⟨q2, hk8⟩ := ite1_spec hk7
      obtain ⟨q3, hk9⟩ := ite1_spec hk8
      have q2 := ile_spec q2
      have q3 := ile_spec q3
      rw [stK_eq] at hk9
      have hcat := hc ρ _ _ ho hnew
      have hlr := hm ρ _ hcat
      rw [List.length_append] at hlr
      have hb := hr ρ _ hlr
      rw [z] at q2 q3
      refine ⟨c, m, hcat, hlr, by omega, ?_, hk9⟩
      rw [hby] at q3
      have h1 : ((bo.length + bn.length : Nat) : Int) * (ie.bytes : Int) ≤ hi * (ie.bytes : Int) := Int.mul_le_mul_of_nonneg_right hb.2 (by omega)
      have q3 : hi * (ie.bytes : Int) ≤ 140737488355328 := q3
      have h3 : (((bo.length + bn.length) * ie.bytes : Nat) : Int) ≤ 140737488355328 := by rw [Int.natCast_mul]; omega
      omega
    have grow : ∀ {ρ1 : Ren} {h1 : T O} {base : Option Addr} {sCap : Nat} {bo : List UInt8} {c m : V}, St ρ h1 nx w → Ext ρ h w ρ h1 w → ρ1 = ρ → vs = .slice base bo.length sCap → ¬ bo.length + bn.length ≤ sCap → RR ρ c (bo ++ bn) → LR ρ m ((bo.length + bn.length : Nat) : Int) → bo.length + bn.length ≤ 140737488355328 → (bo.length + bn.length) * ie.bytes ≤ 140737488355328 →
        K (.o 3 m nx 0 0) (st O.none (O.r c (slT P st') true) nx h1) (nx + 1) = true → (∀ w1 : World, w1.heap = w.heap → (firstCells 1 bo.length (.slice base bo.length sCap)).run P w1 = .ok ⟨bo.map byteV⟩ w1) →
        ∃ ρ' y h' nx' v w', K y h' nx' = true ∧ VR ρ' y v ∧ St ρ' h' nx' w' ∧ Ext ρ h w ρ' h' w' ∧ (append_ ts ty args).run P w = .ok v w' := fun {ρ1 h1 base sCap bo c m} s1 x1 _ hv hgt hc hm hb1 hb2 hk hold => by
      subst hv
      have hcap := cut_ge (bo.length + bn.length) sCap (slT P st') (w.tape w.drawn (.appendCap (bo.length + bn.length) sCap (slT P st')))
      generalize hC : (Question.appendCap (bo.length + bn.length) sCap (slT P st')).cut (w.tape w.drawn (.appendCap (bo.length + bn.length) sCap (slT P st'))) = cap at hcap
      let arr : Array Value := ((⟨bo.map byteV⟩ : Array Value) ++ (⟨bn.map byteV⟩ : Array Value)) ++ zeroCells zv.cells (cap - (bo.length + bn.length))
      have hasz : arr.size = cap := by simp [arr, zeroCells, hzs]; omega
      have s2 : St ρ h1 nx w.drew := s1.heap rfl
      have hle := upd_le (L := ⟨w.drew.heap.size, 0, cap⟩) (s2.fresh nx (Nat.le_refl _))
      obtain ⟨k1, k2⟩ := s2.alloc (o := .r c (slT P st') true) (ob := .cells arr (slT P st')) (n := cap)
        ⟨arr, (0, 0), bo ++ bn, rfl, hasz, by intro _ q _; simp, by simp; omega, hc.mono hle, by
          show (arr.toList.drop 0).take (bo ++ bn).length = (bo ++ bn).map byteV
          have e : arr.toList = (bo ++ bn).map byteV ++ (zeroCells zv.cells (cap - (bo.length + bn.length))).toList := by simp [arr]
          rw [List.drop_zero, e, List.take_append_of_le_length (by simp), List.take_of_length_le (by simp)]⟩
      refine ⟨_, _, _, _, .slice (some ⟨w.heap.size, 0, none⟩) (bo.length + bn.length) cap, _, hk, VR_o3 (upd_same _ _ _) (hm.mono hle) (by omega) (by show 0 + cap ≤ cap; omega), k1, x1.trans (Ext.trans (Ext.same (w' := w.drew) rfl rfl rfl rfl) k2), ?_⟩
      refine run_append_grow (n := bn.length) (co := bo.map byteV) (cells := bn.map byteV) ht0 ht1 ha0 ha1 hu hie hsz hux hni hlo hgt hb1 hb2 hold hfc ?_
      rw [hC]
      simp only [Sem.run_bind, hzv, Result.andThen_ok, newRow, run_newObj, Sem.run_pure]
      rfl
    rcases oldR_spec hk4 s hs with ⟨⟨base, hv⟩, hk5, hmin⟩ | ⟨id, L, arr, fz, off, old, bo, cap, hL, hwr, hh, ha, hfz, ho, hv, hc1, hc2, hcells, hk5⟩
    · obtain ⟨c, m, q1, q2, q3, q4, q5⟩ := fin (bo := []) (by simp [RR]) hk5
      have := hmin ρ _ hnew
      exact grow (bo := []) s (Ext.refl _ _ _) rfl hv (fun h0 => by have h00 : ([] : List UInt8).length = 0 := rfl; omega) q1 q2 q3 q4 q5 (fun w1 _ => by cases base <;> simp [firstCells, loadCells, loadCellsFrom])
    · obtain ⟨c, m, q1, q2, q3, q4, q5⟩ := fin ho hk5
      by_cases hroom : bo.length + bn.length ≤ cap
      · have hal : arr.toList.length = arr.size := by simp
        have hst := run_storeCells_free P L.blk (L.base + off + bo.length) (slT P st') fz (bn.map byteV) 0 arr w hh (by rw [ha]; exact hfz) (by simp; omega) (one_bytes bn)
        rw [Nat.add_zero] at hst
        have hle := upd_le (L := ⟨L.blk, L.base + off, L.size⟩) (s.fresh nx (Nat.le_refl _))
        have hdrop : (lput arr.toList (L.base + off + bo.length) (bn.map byteV)).drop (L.base + off) = (arr.toList.drop (L.base + off)).take bo.length ++ bn.map byteV ++ (arr.toList.drop (L.base + off)).drop (bo.length + (bn.map byteV).length) := by
          rw [lput_drop arr.toList (L.base + off) bo.length (bn.map byteV) (by simp; omega)]
          simp only [lput]
        have hor : OR (upd ρ nx ⟨L.blk, L.base + off, L.size⟩) ⟨L.blk, L.base + off, L.size⟩ (.r c (slT P st') true) (.cells (lput arr.toList (L.base + off + bo.length) (bn.map byteV)).toArray (slT P st') fz) := by
          refine ⟨_, fz, bo ++ bn, rfl, ?_, fun _ => hfz, by show L.base + off + (bo ++ bn).length ≤ L.size; simp; omega, q1.mono hle, ?_⟩
          · rw [List.size_toArray, lput_length _ _ _ (by simp; omega), hal, ha]
          · show ((lput arr.toList (L.base + off + bo.length) (bn.map byteV)).drop (L.base + off)).take (bo ++ bn).length = (bo ++ bn).map byteV
            rw [hdrop, hcells, ← List.map_append, List.take_append_of_le_length (by simp)]
            rw [List.take_of_length_le (by simp)]
        obtain ⟨k1, k2⟩ := s.move (id := id) (L := L) (M := ⟨L.blk, L.base + off, L.size⟩) hwr hL rfl hor (setRow_heap_eq w _ _ _ _ _ hh) rfl rfl rfl
        refine ⟨_, _, _, _, .slice (some ⟨L.blk, L.base + off, none⟩) (bo.length + bn.length) cap, _, q5, VR_o3 (upd_same _ _ _) (q2.mono hle) hroom (by show L.base + off + cap ≤ L.size; omega), k1, k2, ?_⟩
        refine run_append_room (cells := bn.map byteV) ht0 ht1 (by rw [ha0, hv]) ha1 hu hie hsz hux hni hlo (hfc w rfl) hroom ?_
        simp only [addr_add, Nat.mul_one]
        exact hst
      · obtain ⟨s2, x2⟩ := s.kill hL
        refine grow s2 x2 rfl hv hroom q1 q2 q3 q4 q5 (fun w1 hw1 => ?_)
        simp only [firstCells]
        rw [run_loadCells_of P w1 L.blk (L.base + off) (bo.length * 1) _ fz arr (by rw [hw1]; exact hh) (by omega)]
        rw [Nat.mul_one, hcells]
theorem opAppend_sound {ts : Array TypeId} {st' xt : TypeId} {sv x : V} {K : KV} {vs vx : Value} {args : Array Value} {ty : TypeId} (hk0 : opAppend P st' xt sv x h nx K = true) (s : St ρ h nx w)
    (ht0 : ts[0]? = some st') (ht1 : ts[1]? = some xt) (ha0 : args[0]? = some vs) (ha1 : args[1]? = some vx) (hs : VR ρ sv vs) (hx : VR ρ x vx) :
    ∃ ρ' y h' nx' v w', K y h' nx' = true ∧ VR ρ' y v ∧ St ρ' h' nx' w' ∧ Ext ρ h w ρ' h' w' ∧ (append_ ts ty args).run P w = .ok v w' := by
  unfold opAppend at hk0
  cases e : ior (isO sv) (isO x) with
  | false => rw [e] at hk0; exact opAppend0_sound hk0 s ht0 ht1 ha0 ha1 hs hx
  | true => rw [e] at hk0; exact appO_sound hk0 s ht0 ht1 ha0 ha1 hs hx
end
end Go.Mx
