/-
  A part of a small executor of the model, proved sound (4 of 28). No condition.
-/
import Derived.Test.YthocoonhoilmdaaGreatDoorXMx4
import Derived.Laws.Strings
import Derived.Laws.Strings2
import Derived.Laws.BitsLemmas
namespace Go.Mx
noncomputable section
theorem ite1_spec {c k : Bool} (h : ite1 c k = true) : c = true ∧ k = true := by
  cases c
  · exact absurd h (by simp [ite1])
  · exact ⟨rfl, h⟩
theorem vB_spec {v : V} {k : Bool → Bool} (h : vB v k = true) : ∃ x, v = .b x ∧ k x = true := by cases v <;> first | (simp [vB] at h; done) | exact ⟨_, rfl, h⟩
theorem vI_spec {v : V} {k : IntKind → Int → Bool} (h : vI v k = true) : ∃ kd n, v = .i kd n ∧ k kd n = true := by cases v <;> first | (simp [vI] at h; done) | exact ⟨_, _, rfl, h⟩
theorem vS_spec {v : V} {k : List Nat → Bool} (h : vS v k = true) : ∃ l, v = .s l ∧ k l = true := by cases v <;> first | (simp [vS] at h; done) | exact ⟨_, rfl, h⟩
theorem vP_spec {v : V} {k : Nat → Nat → Bool} (h : vP v k = true) : ∃ id off, v = .p id off ∧ k id off = true := by cases v <;> first | (simp [vP] at h; done) | exact ⟨_, _, rfl, h⟩
theorem vA_spec {v : V} {k : V → Bool} (h : vA v k = true) : ∃ l, v = .a l ∧ k l = true := by cases v <;> first | (simp [vA] at h; done) | exact ⟨_, rfl, h⟩
theorem vT_spec {v : V} {k : V → Bool} (h : vT v k = true) : ∃ l, v = .t l ∧ k l = true := by cases v <;> first | (simp [vT] at h; done) | exact ⟨_, rfl, h⟩
theorem vF_spec {v : V} {k : Nat → V → Bool} (h : vF v k = true) : ∃ g c, v = .f g c ∧ k g c = true := by cases v <;> first | (simp [vF] at h; done) | exact ⟨_, _, rfl, h⟩
theorem vF2_spec {v : V} {k k2 : Nat → V → Bool} (h : vF2 v k k2 = true) : (∃ g c, v = .f g c ∧ k g c = true) ∨ ∃ l g lo hi, v = .o 8 l g lo hi ∧ k2 g l = true := by
  cases v <;> first | (simp [vF2] at h; done) | exact .inl ⟨_, _, rfl, h⟩ | skip
  case o t l a lo hi =>
    have h2 : Bool.rec false (k2 a l) (Nat.beq t 8) = true := h
    cases e : Nat.beq t 8 with
    | false => rw [e] at h2; exact Bool.noConfusion h2
    | true =>
      rw [e] at h2
      have e := Nat.eq_of_beq_eq_true e
      subst e
      exact .inr ⟨_, _, _, _, rfl, h2⟩
theorem vM_spec {v : V} {k : Nat → Bool} (h : vM v k = true) : ∃ id, v = .m id ∧ k id = true := by cases v <;> first | (simp [vM] at h; done) | exact ⟨_, rfl, h⟩
theorem vN_spec {v : V} {k : Nat → Bool} (h : vN v k = true) : ∃ kd n, v = .i kd (Int.ofNat n) ∧ k n = true := by
  obtain ⟨kd, n, rfl, h⟩ := vI_spec h
  cases n with
  | ofNat n => exact ⟨kd, n, rfl, h⟩
  | negSucc n => exact Bool.noConfusion h
theorem cellsK_spec {v : V} {k : V → Bool} (h : cellsK v k = true) : ∃ c, k c = true ∧ ∀ ρ x, VR ρ v x → VRs ρ c x.cells.toList := by
  cases v with
  | nil => simp [cellsK] at h
  | cons x l => simp [cellsK] at h
  | t l => simp [cellsK] at h
  | a l =>
    refine ⟨l, h, fun ρ x hx => ?_⟩
    simp only [VR] at hx
    obtain ⟨vs, h1, rfl⟩ := hx
    simpa [Value.cells] using h1
  | b y => exact ⟨_, h, fun ρ x hx => by simp only [VR] at hx; subst hx; simp [Value.cells, VRs, VR]⟩
  | i kd n => exact ⟨_, h, fun ρ x hx => by simp only [VR] at hx; subst hx; simp [Value.cells, VRs, VR]⟩
  | s l => exact ⟨_, h, fun ρ x hx => by simp only [VR] at hx; obtain ⟨rfl, h2⟩ := hx; simpa [Value.cells, VRs, VR] using h2⟩
  | p id off => exact ⟨_, h, fun ρ x hx => by simp only [VR] at hx; obtain ⟨L, h1, rfl⟩ := hx; simp only [Value.cells, VRs, VR]; exact ⟨_, _, rfl, ⟨L, h1, rfl⟩, rfl⟩⟩
  | pn => exact ⟨_, h, fun ρ x hx => by simp only [VR] at hx; subst hx; simp [Value.cells, VRs, VR]⟩
  | sl id off len sz => exact ⟨_, h, fun ρ x hx => by have hx' := hx; simp only [VR] at hx; obtain ⟨L, c, h1, h2, h3, rfl⟩ := hx; exact ⟨_, _, rfl, hx', rfl⟩⟩
  | sn => exact ⟨_, h, fun ρ x hx => by simp only [VR] at hx; subst hx; simp [Value.cells, VRs, VR]⟩
  | se => exact ⟨_, h, fun ρ x hx => by have hx' := hx; simp only [VR] at hx; obtain ⟨A, c, rfl⟩ := hx; exact ⟨_, _, rfl, hx', rfl⟩⟩
  | s0 => exact ⟨_, h, fun ρ x hx => by have hx' := hx; simp only [VR] at hx; obtain ⟨A, rfl⟩ := hx; exact ⟨_, _, rfl, hx', rfl⟩⟩
  | m id => exact ⟨_, h, fun ρ x hx => by have hx' := hx; simp only [VR] at hx; obtain ⟨L, h1, rfl⟩ := hx; exact ⟨_, _, rfl, hx', rfl⟩⟩
  | mn => exact ⟨_, h, fun ρ x hx => by simp only [VR] at hx; subst hx; simp [Value.cells, VRs, VR]⟩
  | f g c => exact ⟨_, h, fun ρ x hx => by have hx' := hx; simp only [VR] at hx; obtain ⟨vs, h1, rfl⟩ := hx; exact ⟨_, _, rfl, hx', rfl⟩⟩
  | fn => exact ⟨_, h, fun ρ x hx => by simp only [VR] at hx; subst hx; simp [Value.cells, VRs, VR]⟩
  | e t y => exact ⟨_, h, fun ρ x hx => by have hx' := hx; simp only [VR] at hx; obtain ⟨z, h1, rfl⟩ := hx; exact ⟨_, _, rfl, hx', rfl⟩⟩
  | x a kx lo hi => exact ⟨_, h, fun ρ x hx => by have hx' := hx; simp only [VR] at hx; obtain ⟨L, h1, h2, h3, rfl⟩ := hx; exact ⟨_, _, rfl, hx', rfl⟩⟩
  | w l => exact ⟨_, h, fun ρ x hx => by have hx' := hx; simp only [VR] at hx; obtain ⟨b, rfl, h1⟩ := hx; exact ⟨_, _, rfl, hx', rfl⟩⟩
  | y l a lo hi => exact ⟨_, h, fun ρ x hx => by have hx' := hx; simp only [VR] at hx; obtain ⟨b, L, n, rfl, h1⟩ := hx; exact ⟨_, _, rfl, hx', rfl⟩⟩
  | o t l a lo hi => exact ⟨_, h, fun ρ x hx => by have hx' := hx; simp only [VR, OV] at hx; rcases hx with (⟨_, _, rfl, _⟩ | ⟨_, _, _, rfl⟩ | ⟨_, _, _, _, _, _, _, _, rfl⟩ | ⟨_, _, rfl, _⟩) | ⟨_, _, _, rfl⟩ <;> exact ⟨_, _, rfl, hx', rfl⟩⟩
  | en => exact ⟨_, h, fun ρ x hx => by simp only [VR] at hx; subst hx; simp [Value.cells, VRs, VR]⟩
theorem oC_spec {o : O} {k : V → Nat → Bool → Bool} (h : oC o k = true) : ∃ l ty wr, asC o = .c l ty wr ∧ k l ty wr = true := by cases o <;> first | (simp [oC] at h; done) | exact ⟨_, _, _, rfl, h⟩
theorem oW_spec {o : O} {kc : V → Nat → Bool → Bool} {kv : V → Nat → Bool} (h : oW o kc kv = true) : (∃ l ty wr, o = .c l ty wr ∧ kc l ty wr = true) ∨ ∃ l ty, o = .v l ty ∧ kv l ty = true := by
  cases o <;> first | (simp [oW] at h; done) | exact .inl ⟨_, _, _, rfl, h⟩ | exact .inr ⟨_, _, rfl, h⟩
theorem oV_spec {o : O} {k : V → Nat → Bool} (h : oV o k = true) : ∃ l ty, o = .v l ty ∧ k l ty = true := by cases o <;> first | (simp [oV] at h; done) | exact ⟨_, _, rfl, h⟩
theorem oI_spec {o : O} {k : V → Nat → List Nat → Nat → Bool} (h : oI o k = true) : ∃ m a b c, o = .mi m a b c ∧ k m a b c = true := by cases o <;> first | (simp [oI] at h; done) | exact ⟨_, _, _, _, rfl, h⟩
theorem St.relC {ρ : Ren} {h : T O} {nx : Nat} {w : World} (s : St ρ h nx w) {id : Nat} {L : Loc} {l : V} {ty : Nat} {wr : Bool} (ho : asC (gt O.none id h) = .c l ty wr) (hL : ρ id = some L) :
    ∃ o, w.heap[L.blk]? = some o ∧ OR ρ L (.c l ty wr) o := by
  obtain ⟨o, h1, h2⟩ := s.rel id L (asC_live ho) hL
  exact ⟨o, h1, ho ▸ h2.asC⟩
theorem oM_spec {o : O} {k : E → Nat → Bool} (h : oM o k = true) : ∃ es cl, o = .mp es cl ∧ k es cl = true := by cases o <;> first | (simp [oM] at h; done) | exact ⟨_, _, rfl, h⟩
theorem oS_spec {o : O} {k : List Nat → Nat → Bool} (h : oS o k = true) : ∃ l pos, o = .si l pos ∧ k l pos = true := by cases o <;> first | (simp [oS] at h; done) | exact ⟨_, _, rfl, h⟩
variable {P : Program}
theorem run_und {t : TypeId} {d : TypeDesc} (h : P.underlying t = some d) (w : World) : (underlying t).run P w = .ok d w := run_underlying h w
theorem run_info {t : TypeId} {i : TypeInfo} (h : P.info? t = some i) (w : World) : (typeInfo t).run P w = .ok i w := by simp [typeInfo, h]
theorem run_size {t : TypeId} {i : TypeInfo} (h : P.info? t = some i) (w : World) : (sizeOf t).run P w = .ok i.size w := by simp [sizeOf, run_info h]
theorem ldk_one {t : TypeId} (h : ldk P t = 1) : ∀ w, (isAgg t).run P w = .ok false w := by
  intro w
  unfold ldk at h
  unfold isAgg
  simp only [Sem.run_bind]
  cases hu : P.underlying t with
  | none => rw [hu] at h; simp at h
  | some d =>
    rw [run_und hu]
    rw [hu] at h
    cases hi : P.info? t with
    | none => rw [hi] at h; cases d <;> simp at h
    | some i =>
      rw [hi] at h
      cases d <;> first | (simp at h; done) | rfl
theorem ldk_agg {t : TypeId} {n : Nat} (h : ldk P t = n + 2) : (∀ w, (isAgg t).run P w = .ok true w) ∧ ∀ w, (sizeOf t).run P w = .ok n w := by
  unfold ldk at h
  cases hu : P.underlying t with
  | none => rw [hu] at h; simp at h
  | some d =>
    rw [hu] at h
    cases hi : P.info? t with
    | none => rw [hi] at h; cases d <;> simp at h
    | some i =>
      rw [hi] at h
      have key : (d matches .struct _) = true ∨ (d matches .array _ _) = true := by
        cases d <;> first | (simp at h; done) | (right; rfl) | (left; rfl)
      refine ⟨fun w => ?_, fun w => ?_⟩
      · unfold isAgg
        simp only [Sem.run_bind, run_und hu]
        cases d <;> first | rfl | (simp at key; done)
      · rw [run_size hi]
        cases d <;> simp at h <;> (try (simp [h]))
theorem szk_spec {t : TypeId} {n : Nat} (h : szk P t = n + 1) : ∃ i, P.info? t = some i ∧ i.size = n := by
  unfold szk at h
  cases hi : P.info? t with
  | none => rw [hi] at h; simp at h
  | some i => rw [hi] at h; exact ⟨i, rfl, by simpa using h⟩
theorem partK_spec {t : TypeId} {l : V} {off : Nat} {k : V → Bool} (h : partK (ldk P t) l off k = true) (hc : isC l) :
    ∃ x, k x = true ∧ ((ldk P t = 1 ∧ ∀ ρ vs, CR ρ l vs → ∃ v, vs[off]? = some v ∧ VR ρ x v) ∨
      (∃ n, ldk P t = n + 2 ∧ ∀ ρ vs, CR ρ l vs → off + n ≤ vs.length ∧ ∃ c, x = .a c ∧ VRs ρ c ((vs.drop off).take n))) := by
  generalize hn : ldk P t = n at h
  match n, h with
  | 0, h => simp [partK] at h
  | 1, h =>
    obtain ⟨x, h1, h2⟩ := nthK_spec (show nthK l off k = true from h)
    exact ⟨x, h1, .inl ⟨rfl, h2⟩⟩
  | n + 2, h =>
    obtain ⟨r, h1, hrc, h2⟩ := dropK_spec (show dropK l off (fun r => takeK r n fun c => k (.a c)) = true from h) hc
    obtain ⟨c, h3, h4⟩ := takeK_spec h1 hrc
    refine ⟨.a c, h3, .inr ⟨n, rfl, fun ρ vs hv => ?_⟩⟩
    obtain ⟨h5, h6⟩ := h2 ρ vs hv
    obtain ⟨h7, h8⟩ := h4 ρ _ h5
    simp at h8
    exact ⟨by omega, c, rfl, h7⟩
end
end Go.Mx
namespace Go.Mx
open Instr
noncomputable section
variable {P : Program} {ρ : Ren} {h : T O} {nx : Nat} {w : World}
theorem St.at (s : St ρ h nx w) {id off : Nat} {l : V} {ty : Nat} {wr : Bool} (ho : asC (gt O.none id h) = .c l ty wr) {v : Value} (hv : VR ρ (.p id off) v) :
    ∃ L arr fz, ρ id = some L ∧ v = .pointer (some ⟨L.blk, L.base + off, none⟩) ∧ w.heap[L.blk]? = some (.cells arr ty fz) ∧ arr.size = L.size ∧ (wr = true → free L.size fz) ∧ L.base ≤ L.size ∧ CR ρ l (arr.toList.drop L.base) := by
  simp only [VR] at hv
  obtain ⟨L, hL, rfl⟩ := hv
  obtain ⟨o, h2, h3⟩ := s.relC ho hL
  obtain ⟨arr, fz, rfl, h4, h5, h6, h7⟩ := h3
  exact ⟨L, arr, fz, hL, rfl, h2, h4, h5, h6, h7⟩
theorem opLoad_sound {t : TypeId} {x : V} {K : V → Bool} {v : Value} (hk : opLoad P t x h K = true) (s : St ρ h nx w) (hv : VR ρ x v) :
    ∃ y r, K y = true ∧ VR ρ y r ∧ (loadAt t v).run P w = .ok r w := by
  obtain ⟨id, off, rfl, hk⟩ := vP_spec hk
  obtain ⟨l, ty, wr, ho, hk⟩ := oC_spec hk
  obtain ⟨L, arr, fz, hL, rfl, hh, hs, hfz, hb, hc⟩ := s.at ho hv
  obtain ⟨y, hy, hp⟩ := partK_spec hk (CR_isC hc)
  rcases hp with ⟨h1, hp⟩ | ⟨n, h1, hp⟩
  · obtain ⟨r, hr, hvr⟩ := hp ρ _ hc
    refine ⟨y, r, hy, hvr, ?_⟩
    rw [List.getElem?_drop] at hr
    simp only [loadAt, sureAddr, loadVar, Sem.run_bind, Sem.run_pure, Result.andThen_ok, ldk_one h1, Sem.run_ite, Bool.false_eq_true, if_false]
    exact run_load_of P w _ _ _ _ _ _ hh hr
  · obtain ⟨h2, c, rfl, hvc⟩ := hp ρ _ hc
    simp only [List.length_drop, Array.length_toList] at h2
    refine ⟨.a c, .agg ⟨((arr.toList.drop L.base).drop off).take n⟩, hy, ⟨_, hvc, rfl⟩, ?_⟩
    obtain ⟨ha, hn⟩ := ldk_agg h1
    simp only [loadAt, sureAddr, loadVar, Sem.run_bind, Sem.run_pure, Result.andThen_ok, ha, Sem.run_ite, if_true, hn]
    rw [run_loadCells_of P w _ _ n _ _ _ hh (by omega)]
    simp only [Result.andThen_ok]
    rw [List.drop_drop]
theorem storeAtK_sound {t : TypeId} {id off : Nat} {l x : V} {ty : Nat} {mk : V → O} {K : T O → Bool} {va vx : Value} (hk2 : storeAtK P t x h id off l mk K = true) (s : St ρ h nx w) (ho : asC (gt O.none id h) = .c l ty true) (hva : VR ρ (.p id off) va) (hvx : VR ρ x vx)
    (hmk : ∀ l' L arr fz ns, ρ id = some L → w.heap[L.blk]? = some (.cells arr ty fz) → L.base + off + ns.length ≤ arr.size → (∀ vs, VRs ρ l vs → VRs ρ l' (lput vs off ns)) → OR ρ L (.c l' ty true) (.cells (lput arr.toList (L.base + off) ns).toArray ty fz) → OR ρ L (mk l') (.cells (lput arr.toList (L.base + off) ns).toArray ty fz)) :
    ∃ h' w', K h' = true ∧ St ρ h' nx w' ∧ Ext ρ h w ρ h' w' ∧ (storeAt t va vx).run P w = .ok () w' := by
  obtain ⟨c, hk, hc⟩ := cellsK_spec hk2
  have hcv := hc ρ vx hvx
  obtain ⟨n, hk, hn, _⟩ := lenK_spec hk (VRs_isC hcv)
  obtain ⟨hz, hk⟩ := ite1_spec hk
  have hz := Nat.eq_of_beq_eq_true hz
  simp only [Nat.zero_add] at hz hk
  obtain ⟨i, hi, hin⟩ := szk_spec (P := P) hz
  obtain ⟨L, arr, fz, hL, rfl, hh, hs, hfz, hb, hcr⟩ := s.at ho hva
  obtain ⟨l', hk, _, hput, hput2⟩ := putK_spec hk (CR_isC hcr) (VRs_isC hcv)
  rw [stK_eq] at hk
  obtain ⟨hcr', hle, hone⟩ := hput ρ _ _ hcr hcv
  simp only [List.length_drop, Array.length_toList] at hle
  have hlen := hn ρ _ hcv
  have hsz : vx.cells.toList.length = vx.cells.size := by simp
  have hsa : arr.toList.length = arr.size := by simp
  have hrun := run_storeCells_free P L.blk (L.base + off) ty fz vx.cells.toList 0 arr w hh (by rw [hs]; exact hfz rfl) (by omega) hone
  have hor : OR ρ L (.c l' ty true) (.cells (lput arr.toList (L.base + off) vx.cells.toList).toArray ty fz) := by
    refine ⟨_, fz, rfl, ?_, hfz, hb, ?_⟩
    · rw [List.size_toArray, lput_length _ _ _ (by omega)]; simpa using hs
    · have e := lput_drop arr.toList L.base off vx.cells.toList (by omega)
      simpa [e] using hcr'
  have hor2 := hmk l' L arr fz vx.cells.toList hL hh (by omega) (fun vs hv => hput2 ρ vs _ hv hcv) hor
  have hhe : (w.setRow L.blk (lput arr.toList (L.base + off) vx.cells.toList).toArray).heap = w.heap.setIfInBounds L.blk (.cells (lput arr.toList (L.base + off) vx.cells.toList).toArray ty fz) := setRow_heap_eq w _ _ _ _ _ hh
  have hst := s.write (id := id) (L := L) (asC_wr ho) hL hor2 hhe rfl rfl rfl
  refine ⟨_, _, hk, hst.1, hst.2, ?_⟩
  simp only [storeAt, sureAddr, storeVar, Sem.run_bind, Sem.run_pure, Result.andThen_ok, run_size hi]
  have : ¬ (vx.cells.size ≠ i.size) := by
    rw [hin, ← hlen]; simp
  simp only [this, if_false]
  simpa using hrun
theorem opStore_sound {t : TypeId} {a x : V} {K : T O → Bool} {va vx : Value} (hk : opStore P t a x h K = true) (s : St ρ h nx w) (hva : VR ρ a va) (hvx : VR ρ x vx) :
    ∃ h' w', K h' = true ∧ St ρ h' nx w' ∧ Ext ρ h w ρ h' w' ∧ (storeAt t va vx).run P w = .ok () w' := by
  obtain ⟨id, off, rfl, hk⟩ := vP_spec hk
  rcases oW_spec hk with ⟨l, ty, wr, ho, hk1⟩ | ⟨l, ty, ho, hk1⟩
  · obtain ⟨hwr, hk2⟩ := ite1_spec hk1
    subst hwr
    exact storeAtK_sound hk2 s (by rw [ho]; rfl) hva hvx fun l' L arr fz ns _ _ _ _ h => h
  · refine storeAtK_sound hk1 s (by rw [ho]; rfl) hva hvx fun l' L arr fz ns hL hh hle hput h => ?_
    obtain ⟨o, h2, h3⟩ := s.rel id L (by rw [ho]; trivial) hL
    rw [ho] at h3
    obtain ⟨vs, rfl, h4, h5, h6⟩ := h3
    rw [hh] at h2
    simp only [Option.some.injEq, Obj.cells.injEq] at h2
    obtain ⟨rfl, _, rfl⟩ := h2
    rw [h5, Nat.zero_add] at hle ⊢
    refine ⟨lput vs off ns, rfl, ?_, h5, hput vs h6⟩
    rw [lput_length _ _ _ (by simpa using hle)]
    exact h4
end
end Go.Mx
namespace Go.Mx
open Instr
noncomputable section
variable {P : Program} {ρ : Ren} {h : T O} {nx : Nat} {w : World}
theorem map_ofNat_toNat (l : List UInt8) : (l.map UInt8.toNat).map UInt8.ofNat = l := by
  induction l with
  | nil => rfl
  | cons a l ih => simp [ih]
theorem bs_bytes (s : ByteArray) : bs (s.data.toList.map UInt8.toNat) = s := by
  unfold bs
  rw [map_ofNat_toNat]
theorem ofVal0_rel (ρ : Ren) (v : Value) : VR ρ (ofVal0 v) v := by
  unfold ofVal0
  split <;> simp [VR]
  · refine ⟨(bs_bytes _).symm, fun a _ => UInt8.toNat_lt a⟩
theorem ofList_rel (ρ : Ren) : ∀ l : List Value, VRs ρ (ofList l) l
  | [] => by simp [ofList, VRs]
  | v :: l => by simp only [ofList, VRs]; exact ⟨v, l, rfl, ofVal0_rel ρ v, ofList_rel ρ l⟩
theorem ofVal_rel (ρ : Ren) (v : Value) : VR ρ (ofVal v) v := by
  unfold ofVal
  split
  · rename_i cs
    simp only [VR]
    exact ⟨cs.toList, ofList_rel ρ _, rfl⟩
  · rename_i cs
    simp only [VR]
    exact ⟨cs.toList, ofList_rel ρ _, rfl⟩
  · exact ofVal0_rel ρ _
theorem zeroC_spec {t : TypeId} {c : V} (h : zeroC P t = some c) : ∃ v, (∀ w, (zeroValue t).run P w = .ok v w) ∧ ∀ ρ, VRs ρ c v.cells.toList := by
  unfold zeroC at h
  cases hi : P.info? t with
  | none => rw [hi] at h; simp at h
  | some i =>
    rw [hi] at h
    cases hz : i.zero with
    | none => simp [hz] at h
    | some v =>
      simp only [Option.bind_some, hz, Option.map_some, Option.some.injEq] at h
      refine ⟨v, fun w => by simp [zeroValue, run_info hi, hz], fun ρ => ?_⟩
      subst h
      split
      · simpa [Value.cells] using ofList_rel ρ _
      · rename_i x hx
        have : v.cells = #[v] := by cases v <;> first | rfl | exact (hx _ rfl).elim
        rw [this]
        simp only [VRs]
        exact ⟨_, _, rfl, ofVal0_rel ρ _, rfl⟩
theorem zeroV_spec {t : TypeId} {c : V} (h : zeroV P t = some c) : ∃ v, (∀ w, (zeroValue t).run P w = .ok v w) ∧ ∀ ρ, VR ρ c v := by
  unfold zeroV at h
  cases hi : P.info? t with
  | none => rw [hi] at h; simp at h
  | some i =>
    rw [hi] at h
    cases hz : i.zero with
    | none => simp [hz] at h
    | some v =>
      simp only [Option.bind_some, hz, Option.map_some, Option.some.injEq] at h
      exact ⟨v, fun w => by simp [zeroValue, run_info hi, hz], fun ρ => by rw [← h]; exact ofVal_rel ρ v⟩
theorem newK_sound {c : V} {ty : TypeId} {K : Nat → T O → Nat → Bool} {vs : List Value} (hk : newK c ty h nx K = true) (s : St ρ h nx w) (hc : CR ρ c vs) :
    ∃ h' w', K nx h' (nx + 1) = true ∧ w' = w.alloc (.cells ⟨vs⟩ ty) ∧ St (upd ρ nx ⟨w.heap.size, 0, vs.length⟩) h' (nx + 1) w' ∧ Ext ρ h w (upd ρ nx ⟨w.heap.size, 0, vs.length⟩) h' w' := by
  unfold newK at hk
  rw [stK_eq] at hk
  refine ⟨_, _, hk, rfl, ?_⟩
  exact s.alloc (o := .c c ty true) (ob := .cells ⟨vs⟩ ty) (n := vs.length)
    ⟨⟨vs⟩, (0, 0), rfl, by simp, by intro q _; simp, Nat.zero_le _, by simpa using hc.mono (upd_le (s.fresh nx (Nat.le_refl _)))⟩
theorem newV_sound {c : V} {ty : TypeId} {K : Nat → T O → Nat → Bool} {vs : List Value} (hk : newV c ty h nx K = true) (s : St ρ h nx w) (hc : VRs ρ c vs) :
    ∃ h' w', K nx h' (nx + 1) = true ∧ w' = w.alloc (.cells ⟨vs⟩ ty) ∧ St (upd ρ nx ⟨w.heap.size, 0, vs.length⟩) h' (nx + 1) w' ∧ Ext ρ h w (upd ρ nx ⟨w.heap.size, 0, vs.length⟩) h' w' := by
  unfold newV at hk
  rw [stK_eq] at hk
  refine ⟨_, _, hk, rfl, ?_⟩
  exact s.alloc (o := .v c ty) (ob := .cells ⟨vs⟩ ty) (n := vs.length)
    ⟨vs, rfl, rfl, rfl, hc.mono (upd_le (s.fresh nx (Nat.le_refl _)))⟩
theorem newVar_run (t : TypeId) (v : Value) (w : World) : (newVar t v).run P w = .ok ⟨w.heap.size, 0, none⟩ (w.alloc (.cells v.cells t)) := by
  simp [newVar, newRow]
theorem opAlloc_sound {t : TypeId} {K : KV} (hk : opAlloc P t h nx K = true) (s : St ρ h nx w) :
    ∃ ρ' x h' nx' v w', K x h' nx' = true ∧ VR ρ' x v ∧ St ρ' h' nx' w' ∧ Ext ρ h w ρ' h' w' ∧ (Instr.alloc t true (.tuple #[])).run P w = .ok v w' := by
  unfold opAlloc at hk
  cases hz : zeroC P t with
  | none => rw [hz] at hk; exact Bool.noConfusion hk
  | some c =>
    rw [hz] at hk
    obtain ⟨v, hv, hc⟩ := zeroC_spec hz
    obtain ⟨h', w', h1, rfl, h3, h4⟩ := newV_sound (K := fun id h' nx' => K (.p id 0) h' nx') hk s (hc ρ)
    refine ⟨_, _, _, _, .pointer (some ⟨w.heap.size, 0, none⟩), _, h1, ?_, h3, h4, ?_⟩
    · simp only [VR]; exact ⟨_, upd_same _ _ _, rfl⟩
    · simp [Instr.alloc, hv, newVar_run]
theorem opBox_sound {t : TypeId} {x : V} {vx : Value} {K : KV} (hk : opBox t x h nx K = true) (s : St ρ h nx w) (hx : VR ρ x vx) :
    ∃ ρ' y h' nx' v w', K y h' nx' = true ∧ VR ρ' y v ∧ St ρ' h' nx' w' ∧ Ext ρ h w ρ' h' w' ∧ (Instr.box t vx).run P w = .ok v w' := by
  obtain ⟨c, hk, hc⟩ := cellsK_spec hk
  obtain ⟨h', w', h1, rfl, h3, h4⟩ := newV_sound (K := fun id h' nx' => K (.p id 0) h' nx') hk s (hc ρ _ hx)
  refine ⟨_, _, _, _, .pointer (some ⟨w.heap.size, 0, none⟩), _, h1, ?_, h3, h4, ?_⟩
  · simp only [VR]; exact ⟨_, upd_same _ _ _, rfl⟩
  · simp [Instr.box, newVar_run]
theorem fdO_spec {t : TypeId} {f o : Nat} (h : fdO P t f = o + 1) : ∃ fs x, P.underlying t = some (.struct fs) ∧ fs[f]? = some x ∧ x.offset = o ∧ fdT P t f = x.type ∧ ∀ w, ∃ n, n ≠ 0 ∧ (sizeOf x.type).run P w = .ok n w := by
  unfold fdO at h
  split at h
  · rename_i fs hu
    split at h
    · rename_i x hx
      split at h
      · simp at h
      · rename_i hz
        refine ⟨fs, x, hu, hx, by simpa using h, by simp [fdT, hu, hx], fun w => ?_⟩
        obtain ⟨n, hn⟩ : ∃ n, szk P x.type = n + 1 + 1 := ⟨szk P x.type - 2, by omega⟩
        obtain ⟨i, hi, hin⟩ := szk_spec hn
        exact ⟨n + 1, by omega, by rw [run_size hi, hin]⟩
    · simp at h
  · simp at h
theorem opFieldAddr_sound {t : TypeId} {x : V} {f : Nat} {K : V → Bool} {v : Value} (hk : opFieldAddr P t x f K = true) (hv : VR ρ x v) :
    ∃ y r, K y = true ∧ VR ρ y r ∧ (fieldAt t v f).run P w = .ok r w := by
  obtain ⟨id, off, rfl, hk2⟩ := vP_spec hk
  clear hk
  have hk := hk2
  clear hk2
  generalize ho : fdO P t f = o at hk
  cases o with
  | zero => exact Bool.noConfusion hk
  | succ o =>
    obtain ⟨fs, fd, hu, hf, hoff, _, hs⟩ := fdO_spec ho
    simp only [VR] at hv
    obtain ⟨L, hL, rfl⟩ := hv
    obtain ⟨n, hn, hs⟩ := hs w
    refine ⟨_, .pointer (some ⟨L.blk, L.base + (off + o), none⟩), hk, ?_, ?_⟩
    · simp only [VR]; exact ⟨L, hL, rfl⟩
    · simp only [fieldAt, Sem.run_bind, run_und hu, Result.andThen_ok, hf, sureAddr, Sem.run_pure, fieldPlace, hs, hn, if_false, hoff]
      have : (⟨L.blk, L.base + off, none⟩ : Addr).add o = ⟨L.blk, L.base + (off + o), none⟩ := by
        unfold Addr.add
        split
        · rename_i h0; subst h0; rfl
        · simp [Nat.add_assoc]
      simp [this]
theorem part_spec {t : TypeId} {l : V} {off : Nat} {k : V → Bool} {vs : List Value} (hk : partK (ldk P t) l off k = true) (hl : VRs ρ l vs) :
    ∃ y r, k y = true ∧ VR ρ y r ∧ (part t ⟨vs⟩ off).run P w = .ok r w := by
  obtain ⟨y, hy, hp⟩ := partK_spec hk (VRs_isC hl)
  rcases hp with ⟨h1, hp⟩ | ⟨n, h1, hp⟩
  · obtain ⟨r, hr, hvr⟩ := hp ρ _ hl.CR'
    refine ⟨y, r, hy, hvr, ?_⟩
    simp only [part, Sem.run_bind, ldk_one h1, Result.andThen_ok, Bool.false_eq_true, if_false]
    have : (⟨vs⟩ : Array Value)[off]? = some r := by simpa using hr
    rw [this]; rfl
  · obtain ⟨h2, c, rfl, hvc⟩ := hp ρ _ hl.CR'
    obtain ⟨ha, hn⟩ := ldk_agg h1
    refine ⟨.a c, .agg ⟨(vs.drop off).take n⟩, hy, ⟨_, hvc, rfl⟩, ?_⟩
    simp only [part, Sem.run_bind, ha, Result.andThen_ok, if_true, hn, Sem.run_pure]
    congr 2
    apply Array.ext'
    simp [List.extract]
theorem opField_sound {t : TypeId} {x : V} {f : Nat} {K : V → Bool} {v : Value} (hk : opField P t x f K = true) (hv : VR ρ x v) :
    ∃ y r, K y = true ∧ VR ρ y r ∧ (Instr.field t v f).run P w = .ok r w := by
  obtain ⟨l, rfl, hk2⟩ := vA_spec hk
  clear hk
  have hk := hk2
  clear hk2
  generalize ho : fdO P t f = o at hk
  cases o with
  | zero => exact Bool.noConfusion hk
  | succ o =>
    obtain ⟨fs, fd, hu, hf, hoff, hft, _⟩ := fdO_spec ho
    simp only [VR] at hv
    obtain ⟨vs, hvs, rfl⟩ := hv
    rw [hft] at hk
    obtain ⟨y, r, h1, h2, h3⟩ := part_spec (w := w) (show partK (ldk P fd.type) l o K = true from hk) hvs
    refine ⟨y, r, h1, h2, ?_⟩
    simp only [Instr.field, Sem.run_bind, run_und hu, Result.andThen_ok, hf, asAgg, Sem.run_pure, hoff]
    exact h3
end
end Go.Mx
namespace Go.Mx
noncomputable section
variable {P : Program} {ρ : Ren} {h : T O} {nx : Nat} {w : World}
theorem forceN_eq (n : Nat) (k : Nat → Bool) : forceN n k = k n := by cases n <;> rfl
theorem forceI_eq (n : Int) (k : Int → Bool) : forceI n k = k n := by
  cases n with
  | ofNat m => exact forceN_eq m fun m => k (Int.ofNat m)
  | negSucc m => exact forceN_eq m fun m => k (Int.negSucc m)
theorem ieq_eq (a b : Int) : ieq a b = decide (a = b) := by
  cases a <;> cases b <;> simp [ieq]
  all_goals (rename_i a b; cases e : Nat.beq a b with
    | true => simp [Nat.eq_of_beq_eq_true e]
    | false => simp; intro e2; have e3 : a = b := by omega
               rw [e3, Nat.beq_refl] at e; cases e)
theorem blt_eq (a b : Nat) : Nat.blt a b = decide (a < b) := by
  cases e : Nat.blt a b with
  | true => simp [Nat.blt_eq.mp e]
  | false => simp; rcases Nat.lt_or_ge a b with h | h
             · rw [Nat.blt_eq.mpr h] at e; cases e
             · exact h
theorem ilt_eq (a b : Int) : ilt a b = decide (a < b) := by
  cases a <;> cases b <;> simp only [ilt]
  · rw [blt_eq]; simp
  · simp; omega
  · simp; omega
  · rw [blt_eq]; simp; omega
theorem inot_eq (b : Bool) : inot b = !b := by cases b <;> rfl
theorem ior_eq (a b : Bool) : ior a b = (a || b) := by cases a <;> rfl
theorem keq_eq {a b : IntKind} (h : keq a b = true) : a = b := by
  cases a <;> cases b <;> first | rfl | exact absurd h (by decide)
theorem wrap_small (k : IntKind) (n : Nat) (h : (n : Int) ≤ (match k with | .i8 => 127 | .i16 => 32767 | .i32 => 2147483647 | .i64 => 9223372036854775807 | .u8 => 255 | .u16 => 65535 | .u32 => 4294967295 | .u64 => 18446744073709551615 : Int)) : k.wrap n = n := by
  cases k <;> simp [IntKind.wrap, IntKind.bits, IntKind.signed] at h ⊢ <;> omega
theorem wrap_neg (n : Nat) (h : n ≤ 9223372036854775807) : IntKind.i64.wrap (Int.negSucc n) = Int.negSucc n := by
  have h1 : (IntKind.i64.bits) = 64 := rfl
  have h2 : IntKind.i64.signed = true := rfl
  unfold IntKind.wrap
  rw [h1, h2]
  simp only [Bool.true_and, decide_eq_true_eq]
  split <;> omega
theorem wrapK_eq {mx : Nat} {k : IntKind} (hm : ∀ n : Nat, n ≤ mx → k.wrap n = n) (n : Int) (c : Int → Bool) : wrapK mx k n c = c (k.wrap n) := by
  cases n with
  | ofNat m =>
    show (Bool.rec (c (k.wrap (Int.ofNat m))) (forceN m fun m => c (Int.ofNat m)) (Nat.ble m mx) : Bool) = c (k.wrap (Int.ofNat m))
    cases e : Nat.ble m mx with
    | false => rfl
    | true => rw [forceN_eq]; show c (Int.ofNat m) = _; rw [show k.wrap (Int.ofNat m) = Int.ofNat m from hm m (Nat.le_of_ble_eq_true e)]
  | negSucc m => rfl
theorem wrK_eq (k : IntKind) (n : Int) (c : Int → Bool) : wrK k n c = c (k.wrap n) := by
  cases k
  case i64 =>
    show wrap64K n c = _
    cases n with
    | ofNat m =>
      show (Bool.rec (c (IntKind.i64.wrap (Int.ofNat m))) (forceN m fun m => c (Int.ofNat m)) (Nat.ble m 9223372036854775807) : Bool) = _
      cases e : Nat.ble m 9223372036854775807 with
      | false => rfl
      | true => rw [forceN_eq]; show c (Int.ofNat m) = _; rw [show IntKind.i64.wrap (Int.ofNat m) = Int.ofNat m from wrap_small .i64 m (by have := Nat.le_of_ble_eq_true e; simp; omega)]
    | negSucc m =>
      show (Bool.rec (c (IntKind.i64.wrap (Int.negSucc m))) (forceN m fun m => c (Int.negSucc m)) (Nat.ble m 9223372036854775807) : Bool) = _
      cases e : Nat.ble m 9223372036854775807 with
      | false => rfl
      | true => rw [forceN_eq]; show c (Int.negSucc m) = _; rw [wrap_neg m (Nat.le_of_ble_eq_true e)]
  all_goals exact wrapK_eq (fun n hn => wrap_small _ n (by simp; omega)) n c
theorem seq_eq : ∀ a b : List Nat, seq a b = decide (a = b) := by
  intro a
  induction a with
  | nil => intro b; cases b <;> simp [seq]
  | cons x a ih =>
    intro b
    cases b with
    | nil => simp [seq]
    | cons y b =>
      show (Bool.rec false (seq a b) (Nat.beq x y) : Bool) = _
      cases e : Nat.beq x y with
      | true => have := Nat.eq_of_beq_eq_true e; subst this; simp [ih]
      | false =>
        have hne : x ≠ y := fun e2 => by rw [e2, Nat.beq_refl] at e; cases e
        simp [hne]
theorem bs_toList (l : List Nat) : (bs l).toList = l.map UInt8.ofNat := by
  unfold bs; exact ByteArray.toList_mk _
theorem bs_size (l : List Nat) : (bs l).size = l.length := by simp [bs, ByteArray.size]
theorem map_inj {a b : List Nat} (ha : ∀ n ∈ a, n < 256) (hb : ∀ n ∈ b, n < 256) (h : a.map UInt8.ofNat = b.map UInt8.ofNat) : a = b := by
  have key : ∀ l : List Nat, (∀ n ∈ l, n < 256) → (l.map UInt8.ofNat).map UInt8.toNat = l := by
    intro l hl
    rw [List.map_map]
    conv => rhs; rw [← List.map_id l]
    apply List.map_congr_left
    intro n hn
    simp [UInt8.toNat_ofNat', Nat.mod_eq_of_lt (hl n hn)]
  rw [← key a ha, ← key b hb, h]
theorem bs_eq_beq {a b : List Nat} (ha : ∀ n ∈ a, n < 256) (hb : ∀ n ∈ b, n < 256) : ((bs a).toList == (bs b).toList) = seq a b := by
  rw [seq_eq, bs_toList, bs_toList]
  rw [Bool.eq_iff_iff]
  simp only [beq_iff_eq, decide_eq_true_eq]
  exact ⟨map_inj ha hb, fun e => by rw [e]⟩
theorem slt_eq : ∀ {a b : List Nat}, (∀ n ∈ a, n < 256) → (∀ n ∈ b, n < 256) → Op.bytesLess (a.map UInt8.ofNat) (b.map UInt8.ofNat) = slt a b := by
  intro a
  induction a with
  | nil => intro b _ _; cases b <;> rfl
  | cons x a ih =>
    intro b ha hb
    cases b with
    | nil => rfl
    | cons y b =>
      have hx := ha x (by simp)
      have hy := hb y (by simp)
      show (UInt8.ofNat x < UInt8.ofNat y || (UInt8.ofNat x == UInt8.ofNat y && Op.bytesLess (a.map UInt8.ofNat) (b.map UInt8.ofNat))) = (Bool.rec (Bool.rec false (slt a b) (Nat.beq x y)) true (Nat.blt x y) : Bool)
      rw [ih (fun n hn => ha n (by simp [hn])) (fun n hn => hb n (by simp [hn])), blt_eq]
      have e1 : (decide (UInt8.ofNat x < UInt8.ofNat y)) = decide (x < y) := by
        rw [Bool.eq_iff_iff]; simp [UInt8.lt_iff_toNat_lt, UInt8.toNat_ofNat', Nat.mod_eq_of_lt hx, Nat.mod_eq_of_lt hy]
      have e2 : (UInt8.ofNat x == UInt8.ofNat y) = Nat.beq x y := by
        rw [Bool.eq_iff_iff]
        constructor
        · intro e
          have := congrArg UInt8.toNat (eq_of_beq e)
          simp [UInt8.toNat_ofNat', Nat.mod_eq_of_lt hx, Nat.mod_eq_of_lt hy] at this
          exact nbeq_true this
        · intro e; rw [Nat.eq_of_beq_eq_true e]; simp
      rw [e1, e2]
      by_cases hlt : x < y
      · simp [hlt]
      · simp [hlt]; cases Nat.beq x y <;> simp
theorem scatK_eq (b : List Nat) : ∀ (a : List Nat) (k : List Nat → Bool), scatK a b k = k (a ++ b) := by
  intro a
  induction a with
  | nil => intro k; rfl
  | cons x a ih => intro k; exact ih _
theorem slenK_eq : ∀ (l : List Nat) (n : Nat) (k : Nat → Bool), slenK l n k = k (n + l.length) := by
  intro l
  induction l with
  | nil => intro n k; rfl
  | cons x l ih => intro n k; rw [show slenK (x :: l) n k = slenK l (n + 1) k from rfl, ih]; congr 1; simp; omega
theorem sdropK_spec {k : List Nat → Bool} : ∀ {l : List Nat} {j : Nat}, sdropK l j k = true → j ≤ l.length ∧ k (l.drop j) = true := by
  intro l
  induction l with
  | nil => intro j h; cases j with
    | zero => exact ⟨Nat.zero_le _, h⟩
    | succ j => exact Bool.noConfusion h
  | cons x l ih => intro j h; cases j with
    | zero => exact ⟨Nat.zero_le _, h⟩
    | succ j => have := ih (j := j) h; exact ⟨by simp; omega, by simpa using this.2⟩
theorem stakeK_spec : ∀ {l : List Nat} {j : Nat} {k : List Nat → Bool}, stakeK l j k = true → j ≤ l.length ∧ k (l.take j) = true := by
  intro l
  induction l with
  | nil => intro j k h; cases j with
    | zero => exact ⟨Nat.zero_le _, h⟩
    | succ j => exact Bool.noConfusion h
  | cons x l ih => intro j k h; cases j with
    | zero => exact ⟨Nat.zero_le _, h⟩
    | succ j => have := ih (j := j) (k := fun c => k (x :: c)) h; exact ⟨by simp; omega, by simpa using this.2⟩
theorem snthK_spec {k : Nat → Bool} : ∀ {l : List Nat} {j : Nat}, snthK l j k = true → ∃ x, l[j]? = some x ∧ k x = true := by
  intro l
  induction l with
  | nil => intro j h; exact Bool.noConfusion h
  | cons x l ih => intro j h; cases j with
    | zero => exact ⟨x, rfl, h⟩
    | succ j => exact ih (j := j) h
theorem bs_append (a b : List Nat) : bs a ++ bs b = bs (a ++ b) := by
  apply ByteArray.ext
  simp [bs, ByteArray.data_append]
theorem bs_extract (l : List Nat) (a b : Nat) : (bs l).extract a b = bs ((l.drop a).take (b - a)) := by
  unfold bs
  rw [ByteArray.extract_mk]
  simp [List.map_drop, List.map_take]
theorem bs_get (l : List Nat) (j x : Nat) (h : l[j]? = some x) : (bs l)[j]? = some (UInt8.ofNat x) := by
  have hj : j < l.length := (List.getElem?_eq_some_iff.1 h).1
  rw [ByteArray.getElem?_lt' _ _ (by rw [bs_size]; exact hj)]
  have hx := (List.getElem?_eq_some_iff.1 h).2
  simp [bs, ByteArray.getElem_eq_getElem_data, hx]
end
end Go.Mx
namespace Go.Mx
noncomputable section
variable {P : Program} {ρ : Ren} {h : T O} {nx : Nat} {w : World}
theorem VRi (ρ : Ren) (k : IntKind) (n : Int) : VR ρ (.i k n) (.int k n) := by simp only [VR]
theorem VRb (ρ : Ren) (x : Bool) : VR ρ (.b x) (.bool x) := by simp only [VR]
theorem VRst (ρ : Ren) {l : List Nat} (h : ∀ n ∈ l, n < 256) : VR ρ (.s l) (.string (bs l)) := by simp only [VR]; simpa using h
theorem chbK_spec : ∀ {l : List Nat} {k : V → Bool}, chbK l k = true → ∃ c, k c = true ∧ ∀ ρ, VRs ρ c (l.map fun b : Nat => Value.int .u8 (b : Int)) := by
  intro l
  induction l with
  | nil => intro k hk; exact ⟨.nil, hk, fun ρ => by simp [VRs]⟩
  | cons x l ih =>
    intro k hk
    obtain ⟨c, h1, h2⟩ := ih (k := fun c => k (.cons (.i .u8 (Int.ofNat x)) c)) hk
    exact ⟨_, h1, fun ρ => by simp only [List.map_cons, VRs]; exact ⟨_, _, rfl, VRi _ _ _, h2 ρ⟩⟩
theorem bchK_spec {c : V} : ∀ {k : List Nat → Bool}, bchK c k = true → isC c → ∃ l, k l = true ∧ (∀ n ∈ l, n < 256) ∧ ∀ ρ vs, VRs ρ c vs → vs = l.map fun b : Nat => Value.int .u8 (b : Int) := by
  induction c with
  | nil => intro k hk _; exact ⟨[], hk, by simp, fun ρ vs hv => by simp only [VRs] at hv; subst hv; rfl⟩
  | cons x c _ ih =>
    intro k hk hc
    obtain ⟨kd, n, rfl, hk2⟩ := vI_spec (show vI x _ = true from hk)
    cases kd <;> first | exact Bool.noConfusion hk2 | skip
    cases n with
    | negSucc n => exact Bool.noConfusion hk2
    | ofNat m =>
      have hk3 : (Bool.rec false (bchK c fun l => k (m :: l)) (Nat.ble m 255) : Bool) = true := hk2
      cases e : Nat.ble m 255 with
      | false => rw [e] at hk3; exact Bool.noConfusion hk3
      | true =>
        rw [e] at hk3
        obtain ⟨l, h1, h2, h3⟩ := ih (k := fun l => k (m :: l)) hk3 hc
        have hm := Nat.le_of_ble_eq_true e
        refine ⟨m :: l, h1, ?_, fun ρ vs hv => ?_⟩
        · intro n hn
          rcases List.mem_cons.1 hn with rfl | hn
          · omega
          · exact h2 n hn
        · simp only [VRs, VR] at hv
          obtain ⟨y, ys, rfl, rfl, hv⟩ := hv
          rw [h3 ρ ys hv]
          rfl
  | _ => intro k hk hc; exact absurd hc (by simp [isC])
theorem bytesV_length (b : ByteArray) : (bytesV b).length = b.size := by simp [bytesV]
theorem bytesV_bs {l : List Nat} (hl : ∀ n ∈ l, n < 256) : bytesV (bs l) = l.map fun b : Nat => Value.int .u8 (b : Int) := by
  simp only [bytesV, bs, List.map_map]
  apply List.map_congr_left
  intro n hn
  simp [byteV, UInt8.toNat_ofNat', Nat.mod_eq_of_lt (hl n hn)]
theorem bytesV_append (a b : ByteArray) : bytesV (a ++ b) = bytesV a ++ bytesV b := by simp [bytesV, ByteArray.data_append]
theorem bytesV_extract (b : ByteArray) (i j : Nat) : bytesV (b.extract i j) = ((bytesV b).drop i).take (j - i) := by
  simp [bytesV, ByteArray.data_extract, List.map_drop, List.map_take, List.extract]
theorem byteV_inj {a b : UInt8} (h : byteV a = byteV b) : a = b := by
  simp only [byteV, Value.int.injEq, true_and] at h
  exact UInt8.toNat_inj.mp (by omega)
theorem mapByte_inj : ∀ {a b : List UInt8}, a.map byteV = b.map byteV → a = b
  | [], [], _ => rfl
  | [], _ :: _, h => by cases h
  | _ :: _, [], h => by cases h
  | x :: a, y :: b, h => by
    simp only [List.map_cons, List.cons.injEq] at h
    rw [byteV_inj h.1, mapByte_inj h.2]
theorem ba_ext {x y : ByteArray} : x.data.toList = y.data.toList ↔ x = y :=
  ⟨fun e => ByteArray.ext (Array.ext' e), fun e => by rw [e]⟩
theorem bytesV_inj {x y : ByteArray} (h : bytesV x = bytesV y) : x = y := ba_ext.1 (mapByte_inj h)
theorem seq_dec {a b : List Nat} (ha : ∀ n ∈ a, n < 256) (hb : ∀ n ∈ b, n < 256) : seq a b = decide (bs a = bs b) := by
  rw [seq_eq]
  refine decide_eq_decide.2 ⟨fun e => by rw [e], fun e => ?_⟩
  have := congrArg ByteArray.toList e
  rw [bs_toList, bs_toList] at this
  exact map_inj ha hb this
theorem ite1_both (c k : Bool) : ite1 c k = (c && k) := by cases c <;> rfl
def InR (ρ : Ren) (lo hi i n : Nat) : Prop := lo ≤ n ∧ n ≤ hi ∧ (i ≠ 0 → ∃ L, ρ (i - 1) = some L ∧ n = L.base)
theorem InR.lit (ρ : Ren) (n : Nat) : InR ρ n n 0 n := ⟨Nat.le_refl _, Nat.le_refl _, fun h => (h rfl).elim⟩
theorem InR.same {l1 h1 l2 h2 i n1 n2 : Nat} (h : i ≠ 0) (a : InR ρ l1 h1 i n1) (b : InR ρ l2 h2 i n2) : n1 = n2 := by
  obtain ⟨L, e1, e2⟩ := a.2.2 h
  obtain ⟨M, e3, e4⟩ := b.2.2 h
  rw [e1] at e3
  cases e3
  rw [e2, e4]
theorem VR_x {a : Nat} {k : IntKind} {lo hi : Nat} {v : Value} (hv : VR ρ (.x a k lo hi) v) : ∃ n : Nat, v = .int k (n : Int) ∧ InR ρ lo hi (Nat.succ a) n := by
  simp only [VR] at hv
  obtain ⟨L, h1, h2, h3, rfl⟩ := hv
  exact ⟨L.base, rfl, h2, h3, fun _ => ⟨L, by simpa using h1, rfl⟩⟩
theorem rngK_spec {v : V} {k : IntKind → Nat → Nat → Nat → Bool} (hk : rngK v k = true) : ∃ kd lo hi i, k kd lo hi i = true ∧ ∀ ρ x, VR ρ v x → ∃ n : Nat, x = .int kd (n : Int) ∧ InR ρ lo hi i n := by
  cases v <;> first | exact Bool.noConfusion hk | skip
  case i kd n =>
    cases n with
    | negSucc n => exact Bool.noConfusion hk
    | ofNat n =>
      refine ⟨kd, n, n, 0, hk, fun ρ x hx => ?_⟩
      simp only [VR] at hx
      exact ⟨n, hx, InR.lit ρ n⟩
  case x a kd lo hi => exact ⟨kd, lo, hi, Nat.succ a, hk, fun ρ x hx => VR_x hx⟩
theorem same3_spec {l1 h1 i1 l2 h2 i2 n1 n2 : Nat} (hs : same3 l1 h1 i1 l2 h2 i2 = true) (a : InR ρ l1 h1 i1 n1) (b : InR ρ l2 h2 i2 n2) : n1 = n2 := by
  unfold same3 at hs
  rw [ior_eq, ite1_both, ite1_both, ite1_both, Bool.or_eq_true] at hs
  rcases hs with hs | hs
  · rw [Bool.and_eq_true] at hs
    have e := Nat.eq_of_beq_eq_true hs.2
    subst e
    exact InR.same (by have := Nat.blt_eq.mp hs.1; omega) a b
  · rw [Bool.and_eq_true, Bool.and_eq_true] at hs
    obtain ⟨e1, e2, e3⟩ := hs
    have e1 := Nat.eq_of_beq_eq_true e1
    have e2 := Nat.eq_of_beq_eq_true e2
    have e3 := Nat.eq_of_beq_eq_true e3
    have := a.1; have := a.2.1; have := b.1; have := b.2.1
    omega
theorem tri_spec {l1 h1 i1 l2 h2 i2 n1 n2 : Nat} {kn ks ku : Bool} (hk : tri l1 h1 i1 l2 h2 i2 kn ks ku = true) (a : InR ρ l1 h1 i1 n1) (b : InR ρ l2 h2 i2 n2) : (n1 ≠ n2 ∧ kn = true) ∨ (n1 = n2 ∧ ks = true) ∨ ku = true := by
  unfold tri at hk
  cases hs : same3 l1 h1 i1 l2 h2 i2 with
  | true => rw [hs] at hk; exact .inr (.inl ⟨same3_spec hs a b, hk⟩)
  | false =>
    rw [hs] at hk
    cases hd : disj l1 h1 l2 h2 with
    | false => rw [hd] at hk; exact .inr (.inr hk)
    | true =>
      rw [hd] at hk
      refine .inl ⟨?_, hk⟩
      unfold disj at hd
      rw [ior_eq, Bool.or_eq_true] at hd
      have := a.1; have := a.2.1; have := b.1; have := b.2.1
      rcases hd with hd | hd <;> (have := Nat.blt_eq.mp hd; omega)
theorem xeqK_spec {l1 h1 i1 l2 h2 i2 n1 n2 : Nat} {k : Bool → Bool} (hk : xeqK l1 h1 i1 l2 h2 i2 k = true) (a : InR ρ l1 h1 i1 n1) (b : InR ρ l2 h2 i2 n2) : k (decide (n1 = n2)) = true := by
  rcases tri_spec hk a b with ⟨h, g⟩ | ⟨h, g⟩ | g
  · rw [decide_eq_false h]; exact g
  · rw [decide_eq_true h]; exact g
  · cases g
theorem xltK_spec {l1 h1 i1 l2 h2 i2 n1 n2 : Nat} {k : Bool → Bool} (hk : xltK l1 h1 i1 l2 h2 i2 k = true) (a : InR ρ l1 h1 i1 n1) (b : InR ρ l2 h2 i2 n2) : k (decide (n1 < n2)) = true := by
  unfold xltK at hk
  have q1 := a.1; have q2 := a.2.1; have q3 := b.1; have q4 := b.2.1
  cases hs : same3 l1 h1 i1 l2 h2 i2 with
  | true =>
    rw [hs] at hk
    have := same3_spec hs a b
    rw [decide_eq_false (by omega)]; exact hk
  | false =>
    rw [hs] at hk
    cases hd : Nat.blt h1 l2 with
    | true =>
      rw [hd] at hk
      have := Nat.blt_eq.mp hd
      rw [decide_eq_true (by omega)]; exact hk
    | false =>
      rw [hd] at hk
      cases he : Nat.ble h2 l1 with
      | false => rw [he] at hk; exact Bool.noConfusion hk
      | true =>
        rw [he] at hk
        have := Nat.le_of_ble_eq_true he
        rw [decide_eq_false (by omega)]; exact hk
theorem weqK_spec : ∀ {la lb : V} {k : Bool → Bool}, weqK la lb k = true → ∀ {ρ : Ren} {xs ys : List UInt8}, VRs ρ la (xs.map byteV) → VRs ρ lb (ys.map byteV) → k (decide (xs = ys)) = true := by
  intro la
  induction la with
  | nil =>
    intro lb k hk ρ xs ys hx hy
    simp only [VRs, List.map_eq_nil_iff] at hx
    subst hx
    cases lb <;> first | (simp only [VRs] at hy; done) | skip
    case nil =>
      simp only [VRs, List.map_eq_nil_iff] at hy
      subst hy
      exact hk
    case cons y m =>
      simp only [VRs] at hy
      obtain ⟨z, zs, e, _, _⟩ := hy
      cases ys with
      | nil => cases e
      | cons d ds => exact hk
  | cons x l _ ih =>
    intro lb k hk ρ xs ys hx hy
    simp only [VRs] at hx
    obtain ⟨v, vs, e, h1, h2⟩ := hx
    cases xs with
    | nil => cases e
    | cons c cs =>
      simp only [List.map_cons, List.cons.injEq] at e
      obtain ⟨rfl, rfl⟩ := e
      cases lb <;> first | (simp only [VRs] at hy; done) | skip
      case nil =>
        simp only [VRs, List.map_eq_nil_iff] at hy
        subst hy
        exact hk
      case cons y m =>
        simp only [VRs] at hy
        obtain ⟨z, zs, e, g1, g2⟩ := hy
        cases ys with
        | nil => cases e
        | cons d ds =>
          simp only [List.map_cons, List.cons.injEq] at e
          obtain ⟨rfl, rfl⟩ := e
          obtain ⟨kd, l1, h1', i1, hk2, hr1⟩ := rngK_spec (v := x) (show (rngK x fun _ l1 h1 i1 => rngK y fun _ l2 h2 i2 => tri l1 h1 i1 l2 h2 i2 (k false) (weqK l m k) (weqK l m fun b => Bool.rec (k false) false b)) = true from hk)
          obtain ⟨kd2, l2, h2', i2, hk3, hr2⟩ := rngK_spec (v := y) hk2
          obtain ⟨n1, e1, b1⟩ := hr1 ρ _ h1
          obtain ⟨n2, e2, b2⟩ := hr2 ρ _ g1
          simp only [byteV, Value.int.injEq] at e1 e2
          have e1' : c.toNat = n1 := by omega
          have e2' : d.toNat = n2 := by omega
          rcases tri_spec hk3 b1 b2 with ⟨hne, g⟩ | ⟨he, g⟩ | g
          · have : c :: cs ≠ d :: ds := fun e => by cases e; omega
            rw [decide_eq_false this]; exact g
          · have hcd : c = d := UInt8.toNat_inj.mp (by omega)
            subst hcd
            have := ih g h2 g2
            simpa using this
          · have := ih g h2 g2
            by_cases hcd : cs = ds
            · rw [decide_eq_true hcd] at this; exact Bool.noConfusion this
            · rw [decide_eq_false hcd] at this
              have h3 : c :: cs ≠ d :: ds := fun e => by cases e; exact hcd rfl
              rw [decide_eq_false h3]; exact this
  | _ => intro lb k hk ρ xs ys hx; simp only [VRs] at hx
theorem isB8_spec {x : V} {v : Value} (hk : isB8 x = true) (hx : VR ρ x v) : ∃ c : UInt8, v = byteV c := by
  cases x <;> first | exact Bool.noConfusion hk | skip
  case i kd n =>
    obtain ⟨e, hk2⟩ := ite1_spec hk
    have e := keq_eq e
    subst e
    cases n with
    | negSucc n => exact Bool.noConfusion hk2
    | ofNat n =>
      have := Nat.le_of_ble_eq_true hk2
      simp only [VR] at hx
      refine ⟨UInt8.ofNat n, ?_⟩
      rw [hx]
      simp [byteV, UInt8.toNat_ofNat', Nat.mod_eq_of_lt (show n < 256 by omega)]
  case x a kd lo hi =>
    obtain ⟨e, hk2⟩ := ite1_spec hk
    have e := keq_eq e
    subst e
    have := Nat.le_of_ble_eq_true hk2
    obtain ⟨n, rfl, q1, q2, _⟩ := VR_x hx
    refine ⟨UInt8.ofNat n, ?_⟩
    simp [byteV, UInt8.toNat_ofNat', Nat.mod_eq_of_lt (show n < 256 by omega)]
theorem wOk_spec : ∀ {c : V} {vs : List Value}, wOk c = true → VRs ρ c vs → ∃ b : List UInt8, vs = b.map byteV := by
  intro c
  induction c with
  | nil => intro vs _ hv; simp only [VRs] at hv; subst hv; exact ⟨[], rfl⟩
  | cons x l _ ih =>
    intro vs hk hv
    simp only [VRs] at hv
    obtain ⟨y, ys, rfl, h1, h2⟩ := hv
    have hk' : (Bool.rec false (wOk l) (isB8 x) : Bool) = true := hk
    cases e : isB8 x with
    | false => rw [e] at hk'; exact Bool.noConfusion hk'
    | true =>
      rw [e] at hk'
      obtain ⟨c, rfl⟩ := isB8_spec e h1
      obtain ⟨b, rfl⟩ := ih hk' h2
      exact ⟨c :: b, rfl⟩
  | _ => intro vs _ hv; simp only [VRs] at hv
theorem strK_spec {c : V} {K : V → Bool} (hk : strK c K = true) (hc : isC c) : ∃ y, K y = true ∧ ∀ ρ vs, VRs ρ c vs → ∃ b : ByteArray, vs = bytesV b ∧ VR ρ y (.string b) := by
  unfold strK at hk
  cases e : allI c with
  | true =>
    rw [e] at hk
    obtain ⟨l, h1, h2, h3⟩ := bchK_spec (show bchK c (fun t => K (.s t)) = true from hk) hc
    exact ⟨_, h1, fun ρ vs hv => ⟨bs l, by rw [h3 ρ vs hv, bytesV_bs h2], VRst ρ h2⟩⟩
  | false =>
    rw [e] at hk
    obtain ⟨e2, hk2⟩ := ite1_spec (show ite1 (wOk c) (K (.w c)) = true from hk)
    refine ⟨_, hk2, fun ρ vs hv => ?_⟩
    obtain ⟨b, rfl⟩ := wOk_spec e2 hv
    exact ⟨⟨⟨b⟩⟩, rfl, by simp only [VR]; exact ⟨_, rfl, hv⟩⟩
theorem strK_nat {c : V} {K : V → Bool} (hk : strK c K = true) (hc : isC c) : ∃ y, K y = true ∧ ∀ ρ vs, VRs ρ c vs → ∃ l : List Nat, vs = (l.map fun b : Nat => Value.int .u8 (b : Int)) ∧ (∀ n ∈ l, n < 256) ∧ VR ρ y (.string (bs l)) := by
  obtain ⟨y, h1, h2⟩ := strK_spec hk hc
  refine ⟨y, h1, fun ρ vs hv => ?_⟩
  obtain ⟨b, rfl, hb⟩ := h2 ρ vs hv
  refine ⟨b.data.toList.map UInt8.toNat, ?_, ?_, by rw [bs_bytes]; exact hb⟩
  · simp [bytesV, byteV]
  · intro n hn
    obtain ⟨c, _, rfl⟩ := List.mem_map.1 hn
    exact UInt8.toNat_lt c
theorem chbK_bytes {l : List Nat} {k : V → Bool} (hk : chbK l k = true) (hl : ∀ n ∈ l, n < 256) : ∃ c, k c = true ∧ ∀ ρ, VRs ρ c (bytesV (bs l)) := by
  obtain ⟨c, h1, h2⟩ := chbK_spec hk
  exact ⟨c, h1, fun ρ => by rw [bytesV_bs hl]; exact h2 ρ⟩
theorem seqV_spec {a b : V} {k : Bool → Bool} (hk : seqV a b k = true) {vx vy : Value} (hx : VR ρ a vx) (hy : VR ρ b vy) : ∃ x y : ByteArray, vx = .string x ∧ vy = .string y ∧ k (decide (x = y)) = true := by
  have fin : ∀ {x y : ByteArray}, k (decide (x.data.toList = y.data.toList)) = true → k (decide (x = y)) = true := fun {x y} h => by
    rwa [decide_eq_decide.2 (ba_ext (x := x) (y := y))] at h
  cases a <;> first | exact Bool.noConfusion hk | skip
  case s l =>
    simp only [VR] at hx
    obtain ⟨rfl, hl⟩ := hx
    cases b <;> first | exact Bool.noConfusion hk | skip
    case s l' =>
      simp only [VR] at hy
      obtain ⟨rfl, hl'⟩ := hy
      have hk2 : k (seq l l') = true := hk
      rw [seq_dec hl hl'] at hk2
      exact ⟨_, _, rfl, rfl, hk2⟩
    case w l' =>
      simp only [VR] at hy
      obtain ⟨y, rfl, hy⟩ := hy
      obtain ⟨c, hk2, hc⟩ := chbK_bytes (show chbK l (fun c => weqK c l' k) = true from hk) hl
      exact ⟨_, _, rfl, rfl, fin (weqK_spec hk2 (hc ρ) hy)⟩
  case w l =>
    simp only [VR] at hx
    obtain ⟨x, rfl, hx⟩ := hx
    cases b <;> first | exact Bool.noConfusion hk | skip
    case s l' =>
      simp only [VR] at hy
      obtain ⟨rfl, hl'⟩ := hy
      obtain ⟨c, hk2, hc⟩ := chbK_bytes (show chbK l' (fun c => weqK l c k) = true from hk) hl'
      exact ⟨_, _, rfl, rfl, fin (weqK_spec hk2 hx (hc ρ))⟩
    case w l' =>
      simp only [VR] at hy
      obtain ⟨y, rfl, hy⟩ := hy
      exact ⟨_, _, rfl, rfl, fin (weqK_spec (show weqK l l' k = true from hk) hx hy)⟩
theorem binR_sound {op : BinOp} {kd : IntKind} {t : TypeId} {l1 h1 i1 l2 h2 i2 n1 n2 : Nat} {K : V → Bool} (hk : binR op l1 h1 i1 l2 h2 i2 K = true) (a : InR ρ l1 h1 i1 n1) (b : InR ρ l2 h2 i2 n2) :
    ∃ c r, K c = true ∧ VR ρ c r ∧ (binOp op t (.int kd (n1 : Int)) (.int kd (n2 : Int))).run P w = .ok r w := by
  have d1 : decide ((n1 : Int) = (n2 : Int)) = decide (n1 = n2) := decide_eq_decide.2 (by omega)
  have d2 : decide ((n1 : Int) < (n2 : Int)) = decide (n1 < n2) := decide_eq_decide.2 (by omega)
  have d3 : decide ((n2 : Int) < (n1 : Int)) = decide (n2 < n1) := decide_eq_decide.2 (by omega)
  cases op <;> first | exact Bool.noConfusion hk | skip
  case eql => have e := xeqK_spec (show xeqK l1 h1 i1 l2 h2 i2 (fun b => K (.b b)) = true from hk) a b
              rw [← d1] at e; exact ⟨_, _, e, VRb _ _, by simp [binOp, Op.intCmp] <;> rfl⟩
  case neq => have e := xeqK_spec (show xeqK l1 h1 i1 l2 h2 i2 (fun b => K (.b (inot b))) = true from hk) a b
              rw [inot_eq, ← d1] at e; exact ⟨_, _, e, VRb _ _, by simp [binOp, Op.intCmp] <;> rfl⟩
  case lss => have e := xltK_spec (show xltK l1 h1 i1 l2 h2 i2 (fun b => K (.b b)) = true from hk) a b
              rw [← d2] at e; exact ⟨_, _, e, VRb _ _, by simp [binOp, Op.intCmp]⟩
  case leq => have e := xltK_spec (show xltK l2 h2 i2 l1 h1 i1 (fun b => K (.b (inot b))) = true from hk) b a
              rw [inot_eq, ← d3] at e; exact ⟨_, _, e, VRb _ _, by simp [binOp, Op.intCmp]; rw [Bool.eq_iff_iff]; simp⟩
  case gtr => have e := xltK_spec (show xltK l2 h2 i2 l1 h1 i1 (fun b => K (.b b)) = true from hk) b a
              rw [← d3] at e; exact ⟨_, _, e, VRb _ _, by simp [binOp, Op.intCmp]⟩
  case geq => have e := xltK_spec (show xltK l1 h1 i1 l2 h2 i2 (fun b => K (.b (inot b))) = true from hk) a b
              rw [inot_eq, ← d2] at e; exact ⟨_, _, e, VRb _ _, by simp [binOp, Op.intCmp]; rw [Bool.eq_iff_iff]; simp⟩
theorem binE_str {op : BinOp} {r : Bool} {t : TypeId} {x y : ByteArray} {K : V → Bool} (hk : binE op r K = true) (he : (x.toList == y.toList) = r) :
    ∃ c q, K c = true ∧ VR ρ c q ∧ (binOp op t (.string x) (.string y)).run P w = .ok q w := by
  cases op <;> first | exact Bool.noConfusion hk | skip
  case eql => have e : K (.b r) = true := hk
              exact ⟨_, _, e, VRb _ _, by simp [binOp, Op.stringOp, he]⟩
  case neq => have e : K (.b (inot r)) = true := hk
              rw [inot_eq] at e; exact ⟨_, _, e, VRb _ _, by simp [binOp, Op.stringOp, he]⟩
theorem ne_empty {b : ByteArray} (h : 0 < b.size) : ((bs []).toList == b.toList) = false ∧ (b.toList == (bs []).toList) = false := by
  have h2 : b.toList ≠ [] := by
    rw [ByteArray.toList_eq]
    intro e
    have := congrArg List.length e
    have h3 : b.size = b.data.size := rfl
    simp at this
    rw [h3, this] at h
    simp at h
  rw [bs_toList]
  constructor
  · simpa using h2
  · simpa using h2
theorem binW_sound {op : BinOp} {a b : V} {x y : ByteArray} {t : TypeId} {K : V → Bool} (hk : binW op a b K = true) (ha : VRs ρ a (bytesV x)) (hb : VRs ρ b (bytesV y)) :
    ∃ c r, K c = true ∧ VR ρ c r ∧ (binOp op t (.string x) (.string y)).run P w = .ok r w := by
  have heq : ∀ {k : Bool → Bool}, weqK a b k = true → k (x.toList == y.toList) = true := fun {k} h => by
    have := weqK_spec h ha hb
    rw [ByteArray.toList_eq, ByteArray.toList_eq]
    have e : (x.data.toList == y.data.toList) = decide (x.data.toList = y.data.toList) := by rw [Bool.eq_iff_iff]; simp
    rw [e]; exact this
  cases op <;> first | exact Bool.noConfusion hk | skip
  case add =>
    obtain ⟨n, hk2, hn, _⟩ := lenK_spec (show lenK a 0 (fun n => lenK b n fun m => ite1 (Nat.ble m 9223372036854775807) <| catK a b fun c => strK c K) = true from hk) (VRs_isC ha)
    rw [Nat.zero_add] at hk2
    obtain ⟨m, hk2b, hm, _⟩ := lenK_spec hk2 (VRs_isC hb)
    obtain ⟨hle, hk3⟩ := ite1_spec hk2b
    have hle := Nat.le_of_ble_eq_true hle
    obtain ⟨c, hk4, hic, hcat, _⟩ := catK_spec hk3 (VRs_isC ha)
    have hcc := hcat ρ _ _ ha hb
    obtain ⟨z, hk5, hz⟩ := strK_spec hk4 (hic (VRs_isC hb))
    obtain ⟨q, hq1, hq2⟩ := hz ρ _ hcc
    rw [← bytesV_append] at hq1
    have hq : x ++ y = q := bytesV_inj hq1
    subst hq
    refine ⟨_, _, hk5, hq2, ?_⟩
    have hns : x.size = n := by rw [← hn ρ _ ha, bytesV_length]
    have hms : y.size = m := by rw [← hm ρ _ hb, bytesV_length]
    have : ¬ ((x.size + y.size : Nat) : Int) > IntKind.i64.max := by rw [IntKind.max_i64]; omega
    simp only [binOp, Op.stringOp, this, if_false, Sem.run_pure]
  case eql => have e := heq (show weqK a b (fun r => K (.b r)) = true from hk)
              exact ⟨_, _, e, VRb _ _, by simp [binOp, Op.stringOp]⟩
  case neq => have e := heq (show weqK a b (fun r => K (.b (inot r))) = true from hk)
              rw [inot_eq] at e; exact ⟨_, _, e, VRb _ _, by simp [binOp, Op.stringOp]⟩
end
end Go.Mx
namespace Go.Mx
noncomputable section
variable {P : Program} {ρ : Ren} {h : T O} {nx : Nat} {w : World}
theorem sameV_eq : ∀ {x y : V}, sameV x y = true → x = y := by
  intro x
  induction x with
  | nil => intro y h; cases y <;> first | rfl | exact Bool.noConfusion h
  | cons a l iha ihl =>
    intro y h
    cases y <;> first | exact Bool.noConfusion h | skip
    case cons b m =>
      obtain ⟨h1, h2⟩ := ite1_spec (show ite1 (sameV a b) (sameV l m) = true from h)
      rw [iha h1, ihl h2]
  | b a =>
    intro y h
    cases y <;> first | exact Bool.noConfusion h | skip
    case b c =>
      have h : bs_eq a c = true := h
      cases a <;> cases c <;> first | rfl | exact Bool.noConfusion h
  | i k n =>
    intro y h
    cases y <;> first | exact Bool.noConfusion h | skip
    case i k' n' =>
      obtain ⟨h1, h2⟩ := ite1_spec (show ite1 (keq k k') (ieq n n') = true from h)
      rw [ieq_eq] at h2
      rw [keq_eq h1, of_decide_eq_true h2]
  | s l =>
    intro y h
    cases y <;> first | exact Bool.noConfusion h | skip
    case s m =>
      have h : seq l m = true := h
      rw [seq_eq] at h
      rw [of_decide_eq_true h]
  | x a k lo hi =>
    intro y h
    cases y <;> first | exact Bool.noConfusion h | skip
    case x a' k' lo' hi' =>
      obtain ⟨h1, h⟩ := ite1_spec (show ite1 (Nat.beq a a') (ite1 (keq k k') (ite1 (Nat.beq lo lo') (Nat.beq hi hi'))) = true from h)
      obtain ⟨h2, h⟩ := ite1_spec h
      obtain ⟨h3, h⟩ := ite1_spec h
      rw [Nat.eq_of_beq_eq_true h1, keq_eq h2, Nat.eq_of_beq_eq_true h3, Nat.eq_of_beq_eq_true h]
  | w l ih =>
    intro y h
    cases y <;> first | exact Bool.noConfusion h | skip
    case w m => rw [ih (show sameV l m = true from h)]
  | y l a lo hi ih =>
    intro y h
    cases y <;> first | exact Bool.noConfusion h | skip
    case y m a' lo' hi' =>
      obtain ⟨h1, h⟩ := ite1_spec (show ite1 (sameV l m) (ite1 (Nat.beq a a') (ite1 (Nat.beq lo lo') (Nat.beq hi hi'))) = true from h)
      obtain ⟨h2, h⟩ := ite1_spec h
      obtain ⟨h3, h⟩ := ite1_spec h
      rw [ih h1, Nat.eq_of_beq_eq_true h2, Nat.eq_of_beq_eq_true h3, Nat.eq_of_beq_eq_true h]
  | o t l a lo hi ih =>
    intro y h
    cases y <;> first | exact Bool.noConfusion h | skip
    case o t' m a' lo' hi' =>
      obtain ⟨h1, h⟩ := ite1_spec (show ite1 (Nat.beq t t') (ite1 (sameV l m) (ite1 (Nat.beq a a') (ite1 (Nat.beq lo lo') (Nat.beq hi hi')))) = true from h)
      obtain ⟨h2, h⟩ := ite1_spec h
      obtain ⟨h3, h⟩ := ite1_spec h
      obtain ⟨h4, h⟩ := ite1_spec h
      rw [Nat.eq_of_beq_eq_true h1, ih h2, Nat.eq_of_beq_eq_true h3, Nat.eq_of_beq_eq_true h4, Nat.eq_of_beq_eq_true h]
  | p id off =>
    intro y h
    cases y <;> first | exact Bool.noConfusion h | skip
    case p a b =>
      obtain ⟨h1, h2⟩ := ite1_spec (show ite1 (Nat.beq id a) (Nat.beq off b) = true from h)
      rw [Nat.eq_of_beq_eq_true h1, Nat.eq_of_beq_eq_true h2]
  | sl id off len sz =>
    intro y h
    cases y <;> first | exact Bool.noConfusion h | skip
    case sl a b c e =>
      obtain ⟨h1, h⟩ := ite1_spec (show ite1 (Nat.beq id a) (ite1 (Nat.beq off b) (ite1 (Nat.beq len c) (Nat.beq sz e))) = true from h)
      obtain ⟨h2, h⟩ := ite1_spec h
      obtain ⟨h3, h⟩ := ite1_spec h
      rw [Nat.eq_of_beq_eq_true h1, Nat.eq_of_beq_eq_true h2, Nat.eq_of_beq_eq_true h3, Nat.eq_of_beq_eq_true h]
  | m id =>
    intro y h
    cases y <;> first | exact Bool.noConfusion h | skip
    case m a => have h : Nat.beq id a = true := h; rw [Nat.eq_of_beq_eq_true h]
  | f g c ih =>
    intro y h
    cases y <;> first | exact Bool.noConfusion h | skip
    case f a b =>
      obtain ⟨h1, h2⟩ := ite1_spec (show ite1 (Nat.beq g a) (sameV c b) = true from h)
      rw [Nat.eq_of_beq_eq_true h1, ih h2]
  | e t x ih =>
    intro y h
    cases y <;> first | exact Bool.noConfusion h | skip
    case e a b =>
      obtain ⟨h1, h2⟩ := ite1_spec (show ite1 (Nat.beq t a) (sameV x b) = true from h)
      rw [Nat.eq_of_beq_eq_true h1, ih h2]
  | a l ih =>
    intro y h
    cases y <;> first | exact Bool.noConfusion h | skip
    case a b => have h : sameV l b = true := h; rw [ih h]
  | t l ih =>
    intro y h
    cases y <;> first | exact Bool.noConfusion h | skip
    case t b => have h : sameV l b = true := h; rw [ih h]
  | _ => intro y h; cases y <;> first | rfl | exact Bool.noConfusion h
theorem fI_eq (n : Int) (c : Int → Bool) : fI n c = c n := by
  cases n with
  | ofNat m => exact forceN_eq m fun m => c (Int.ofNat m)
  | negSucc m => exact forceN_eq m fun m => c (Int.negSucc m)
theorem ile_eq (a b : Int) : ile a b = decide (a ≤ b) := by
  unfold ile
  rw [inot_eq, ilt_eq]
  by_cases h : b < a
  · rw [decide_eq_true h, decide_eq_false (by omega)]; rfl
  · rw [decide_eq_false h, decide_eq_true (by omega)]; rfl
theorem ile_spec {a b : Int} (h : ile a b = true) : a ≤ b := by rw [ile_eq] at h; exact of_decide_eq_true h
theorem ilt_spec {a b : Int} (h : ilt a b = true) : a < b := by rw [ilt_eq] at h; exact of_decide_eq_true h
theorem pos_neg (c : Int) : Int.subNatNat (posI c) (negI c) = c := by
  cases c with
  | ofNat n => show Int.subNatNat n 0 = Int.ofNat n; rw [Int.subNatNat_eq_coe]; simp
  | negSucc n => show Int.subNatNat 0 (n + 1) = Int.negSucc n; rw [Int.subNatNat_eq_coe]; omega
theorem MR_one (ρ : Ren) : MR ρ oneV 1 := by simp [oneV, MR]
theorem mkT_spec {x : V} {c m : Int} (hm : MR ρ x m) : MR ρ (mkT x c) (c * m) := by
  unfold mkT
  cases e : ieq c (Int.ofNat 1) with
  | true =>
    rw [ieq_eq] at e
    have e : c = 1 := by simpa using e
    subst e
    show MR ρ x (1 * m)
    rw [Int.one_mul]
    exact hm
  | false =>
    show MR ρ (.o 6 x 0 (posI c) (negI c)) (c * m)
    simp only [MR]
    exact .inr (.inr (.inl ⟨trivial, m, hm, by rw [pos_neg]⟩))
theorem tmK_spec {v : V} {k : V → Int → Bool} (hk : tmK v k = true) : ∃ x c, k x c = true ∧ ∀ ρ n, MR ρ v n → ∃ m, MR ρ x m ∧ n = c * m := by
  have one : k v (Int.ofNat 1) = true → ∃ x c, k x c = true ∧ ∀ ρ n, MR ρ v n → ∃ m, MR ρ x m ∧ n = c * m := fun h =>
    ⟨v, 1, h, fun ρ n hn => ⟨n, hn, by rw [Int.one_mul]⟩⟩
  cases v <;> first | exact one hk | skip
  case o t l a lo hi =>
    have hk2 : (Bool.rec (k (.o t l a lo hi) (Int.ofNat 1)) (k l (Int.subNatNat lo hi)) (Nat.beq t 6) : Bool) = true := hk
    cases e : Nat.beq t 6 with
    | false => rw [e] at hk2; exact one hk2
    | true =>
      rw [e] at hk2
      have e := Nat.eq_of_beq_eq_true e
      refine ⟨l, _, hk2, fun ρ n hn => ?_⟩
      simp only [MR] at hn
      rcases hn with ⟨h1, _⟩ | ⟨h1, _⟩ | ⟨_, m, h2, h3⟩ | ⟨h1, _⟩ | ⟨h1, _⟩
      · omega
      · omega
      · exact ⟨m, h2, h3⟩
      · omega
      · omega
theorem insK_spec {x : V} {c : Int} : ∀ {l : V} {k : V → Bool}, insK x c l k = true → isC l → ∃ r, k r = true ∧ isC r ∧ ∀ ρ n m, LR ρ l n → MR ρ x m → LR ρ r (n + c * m) := by
  intro l
  induction l with
  | nil =>
    intro k hk _
    have hk2 : fI c (fun c => k (.cons (mkT x c) .nil)) = true := hk
    rw [fI_eq] at hk2
    refine ⟨_, hk2, trivial, fun ρ n m hn hm => ?_⟩
    simp only [LR] at hn ⊢
    exact ⟨c * m, 0, mkT_spec hm, rfl, by omega⟩
  | cons y r _ ih =>
    intro k hk hc
    obtain ⟨x', c', hk2, hy⟩ := tmK_spec (show tmK y (fun x' c' => Bool.rec (insK x c r fun r' => k (.cons y r')) (fI (Int.add c c') fun c2 => Bool.rec (k (.cons (mkT x c2) r)) (k r) (ieq c2 (Int.ofNat 0))) (sameV x x')) = true from hk)
    cases e : sameV x x' with
    | false =>
      rw [e] at hk2
      obtain ⟨r', h1, h2, h3⟩ := ih (k := fun r' => k (.cons y r')) hk2 hc
      refine ⟨_, h1, h2, fun ρ n m hn hm => ?_⟩
      simp only [LR] at hn ⊢
      obtain ⟨a, b, g1, g2, g3⟩ := hn
      exact ⟨a, b + c * m, g1, h3 ρ b m g2 hm, by omega⟩
    | true =>
      rw [e] at hk2
      have e := sameV_eq e
      subst e
      have hk3 : fI (Int.add c c') (fun c2 => Bool.rec (k (.cons (mkT x c2) r)) (k r) (ieq c2 (Int.ofNat 0))) = true := hk2
      rw [fI_eq] at hk3
      have hadd : Int.add c c' = c + c' := rfl
      rw [hadd] at hk3
      cases e2 : ieq (c + c') (Int.ofNat 0) with
      | false =>
        rw [e2] at hk3
        refine ⟨_, hk3, hc, fun ρ n m hn hm => ?_⟩
        simp only [LR] at hn ⊢
        obtain ⟨a, b, g1, g2, g3⟩ := hn
        obtain ⟨m', q1, q2⟩ := hy ρ a g1
        have := hm.fn q1
        subst this
        exact ⟨(c + c') * m, b, mkT_spec hm, g2, by rw [Int.add_mul]; omega⟩
      | true =>
        rw [e2] at hk3
        rw [ieq_eq] at e2
        have e2 : c + c' = 0 := by simpa using e2
        refine ⟨_, hk3, hc, fun ρ n m hn hm => ?_⟩
        simp only [LR] at hn
        obtain ⟨a, b, g1, g2, g3⟩ := hn
        obtain ⟨m', q1, q2⟩ := hy ρ a g1
        have := hm.fn q1
        subst this
        have e3 : (c + c') * m = 0 := by rw [e2, Int.zero_mul]
        rw [Int.add_mul] at e3
        have e4 : n + c * m = b := by omega
        rw [e4]
        exact g2
  | _ => intro k _ hc; exact absurd hc (by simp [isC])
theorem LR_isC {l : V} {n : Int} (hl : LR ρ l n) : isC l := by
  induction l generalizing n with
  | nil => trivial
  | cons x r _ ih => simp only [LR] at hl; obtain ⟨_, k, _, h2, _⟩ := hl; exact ih h2
  | _ => simp [LR] at hl
theorem addLK_spec {q : Int} : ∀ {r l : V} {k : V → Bool}, addLK q r l k = true → isC l → ∃ d, k d = true ∧ isC d ∧ ∀ ρ n m, LR ρ l n → LR ρ r m → LR ρ d (n + q * m) := by
  intro r
  induction r with
  | nil =>
    intro l k hk hc
    refine ⟨l, hk, hc, fun ρ n m hn hm => ?_⟩
    simp only [LR] at hm
    subst hm
    rw [Int.mul_zero, Int.add_zero]
    exact hn
  | cons y r _ ih =>
    intro l k hk hc
    obtain ⟨x, c, hk2, hy⟩ := tmK_spec (show tmK y (fun x c => fI (Int.mul q c) fun d => insK x d l fun l' => addLK q r l' k) = true from hk)
    rw [fI_eq] at hk2
    obtain ⟨l', hk3, hc', hl'⟩ := insK_spec hk2 hc
    obtain ⟨d, hk4, hcd, hd⟩ := ih hk3 hc'
    refine ⟨d, hk4, hcd, fun ρ n m hn hm => ?_⟩
    simp only [LR] at hm
    obtain ⟨a, b, g1, g2, g3⟩ := hm
    obtain ⟨m', q1, q2⟩ := hy ρ a g1
    have := hd ρ _ _ (hl' ρ n m' hn q1) g2
    have e : n + q * m = n + Int.mul q c * m' + q * b := by
      rw [g3, q2, Int.mul_add, show Int.mul q c = q * c from rfl, Int.mul_assoc]; omega
    rw [e]
    exact this
  | _ =>
    intro l k hk hc
    exact ⟨l, hk, hc, fun ρ n m _ hm => by simp [LR] at hm⟩
theorem wrap64_rng {n m : Int} (h : n = IntKind.i64.wrap m) : Int.negSucc 9223372036854775807 ≤ n ∧ n ≤ Int.ofNat 9223372036854775807 := by
  subst h
  have h1 : Int.negSucc 9223372036854775807 = (-9223372036854775808 : Int) := rfl
  have h2 : Int.ofNat 9223372036854775807 = (9223372036854775807 : Int) := rfl
  rw [h1, h2]
  rw [IntKind.wrap_i64]
  omega
theorem mrK_spec {x : V} {k : Int → Int → Bool} (hk : mrK x k = true) : ∃ lo hi, k lo hi = true ∧ ∀ ρ n, MR ρ x n → lo ≤ n ∧ n ≤ hi := by
  cases x <;> first | exact Bool.noConfusion hk | skip
  case i kd c => exact ⟨c, c, hk, fun ρ n hn => by simp only [MR] at hn; omega⟩
  case x a kd lo hi =>
    refine ⟨lo, hi, hk, fun ρ n hn => ?_⟩
    simp only [MR] at hn
    obtain ⟨L, _, h1, h2, rfl⟩ := hn
    omega
  case o t l a lo hi =>
    have hk2 : (Bool.rec (Bool.rec (Bool.rec false (k (Int.negSucc 9223372036854775807) (Int.ofNat 9223372036854775807)) (Nat.beq t 9)) (k (unzz lo) (unzz hi)) (Nat.beq t 7)) (k (Int.ofNat lo) (Int.ofNat hi)) (ior (Nat.beq t 1) (Nat.beq t 4)) : Bool) = true := hk
    cases e : ior (Nat.beq t 1) (Nat.beq t 4) with
    | true =>
      rw [e] at hk2
      rw [ior_eq, Bool.or_eq_true] at e
      have e : t = 1 ∨ t = 4 := e.imp Nat.eq_of_beq_eq_true Nat.eq_of_beq_eq_true
      refine ⟨lo, hi, hk2, fun ρ n hn => ?_⟩
      simp only [MR] at hn
      rcases hn with ⟨_, L, s, _, _, h1, h2, rfl⟩ | ⟨_, k, _, h1, h2, rfl⟩ | ⟨h1, _⟩ | ⟨h1, _⟩ | ⟨h1, _⟩
      · omega
      · omega
      · omega
      · omega
      · omega
    | false =>
      rw [e] at hk2
      rw [ior_eq, Bool.or_eq_false_iff] at e
      cases e2 : Nat.beq t 7 with
      | false =>
        rw [e2] at hk2
        cases e3 : Nat.beq t 9 with
        | false => rw [e3] at hk2; exact Bool.noConfusion hk2
        | true =>
          rw [e3] at hk2
          have e3 := Nat.eq_of_beq_eq_true e3
          refine ⟨_, _, hk2, fun ρ n hn => ?_⟩
          simp only [MR] at hn
          rcases hn with ⟨h1, _⟩ | ⟨h1, _⟩ | ⟨h1, _⟩ | ⟨h1, _⟩ | ⟨_, m, _, h2⟩
          · omega
          · omega
          · omega
          · omega
          · exact wrap64_rng h2
      | true =>
        rw [e2] at hk2
        have e2 := Nat.eq_of_beq_eq_true e2
        refine ⟨unzz lo, unzz hi, hk2, fun ρ n hn => ?_⟩
        simp only [MR] at hn
        rcases hn with ⟨h1, _⟩ | ⟨h1, _⟩ | ⟨h1, _⟩ | ⟨_, L, _, _, h1, h2⟩ | ⟨h1, _⟩
        · omega
        · omega
        · omega
        · exact ⟨h1, h2⟩
        · omega
theorem rgK_spec : ∀ {l : V} {k : Int → Int → Bool}, rgK l k = true → ∃ lo hi, k lo hi = true ∧ ∀ ρ n, LR ρ l n → lo ≤ n ∧ n ≤ hi := by
  intro l
  induction l with
  | nil => intro k hk; exact ⟨0, 0, hk, fun ρ n hn => by simp only [LR] at hn; omega⟩
  | cons y r _ ih =>
    intro k hk
    obtain ⟨x, c, hk2, hy⟩ := tmK_spec (show tmK y (fun x c => mrK x fun lo hi => rgK r fun a b => Bool.rec (fI (Int.add a (Int.mul c lo)) fun a => fI (Int.add b (Int.mul c hi)) fun b => k a b) (fI (Int.add a (Int.mul c hi)) fun a => fI (Int.add b (Int.mul c lo)) fun b => k a b) (ilt c (Int.ofNat 0))) = true from hk)
    obtain ⟨lo, hi, hk3, hm⟩ := mrK_spec hk2
    obtain ⟨a, b, hk4, hr⟩ := ih hk3
    cases e : ilt c (Int.ofNat 0) with
    | false =>
      rw [e] at hk4
      have hk5 : fI (Int.add a (Int.mul c lo)) (fun a => fI (Int.add b (Int.mul c hi)) fun b => k a b) = true := hk4
      rw [fI_eq, fI_eq] at hk5
      refine ⟨_, _, hk5, fun ρ n hn => ?_⟩
      simp only [LR] at hn
      obtain ⟨p, q, g1, g2, g3⟩ := hn
      obtain ⟨m, q1, q2⟩ := hy ρ p g1
      have r1 := hm ρ m q1
      have r2 := hr ρ q g2
      rw [ilt_eq] at e
      have hc : 0 ≤ c := by have := of_decide_eq_false e; have : ¬ c < 0 := this; omega
      have s1 : c * lo ≤ c * m := Int.mul_le_mul_of_nonneg_left r1.1 hc
      have s2 : c * m ≤ c * hi := Int.mul_le_mul_of_nonneg_left r1.2 hc
      show a + c * lo ≤ n ∧ n ≤ b + c * hi
      omega
    | true =>
      rw [e] at hk4
      have hk5 : fI (Int.add a (Int.mul c hi)) (fun a => fI (Int.add b (Int.mul c lo)) fun b => k a b) = true := hk4
      rw [fI_eq, fI_eq] at hk5
      refine ⟨_, _, hk5, fun ρ n hn => ?_⟩
      simp only [LR] at hn
      obtain ⟨p, q, g1, g2, g3⟩ := hn
      obtain ⟨m, q1, q2⟩ := hy ρ p g1
      have r1 := hm ρ m q1
      have r2 := hr ρ q g2
      have hc : c ≤ 0 := by have := ilt_spec e; have : c < 0 := this; omega
      have s1 : c * hi ≤ c * m := Int.mul_le_mul_of_nonpos_left hc r1.2
      have s2 : c * m ≤ c * lo := Int.mul_le_mul_of_nonpos_left hc r1.1
      show a + c * hi ≤ n ∧ n ≤ b + c * lo
      omega
  | _ => intro k hk; exact ⟨0, 0, hk, fun ρ n hn => by simp [LR] at hn⟩
theorem kOfN_eq (k : Nat) : kOfN' k = kOfN k := by
  match k with
  | 0 => rfl | 1 => rfl | 2 => rfl | 3 => rfl | 4 => rfl | 5 => rfl | 6 => rfl | n + 7 => rfl
theorem kOfN_ikn (k : IntKind) : kOfN (ikn k) = k := by cases k <;> rfl
theorem VR_lin {kd : Nat} {l : V} {a b : Nat} {n : Int} (hn : LR ρ l n) : VR ρ (.o 2 l kd a b) (.int (kOfN kd) n) := by
  simp only [VR, OV]
  exact .inl (.inr (.inl ⟨trivial, n, hn, rfl⟩))
theorem mkI_spec {kd : Nat} {l : V} {K : V → Bool} (hk : mkI kd l K = true) : ∃ y, K y = true ∧ ∀ ρ n, LR ρ l n → VR ρ y (.int (kOfN kd) n) := by
  have key : ∀ y r : V, (tmK y (fun x c => Bool.rec (K (.o 2 (.cons y r) kd 0 0)) (K (.i (kOfN' kd) c)) (sameV x oneV)) = true) → (∀ ρ n, ¬ LR ρ r n) → ∃ z, K z = true ∧ ∀ ρ n, LR ρ (.cons y r) n → VR ρ z (.int (kOfN kd) n) := fun y r hk hr => by
    have no : ∀ ρ n, ¬ LR ρ (.cons y r) n := fun ρ n hn => by
      simp only [LR] at hn
      obtain ⟨_, k, _, h2, _⟩ := hn
      exact hr ρ k h2
    obtain ⟨x, c, hk2, hy⟩ := tmK_spec hk
    cases e : sameV x oneV with
    | false => rw [e] at hk2; exact ⟨_, hk2, fun ρ n hn => VR_lin hn⟩
    | true => rw [e] at hk2; exact ⟨_, hk2, fun ρ n hn => (no ρ n hn).elim⟩
  cases l with
  | nil =>
    refine ⟨_, hk, fun ρ n hn => ?_⟩
    simp only [LR] at hn
    subst hn
    simp only [VR, kOfN_eq]
    rfl
  | cons y r =>
    cases r with
    | nil =>
      obtain ⟨x, c, hk2, hy⟩ := tmK_spec (show tmK y (fun x c => Bool.rec (K (.o 2 (.cons y .nil) kd 0 0)) (K (.i (kOfN' kd) c)) (sameV x oneV)) = true from hk)
      cases e : sameV x oneV with
      | false => rw [e] at hk2; exact ⟨_, hk2, fun ρ n hn => VR_lin hn⟩
      | true =>
        rw [e] at hk2
        have e := sameV_eq e
        subst e
        refine ⟨_, hk2, fun ρ n hn => ?_⟩
        simp only [LR] at hn
        obtain ⟨p, q, g1, g2, g3⟩ := hn
        obtain ⟨m, q1, q2⟩ := hy ρ p g1
        have := q1.fn (MR_one ρ)
        subst this
        have e2 : n = c := by omega
        subst e2
        simp only [VR, kOfN_eq]
    | cons y2 r2 => exact ⟨_, hk, fun ρ n hn => VR_lin hn⟩
    | _ => exact key y _ hk (fun ρ n hn => by simp [LR] at hn)
  | _ => exact ⟨_, hk, fun ρ n hn => by simp [LR] at hn⟩
theorem wrap_in {k : Nat} {n : Int} (h1 : kMin k ≤ n) (h2 : n ≤ (mxK (kOfN k) : Int)) : (kOfN k).wrap n = n := by
  match k with
  | 0 =>
    have h1 : (-128 : Int) ≤ n := h1
    have h2 : n ≤ (127 : Int) := h2
    simp [kOfN, IntKind.wrap, IntKind.bits, IntKind.signed]
    omega
  | 1 =>
    have h1 : (-32768 : Int) ≤ n := h1
    have h2 : n ≤ (32767 : Int) := h2
    simp [kOfN, IntKind.wrap, IntKind.bits, IntKind.signed]
    omega
  | 2 =>
    have h1 : (-2147483648 : Int) ≤ n := h1
    have h2 : n ≤ (2147483647 : Int) := h2
    simp [kOfN, IntKind.wrap, IntKind.bits, IntKind.signed]
    omega
  | 3 =>
    have h1 : (-9223372036854775808 : Int) ≤ n := h1
    have h2 : n ≤ (9223372036854775807 : Int) := h2
    simp [kOfN, IntKind.wrap, IntKind.bits, IntKind.signed]
    omega
  | 4 =>
    have h1 : (0 : Int) ≤ n := h1
    have h2 : n ≤ (255 : Int) := h2
    simp [kOfN, IntKind.wrap, IntKind.bits, IntKind.signed]
    omega
  | 5 =>
    have h1 : (0 : Int) ≤ n := h1
    have h2 : n ≤ (65535 : Int) := h2
    simp [kOfN, IntKind.wrap, IntKind.bits, IntKind.signed]
    omega
  | 6 =>
    have h1 : (0 : Int) ≤ n := h1
    have h2 : n ≤ (4294967295 : Int) := h2
    simp [kOfN, IntKind.wrap, IntKind.bits, IntKind.signed]
    omega
  | m + 7 =>
    have h1 : (0 : Int) ≤ n := h1
    have h2 : n ≤ (18446744073709551615 : Int) := h2
    simp [kOfN, IntKind.wrap, IntKind.bits, IntKind.signed]
    omega
theorem linK_spec {v : V} {k : Nat → V → Bool} (hk : linK v k = true) : ∃ kd l, k kd l = true ∧ ∀ ρ x, VR ρ v x → ∃ n, LR ρ l n ∧ x = .int (kOfN kd) n := by
  cases v <;> first | exact Bool.noConfusion hk | skip
  case i kd n =>
    refine ⟨_, _, hk, fun ρ x hx => ?_⟩
    simp only [VR] at hx
    subst hx
    refine ⟨n, ?_, by rw [kOfN_ikn]⟩
    simp only [LR]
    exact ⟨n, 0, by have := mkT_spec (c := n) (MR_one ρ); rwa [Int.mul_one] at this, rfl, by omega⟩
  case x a kd lo hi =>
    refine ⟨_, _, hk, fun ρ x hx => ?_⟩
    simp only [VR] at hx
    obtain ⟨L, h1, h2, h3, rfl⟩ := hx
    refine ⟨L.base, ?_, by rw [kOfN_ikn]⟩
    simp only [LR, MR]
    exact ⟨L.base, 0, ⟨L, h1, h2, h3, rfl⟩, rfl, by omega⟩
  case o t l a lo hi =>
    obtain ⟨e, hk2⟩ := ite1_spec (show ite1 (Nat.beq t 2) (k a l) = true from hk)
    have e := Nat.eq_of_beq_eq_true e
    refine ⟨_, _, hk2, fun ρ x hx => ?_⟩
    replace hx := VR_OV hx (by omega)
    simp only [OV] at hx
    rcases hx with ⟨h1, _⟩ | ⟨_, n, h1, h2⟩ | ⟨h1, _⟩ | ⟨h1, _⟩
    · omega
    · exact ⟨n, h1, h2⟩
    · omega
    · omega
theorem cstK_spec {l : V} {k : Int → Bool} {d : Bool} (hk : cstK l k d = true) : (∃ c, k c = true ∧ ∀ ρ n, LR ρ l n → n = c) ∨ d = true := by
  obtain ⟨y, h1, h2⟩ := mkI_spec hk
  cases y with
  | i kd c =>
    refine .inl ⟨c, h1, fun ρ n hn => ?_⟩
    have := h2 ρ n hn
    simp only [VR] at this
    injection this
  | _ => exact .inr h1
theorem mkR_spec {kd : Nat} {l : V} {K : V → Bool} (hk : mkR kd l K = true) : ∃ y, K y = true ∧ ∀ ρ n, LR ρ l n → VR ρ y (.int (kOfN kd) n) ∧ (kOfN kd).wrap n = n := by
  obtain ⟨lo, hi, hk2, hr⟩ := rgK_spec hk
  obtain ⟨e1, hk3⟩ := ite1_spec hk2
  obtain ⟨e2, hk4⟩ := ite1_spec hk3
  have e1 := ile_spec e1
  have e2 := ile_spec e2
  rw [kOfN_eq] at e2
  obtain ⟨y, h1, h2⟩ := mkI_spec hk4
  refine ⟨y, h1, fun ρ n hn => ⟨h2 ρ n hn, wrap_in ?_ ?_⟩⟩
  · have := hr ρ n hn; omega
  · have := hr ρ n hn
    have e3 : (Int.ofNat (mxK (kOfN kd))) = (mxK (kOfN kd) : Int) := rfl
    omega
theorem mkW_spec {kd : Nat} {l : V} {K : V → Bool} (hk : mkW kd l K = true) : ∃ y, K y = true ∧ ∀ ρ n, LR ρ l n → VR ρ y (.int (kOfN kd) ((kOfN kd).wrap n)) := by
  obtain ⟨lo, hi, hk2, hr⟩ := rgK_spec hk
  cases e0 : ite1 (ile (kMin kd) lo) (ile hi (Int.ofNat (mxK (kOfN' kd)))) with
  | false =>
    rw [e0] at hk2
    obtain ⟨e1, hk3⟩ := ite1_spec (show ite1 (Nat.beq kd 3) (K (.o 2 (.cons (.o 9 l 0 0 0) .nil) 3 0 0)) = true from hk2)
    have e1 := Nat.eq_of_beq_eq_true e1
    subst e1
    refine ⟨_, hk3, fun ρ n hn => ?_⟩
    simp only [VR, OV]
    refine .inl (.inr (.inl ⟨trivial, _, ?_, rfl⟩))
    simp only [LR, MR]
    exact ⟨IntKind.i64.wrap n, 0, .inr (.inr (.inr (.inr ⟨trivial, n, hn, rfl⟩))), rfl, (Int.add_zero _).symm⟩
  | true =>
    rw [e0] at hk2
    obtain ⟨e1, e2⟩ := ite1_spec e0
    have e1 := ile_spec e1
    have e2 := ile_spec e2
    rw [kOfN_eq] at e2
    obtain ⟨y, h1, h2⟩ := mkI_spec hk2
    refine ⟨y, h1, fun ρ n hn => ?_⟩
    have e3 : (Int.ofNat (mxK (kOfN kd))) = (mxK (kOfN kd) : Int) := rfl
    have := hr ρ n hn
    rw [wrap_in (by omega) (by omega)]
    exact h2 ρ n hn
theorem RR_isC : ∀ {l : V} {s : List UInt8}, RR ρ l s → isC l := by
  intro l
  induction l with
  | nil => intro _ _; trivial
  | cons x r _ ih => intro s hs; simp only [RR] at hs; obtain ⟨_, s2, _, h2, _⟩ := hs; exact ih h2
  | _ => intro s hs; simp [RR] at hs
theorem RR.fn : ∀ {l : V} {s t : List UInt8}, RR ρ l s → RR ρ l t → s = t := by
  intro l
  induction l with
  | nil => intro s t hs ht; simp only [RR] at hs ht; rw [hs, ht]
  | cons x r _ ih =>
    intro s t hs ht
    simp only [RR] at hs ht
    obtain ⟨s1, s2, h1, h2, rfl⟩ := hs
    obtain ⟨t1, t2, g1, g2, rfl⟩ := ht
    rw [h1.fn g1, ih h2 g2]
  | _ => intro s t hs; simp [RR] at hs
theorem catK_RR {l : V} : ∀ {k : V → Bool} {r : V}, catK l r k = true → isC l → ∃ c, k c = true ∧ ∀ ρ s t, RR ρ l s → RR ρ r t → RR ρ c (s ++ t) := by
  induction l with
  | nil => intro k r h _; exact ⟨r, h, fun ρ s t hs ht => by simp only [RR] at hs; subst hs; simpa using ht⟩
  | cons x l _ ih =>
    intro k r h hc
    obtain ⟨c, hk, h1⟩ := ih (k := fun c => k (.cons x c)) h hc
    refine ⟨_, hk, fun ρ s t hs ht => ?_⟩
    simp only [RR] at hs ⊢
    obtain ⟨s1, s2, g1, g2, rfl⟩ := hs
    exact ⟨s1, s2 ++ t, g1, h1 ρ s2 t g2 ht, by rw [List.append_assoc]⟩
  | _ => intro k r h hc; exact absurd hc (by simp [isC])
theorem isB8_PR {x : V} {c : UInt8} (hb : isB8 x = true) (hx : VR ρ x (byteV c)) : PR ρ x [c] := by
  cases x <;> first | exact Bool.noConfusion hb | skip
  case i kd n =>
    simp only [VR, byteV, Value.int.injEq] at hx
    simp only [PR]
    exact ⟨hx.1.symm, c, rfl, hx.2.symm⟩
  case x a kd lo hi =>
    simp only [VR, byteV, Value.int.injEq] at hx
    obtain ⟨L, h1, h2, h3, h4, h5⟩ := hx
    simp only [PR]
    exact ⟨h4.symm, c, L, rfl, h1, h2, h3, by omega⟩
theorem wOk_RR : ∀ {c : V} {s : List UInt8}, wOk c = true → VRs ρ c (s.map byteV) → RR ρ c s := by
  intro c
  induction c with
  | nil => intro s _ hv; simp only [VRs, List.map_eq_nil_iff] at hv; simp only [RR]; exact hv
  | cons x l _ ih =>
    intro s hk hv
    simp only [VRs] at hv
    obtain ⟨v, vs, e, h1, h2⟩ := hv
    cases s with
    | nil => cases e
    | cons d ds =>
      simp only [List.map_cons, List.cons.injEq] at e
      obtain ⟨rfl, rfl⟩ := e
      have hk' : (Bool.rec false (wOk l) (isB8 x) : Bool) = true := hk
      cases e : isB8 x with
      | false => rw [e] at hk'; exact Bool.noConfusion hk'
      | true =>
        rw [e] at hk'
        simp only [RR]
        exact ⟨[d], ds, isB8_PR e h1, ih hk' h2, rfl⟩
  | _ => intro s _ hv; simp only [VRs] at hv
theorem by_PR {x : V} {s : List UInt8} (hb : isBy x = true) (hx : PR ρ x s) : ∃ c, s = [c] ∧ VR ρ x (byteV c) := by
  cases x <;> first | exact Bool.noConfusion hb | skip
  case i kd n =>
    simp only [PR] at hx
    obtain ⟨rfl, c, rfl, rfl⟩ := hx
    exact ⟨c, rfl, by simp only [VR, byteV]⟩
  case x a kd lo hi =>
    simp only [PR] at hx
    obtain ⟨rfl, c, L, rfl, h1, h2, h3, h4⟩ := hx
    exact ⟨c, rfl, by simp only [VR, byteV]; exact ⟨L, h1, h2, h3, by rw [h4]⟩⟩
theorem isB8_isBy {x : V} (h : isB8 x = true) : isBy x = true := by cases x <;> first | rfl | exact Bool.noConfusion h
theorem wOk_VRs : ∀ {c : V} {s : List UInt8}, wOk c = true → RR ρ c s → VRs ρ c (s.map byteV) := by
  intro c
  induction c with
  | nil => intro s _ hv; simp only [RR] at hv; subst hv; simp [VRs]
  | cons x l _ ih =>
    intro s hk hv
    simp only [RR] at hv
    obtain ⟨s1, s2, h1, h2, rfl⟩ := hv
    have hk' : (Bool.rec false (wOk l) (isB8 x) : Bool) = true := hk
    cases e : isB8 x with
    | false => rw [e] at hk'; exact Bool.noConfusion hk'
    | true =>
      rw [e] at hk'
      obtain ⟨c, rfl, hc⟩ := by_PR (isB8_isBy e) h1
      simp only [List.cons_append, List.nil_append, List.map_cons, VRs]
      exact ⟨_, _, rfl, hc, ih hk' h2⟩
  | _ => intro s _ hv; simp [RR] at hv
theorem chbK_RR : ∀ {l : List Nat} {k : V → Bool}, chbK l k = true → ∃ c, k c = true ∧ ∀ ρ, (∀ n ∈ l, n < 256) → RR ρ c (l.map UInt8.ofNat) := by
  intro l
  induction l with
  | nil => intro k hk; exact ⟨.nil, hk, fun ρ _ => by simp [RR]⟩
  | cons x l ih =>
    intro k hk
    obtain ⟨c, h1, h2⟩ := ih (k := fun c => k (.cons (.i .u8 (Int.ofNat x)) c)) hk
    refine ⟨_, h1, fun ρ hl => ?_⟩
    have hx := hl x (by simp)
    simp only [RR, List.map_cons, PR]
    exact ⟨[UInt8.ofNat x], _, ⟨trivial, UInt8.ofNat x, rfl, by simp [UInt8.toNat_ofNat', Nat.mod_eq_of_lt hx]⟩, h2 ρ (fun n hn => hl n (List.mem_cons_of_mem _ hn)), rfl⟩
theorem bs_data (l : List Nat) : (bs l).data.toList = l.map UInt8.ofNat := rfl
theorem VR_rope {c : V} {a lo hi : Nat} {b : ByteArray} (h : RR ρ c b.data.toList) : VR ρ (.o 0 c a lo hi) (.string b) := by
  simp only [VR, OV]
  exact .inl (.inl ⟨trivial, b, rfl, h⟩)
theorem ropK_spec {v : V} {k : V → Bool} (hk : ropK v k = true) : ∃ c, k c = true ∧ ∀ ρ x, VR ρ v x → ∃ b : ByteArray, x = .string b ∧ RR ρ c b.data.toList := by
  cases v <;> first | exact Bool.noConfusion hk | skip
  case s l =>
    obtain ⟨c, h1, h2⟩ := chbK_RR (show chbK l k = true from hk)
    refine ⟨c, h1, fun ρ x hx => ?_⟩
    simp only [VR] at hx
    obtain ⟨rfl, hl⟩ := hx
    exact ⟨_, rfl, by rw [bs_data]; exact h2 ρ hl⟩
  case w l =>
    obtain ⟨e, hk2⟩ := ite1_spec (show ite1 (wOk l) (k l) = true from hk)
    refine ⟨l, hk2, fun ρ x hx => ?_⟩
    simp only [VR] at hx
    obtain ⟨b, rfl, hb⟩ := hx
    exact ⟨b, rfl, wOk_RR e hb⟩
  case o t l a lo hi =>
    obtain ⟨e, hk2⟩ := ite1_spec (show ite1 (Nat.beq t 0) (k l) = true from hk)
    have e := Nat.eq_of_beq_eq_true e
    refine ⟨l, hk2, fun ρ x hx => ?_⟩
    replace hx := VR_OV hx (by omega)
    simp only [OV] at hx
    rcases hx with ⟨_, b, h1, h2⟩ | ⟨h1, _⟩ | ⟨h1, _⟩ | ⟨h1, _⟩
    · exact ⟨b, h1, h2⟩
    · omega
    · omega
    · omega
theorem lenE_spec {y l : V} {k : V → Bool} (hk : lenE y l k = true) (hc : isC l) : ∃ r, k r = true ∧ isC r ∧ ∀ ρ n s, LR ρ l n → PR ρ y s → LR ρ r (n + s.length) := by
  have by1 : insK oneV (Int.ofNat 1) l k = true → (∀ ρ s, PR ρ y s → ∃ c, s = [c]) → ∃ r, k r = true ∧ isC r ∧ ∀ ρ n s, LR ρ l n → PR ρ y s → LR ρ r (n + s.length) := fun hk hy => by
    obtain ⟨r, h1, h2, h3⟩ := insK_spec hk hc
    refine ⟨r, h1, h2, fun ρ n s hn hs => ?_⟩
    obtain ⟨c, rfl⟩ := hy ρ s hs
    have := h3 ρ n 1 hn (MR_one ρ)
    simpa using this
  cases y <;> first | exact Bool.noConfusion hk | skip
  case i kd n => exact by1 hk (fun ρ s hs => by obtain ⟨c, h, _⟩ := by_PR (x := .i kd n) rfl hs; exact ⟨c, h⟩)
  case x a kd lo hi => exact by1 hk (fun ρ s hs => by obtain ⟨c, h, _⟩ := by_PR (x := .x a kd lo hi) rfl hs; exact ⟨c, h⟩)
  case o t l' a lo hi =>
    obtain ⟨r, h1, h2, h3⟩ := insK_spec (show insK (.o t l' a lo hi) (Int.ofNat 1) l k = true from hk) hc
    refine ⟨r, h1, h2, fun ρ n s hn hs => ?_⟩
    have hm : MR ρ (.o t l' a lo hi) (s.length : Int) := by
      simp only [PR] at hs
      simp only [MR]
      rcases hs with ⟨e, L, g1, g2, g3, g4, _⟩ | ⟨e, g1, g2, m, g3, rfl⟩
      · exact .inl ⟨e, L, s, g1, g2, g3, g4, rfl⟩
      · exact .inr (.inl ⟨e, m, g3, g1, g2, rfl⟩)
    have := h3 ρ n _ hn hm
    have e : Int.ofNat 1 * (s.length : Int) = s.length := Int.one_mul _
    rwa [e] at this
theorem lenA_spec : ∀ {c : V} {n : Nat} {l : V} {k : V → Bool}, lenA c n l k = true → isC l → ∃ m, k m = true ∧ isC m ∧ ∀ ρ s v, RR ρ c s → LR ρ l v → LR ρ m (v + n + s.length) := by
  have fin : ∀ {n : Nat} {l : V} {k : V → Bool}, (Nat.rec (motive := fun _ => Bool) (k l) (fun n' _ => insK oneV (Int.ofNat (Nat.succ n')) l k) n : Bool) = true → isC l → ∃ m, k m = true ∧ isC m ∧ ∀ ρ v, LR ρ l v → LR ρ m (v + n) := fun {n l k} hk hc => by
    cases n with
    | zero => exact ⟨l, hk, hc, fun ρ v hv => by simpa using hv⟩
    | succ n =>
      obtain ⟨r, h1, h2, h3⟩ := insK_spec (show insK oneV (Int.ofNat (Nat.succ n)) l k = true from hk) hc
      refine ⟨r, h1, h2, fun ρ v hv => ?_⟩
      have := h3 ρ v 1 hv (MR_one ρ)
      rwa [Int.mul_one] at this
  intro c
  induction c with
  | nil =>
    intro n l k hk hc
    obtain ⟨m, h1, h2, h3⟩ := fin hk hc
    refine ⟨m, h1, h2, fun ρ s v hs hv => ?_⟩
    simp only [RR] at hs
    subst hs
    have := h3 ρ v hv
    simpa using this
  | cons y r _ ih =>
    intro n l k hk hc
    have hk2 : (Bool.rec (lenE y l fun l => lenA r n l k) (forceN (Nat.succ n) fun n => lenA r n l k) (isBy y) : Bool) = true := hk
    cases e : isBy y with
    | false =>
      rw [e] at hk2
      obtain ⟨l2, h1, h2, h3⟩ := lenE_spec (show lenE y l (fun l => lenA r n l k) = true from hk2) hc
      obtain ⟨m, h4, h5, h6⟩ := ih h1 h2
      refine ⟨m, h4, h5, fun ρ s v hs hv => ?_⟩
      simp only [RR] at hs
      obtain ⟨s1, s2, p1, p2, rfl⟩ := hs
      have := h6 ρ s2 _ p2 (h3 ρ v s1 hv p1)
      have e2 : v + s1.length + n + s2.length = v + n + ((s1 ++ s2).length : Nat) := by simp; omega
      rwa [e2] at this
    | true =>
      rw [e] at hk2
      have hk3 : forceN (Nat.succ n) (fun n => lenA r n l k) = true := hk2
      rw [forceN_eq] at hk3
      obtain ⟨m, h4, h5, h6⟩ := ih hk3 hc
      refine ⟨m, h4, h5, fun ρ s v hs hv => ?_⟩
      simp only [RR] at hs
      obtain ⟨s1, s2, p1, p2, rfl⟩ := hs
      obtain ⟨c, rfl, _⟩ := by_PR e p1
      have := h6 ρ s2 v p2 hv
      have e2 : v + (Nat.succ n : Nat) + s2.length = v + n + (([c] ++ s2).length : Nat) := by simp; omega
      rwa [e2] at this
  | _ => intro n l k hk hc; obtain ⟨m, h1, h2, _⟩ := fin hk hc; exact ⟨m, h1, h2, fun ρ s v hs => by simp [RR] at hs⟩
theorem lenR_spec {c : V} {k : V → Bool} (hk : lenR c k = true) : ∃ m, k m = true ∧ isC m ∧ ∀ ρ s, RR ρ c s → LR ρ m (s.length : Int) := by
  obtain ⟨m, h1, h2, h3⟩ := lenA_spec (show lenA c 0 .nil k = true from hk) trivial
  refine ⟨m, h1, h2, fun ρ s hs => ?_⟩
  have := h3 ρ s 0 hs (by simp only [LR])
  simpa using this
theorem strR_spec {c : V} {K : V → Bool} (hk : strR c K = true) (hc : isC c) : ∃ y, K y = true ∧ ∀ ρ (b : ByteArray), RR ρ c b.data.toList → VR ρ y (.string b) := by
  unfold strR at hk
  cases e : wOk c with
  | false => rw [e] at hk; exact ⟨_, hk, fun ρ b hb => VR_rope hb⟩
  | true =>
    rw [e] at hk
    obtain ⟨y, h1, h2⟩ := strK_spec (show strK c K = true from hk) hc
    refine ⟨y, h1, fun ρ b hb => ?_⟩
    obtain ⟨b', g1, g2⟩ := h2 ρ (bytesV b) (wOk_VRs e hb)
    rw [bytesV_inj g1]
    exact g2
theorem lensK_spec {a b : V} {kn ks ku : Bool} (hk : lensK a b kn ks ku = true) {s t : List UInt8} (hs : RR ρ a s) (ht : RR ρ b t) : (s ≠ t ∧ kn = true) ∨ (s = t ∧ ks = true) ∨ ku = true := by
  obtain ⟨la, hk2, _, hla⟩ := lenR_spec (show lenR a (fun la => lenR b fun lb => rgK la fun l1 h1 => rgK lb fun l2 h2 => Bool.rec (Bool.rec (Bool.rec ku ks (ite1 (ile h1 (Int.ofNat 0)) (ile h2 (Int.ofNat 0)))) kn (ilt h2 l1)) kn (ilt h1 l2)) = true from hk)
  obtain ⟨lb, hk3, _, hlb⟩ := lenR_spec hk2
  obtain ⟨l1, h1, hk4, hr1⟩ := rgK_spec hk3
  obtain ⟨l2, h2, hk5, hr2⟩ := rgK_spec hk4
  have q1 := hr1 ρ _ (hla ρ s hs)
  have q2 := hr2 ρ _ (hlb ρ t ht)
  cases e1 : ilt h1 l2 with
  | true =>
    rw [e1] at hk5
    have := ilt_spec e1
    exact .inl ⟨fun e => by subst e; omega, hk5⟩
  | false =>
    rw [e1] at hk5
    cases e2 : ilt h2 l1 with
    | true =>
      rw [e2] at hk5
      have := ilt_spec e2
      exact .inl ⟨fun e => by subst e; omega, hk5⟩
    | false =>
      rw [e2] at hk5
      cases e3 : ite1 (ile h1 (Int.ofNat 0)) (ile h2 (Int.ofNat 0)) with
      | false => rw [e3] at hk5; exact .inr (.inr hk5)
      | true =>
        rw [e3] at hk5
        obtain ⟨g1, g2⟩ := ite1_spec e3
        have g1 := ile_spec g1
        have g2 := ile_spec g2
        have z : Int.ofNat 0 = 0 := rfl
        have s0 : s = [] := by apply List.eq_nil_of_length_eq_zero; omega
        have t0 : t = [] := by apply List.eq_nil_of_length_eq_zero; omega
        exact .inr (.inl ⟨by rw [s0, t0], hk5⟩)
theorem VR_unk (ρ : Ren) (b : Bool) : VR ρ unkB (.bool b) := by
  simp only [unkB, VR, OV]
  exact .inl (.inr (.inr (.inr ⟨trivial, b, rfl, .inl rfl⟩)))
theorem VR_cmp {ρ : Ren} {l : V} {c lo hi : Nat} {n : Int} (h : LR ρ l n) : VR ρ (.o 5 l c lo hi) (.bool (tbOp c n)) := by
  simp only [VR, OV]
  exact .inl (.inr (.inr (.inr ⟨trivial, _, rfl, .inr ⟨n, h, rfl⟩⟩)))
theorem truC_spec {v : V} {x y : Value} (hk : truC v = true) (hx : VR ρ v x) (hy : VR ρ v y) : ∃ b, x = .bool b ∧ y = .bool b := by
  cases v <;> first | exact Bool.noConfusion hk | skip
  case o t l a lo hi =>
    obtain ⟨e, h0⟩ := ite1_spec (show ite1 (Nat.beq t 5) (Nat.blt 0 a) = true from hk)
    have e := Nat.eq_of_beq_eq_true e
    have h0 := Nat.blt_eq.mp h0
    replace hx := VR_OV hx (by omega)
    replace hy := VR_OV hy (by omega)
    simp only [OV] at hx hy
    rcases hx with ⟨h1, _⟩ | ⟨h1, _⟩ | ⟨h1, _⟩ | ⟨_, b, rfl, h2⟩
    · omega
    · omega
    · omega
    · rcases hy with ⟨h1, _⟩ | ⟨h1, _⟩ | ⟨h1, _⟩ | ⟨_, c, rfl, h3⟩
      · omega
      · omega
      · omega
      · rcases h2 with h2 | ⟨n, h2, rfl⟩
        · omega
        · rcases h3 with h3 | ⟨m, h3, rfl⟩
          · omega
          · rw [h2.fn h3]
            exact ⟨_, rfl, rfl⟩
theorem vUn_spec {v : V} {k : V → Bool} (hk : vUn v k = true) : (v = .b false ∧ k (.b false) = true) ∨ k unkB = true := by
  cases v <;> first | exact .inr hk | skip
  case b x => cases x <;> first | exact .inl ⟨rfl, hk⟩ | exact .inr hk
theorem pcNo_spec {m : Nat} {y : V} {t : List UInt8} (hk : pcNo m y = true) (ht : PR ρ y t) : ∃ d r, t = d :: r ∧ d.toNat ≠ m := by
  cases y <;> first | exact Bool.noConfusion hk | skip
  case o tt l a lo hi =>
    obtain ⟨e1, hk2⟩ := ite1_spec (show ite1 (Nat.beq tt 1) (ite1 (Nat.ble 1 lo) <| tbN (mskV l) m) = true from hk)
    obtain ⟨e2, e3⟩ := ite1_spec hk2
    have e1 := Nat.eq_of_beq_eq_true e1
    have e2 := Nat.ble_eq.mp e2
    simp only [PR] at ht
    rcases ht with ⟨_, L, _, _, q1, _, q2, _⟩ | ⟨z, _⟩
    · cases t with
      | nil => simp at q1; omega
      | cons d r =>
        refine ⟨d, r, rfl, fun e => ?_⟩
        have := q2 d (List.mem_cons_self ..)
        rw [e, e3] at this
        cases this
    · omega
theorem clashB_spec {x y : V} {s t : List UInt8} (hk : clashB x y = true) (hs : PR ρ x s) (ht : PR ρ y t) : ∃ c d r, s = [c] ∧ t = d :: r ∧ c ≠ d := by
  obtain ⟨kd, n, rfl, hk2⟩ := vI_spec (v := x) (show vI x (fun _ n => Int.rec (motive := fun _ => Bool) (fun m => pcNo m y) (fun _ => false) n) = true from hk)
  cases n with
  | negSucc n => exact Bool.noConfusion hk2
  | ofNat m =>
    obtain ⟨d, r, rfl, hd⟩ := pcNo_spec (show pcNo m y = true from hk2) ht
    simp only [PR] at hs
    obtain ⟨_, c, rfl, h1⟩ := hs
    have h1 : (m : Int) = (c.toNat : Int) := h1
    exact ⟨c, d, r, rfl, rfl, fun e => hd (by subst e; omega)⟩
theorem isNilV_spec {v : V} (hk : isNilV v = true) : v = .nil := by
  cases v <;> first | rfl | exact Bool.noConfusion hk
theorem neP_spec {x y : V} {s t : List UInt8} (hk : neP x y = true) (hs : PR ρ x s) (ht : PR ρ y t) : s ≠ t := by
  cases x <;> first | exact Bool.noConfusion hk | skip
  case o t1 l a lo hi =>
    obtain ⟨e1, hk2⟩ := ite1_spec (show ite1 (Nat.beq t1 1) _ = true from hk)
    have e1 := Nat.eq_of_beq_eq_true e1
    subst e1
    cases l <;> first | exact Bool.noConfusion hk2 | skip
    case cons z q =>
      cases q <;> first | exact Bool.noConfusion hk2 | skip
      case m g =>
        cases y <;> first | exact Bool.noConfusion hk2 | skip
        case o t2 l2 a2 lo2 hi2 =>
          obtain ⟨e2, hk3⟩ := ite1_spec (show ite1 (Nat.beq t2 1) (Nat.beq a2 g) = true from hk2)
          have e2 := Nat.eq_of_beq_eq_true e2
          subst e2
          have hk3 := Nat.eq_of_beq_eq_true hk3
          subst hk3
          simp only [PR] at hs ht
          rcases hs with ⟨_, L, _, _, _, _, _, hne⟩ | ⟨h, _⟩
          · rcases ht with ⟨_, M, h1, h2, _⟩ | ⟨h, _⟩
            · obtain ⟨L', g1, g2⟩ := (show ∃ L', ρ a2 = some L' ∧ L'.base ≠ enc s from hne)
              rw [h1] at g1
              cases g1
              intro e
              exact g2 (by rw [h2, e])
            · omega
          · omega
theorem eqR_spec : ∀ {a b : V} {k : V → Bool}, eqR a b k = true → ∀ {ρ : Ren} {s t : List UInt8}, RR ρ a s → RR ρ b t → ∃ y, k y = true ∧ VR ρ y (.bool (decide (s = t))) := by
  have fin : ∀ {a b : V} {k : V → Bool}, lensK a b (k (.b false)) (k (.b true)) (k unkB) = true → ∀ {ρ : Ren} {s t : List UInt8}, RR ρ a s → RR ρ b t → ∃ y, k y = true ∧ VR ρ y (.bool (decide (s = t))) := fun {a b k} hk {ρ s t} hs ht => by
    rcases lensK_spec hk hs ht with ⟨h1, h2⟩ | ⟨h1, h2⟩ | h2
    · rw [decide_eq_false h1]; exact ⟨_, h2, VRb _ _⟩
    · rw [decide_eq_true h1]; exact ⟨_, h2, VRb _ _⟩
    · exact ⟨_, h2, VR_unk _ _⟩
  intro a
  induction a with
  | nil => intro b k hk ρ s t hs ht; exact fin (show lensK .nil b (k (.b false)) (k (.b true)) (k unkB) = true from hk) hs ht
  | cons x ra _ ih =>
    intro b k hk ρ s t hs ht
    cases b with
    | nil => exact fin (show lensK (.cons x ra) .nil (k (.b false)) (k (.b true)) (k unkB) = true from hk) hs ht
    | cons y rb =>
      have hk2 : (Bool.rec (Bool.rec (Bool.rec (lensK (.cons x ra) (.cons y rb) (k (.b false)) (k (.b true)) (k unkB)) (k (.b false)) (ior (ior (clashB x y) (clashB y x)) (neR x ra y rb)))
        (rngK x fun _ l1 h1 i1 => rngK y fun _ l2 h2 i2 => tri l1 h1 i1 l2 h2 i2 (k (.b false)) (eqR ra rb k) (eqR ra rb fun v => vUn v k))
        (ite1 (isBy x) (isBy y))) (eqR ra rb k) (sameV x y) : Bool) = true := hk
      cases e : sameV x y with
      | true =>
        rw [e] at hk2
        have e := sameV_eq e
        subst e
        simp only [RR] at hs ht
        obtain ⟨s1, s2, h1, h2, rfl⟩ := hs
        obtain ⟨t1, t2, g1, g2, rfl⟩ := ht
        have := h1.fn g1
        subst this
        rw [decide_eq_decide.2 (show (s1 ++ s2 = s1 ++ t2) ↔ s2 = t2 from ⟨fun e => List.append_cancel_left e, fun e => by rw [e]⟩)]
        exact ih hk2 h2 g2
      | false =>
        rw [e] at hk2
        cases e2 : ite1 (isBy x) (isBy y) with
        | false =>
          rw [e2] at hk2
          have hk3 : (Bool.rec (lensK (.cons x ra) (.cons y rb) (k (.b false)) (k (.b true)) (k unkB)) (k (.b false)) (ior (ior (clashB x y) (clashB y x)) (neR x ra y rb)) : Bool) = true := hk2
          cases e3 : ior (ior (clashB x y) (clashB y x)) (neR x ra y rb) with
          | false => rw [e3] at hk3; exact fin hk3 hs ht
          | true =>
            rw [e3] at hk3
            simp only [RR] at hs ht
            obtain ⟨s1, s2, h1, h2, rfl⟩ := hs
            obtain ⟨t1, t2, g1, g2, rfl⟩ := ht
            rw [ior_eq, Bool.or_eq_true, ior_eq, Bool.or_eq_true] at e3
            refine ⟨_, hk3, ?_⟩
            rw [decide_eq_false]
            · exact VRb _ _
            · intro e4
              rcases e3 with (e3 | e3) | e3
              · obtain ⟨c, d, r, rfl, rfl, hne⟩ := clashB_spec e3 h1 g1
                simp only [List.cons_append, List.nil_append, List.cons.injEq] at e4
                exact hne e4.1
              · obtain ⟨c, d, r, rfl, rfl, hne⟩ := clashB_spec e3 g1 h1
                simp only [List.cons_append, List.nil_append, List.cons.injEq] at e4
                exact hne e4.1.symm
              · obtain ⟨n1, e5⟩ := ite1_spec (show ite1 (isNilV ra) (ite1 (isNilV rb) (ior (neP x y) (neP y x))) = true from e3)
                obtain ⟨n2, e6⟩ := ite1_spec e5
                have n1 := isNilV_spec n1
                have n2 := isNilV_spec n2
                subst n1
                subst n2
                simp only [RR] at h2 g2
                subst h2
                subst g2
                rw [List.append_nil, List.append_nil] at e4
                rw [ior_eq, Bool.or_eq_true] at e6
                rcases e6 with e6 | e6
                · exact neP_spec e6 h1 g1 e4
                · exact neP_spec e6 g1 h1 e4.symm
        | true =>
          rw [e2] at hk2
          obtain ⟨bx, by_⟩ := ite1_spec e2
          simp only [RR] at hs ht
          obtain ⟨s1, s2, h1, h2, rfl⟩ := hs
          obtain ⟨t1, t2, g1, g2, rfl⟩ := ht
          obtain ⟨c, rfl, hc⟩ := by_PR bx h1
          obtain ⟨d, rfl, hd⟩ := by_PR by_ g1
          obtain ⟨kd, l1, h1', i1, hk3, hr1⟩ := rngK_spec (v := x) (show (rngK x fun _ l1 h1 i1 => rngK y fun _ l2 h2 i2 => tri l1 h1 i1 l2 h2 i2 (k (.b false)) (eqR ra rb k) (eqR ra rb fun v => vUn v k)) = true from hk2)
          obtain ⟨kd2, l2, h2', i2, hk4, hr2⟩ := rngK_spec (v := y) hk3
          obtain ⟨n1, e1, b1⟩ := hr1 ρ _ hc
          obtain ⟨n2, e2', b2⟩ := hr2 ρ _ hd
          simp only [byteV, Value.int.injEq] at e1 e2'
          have e1' : c.toNat = n1 := by omega
          have e2'' : d.toNat = n2 := by omega
          have key : ([c] ++ s2 = [d] ++ t2) ↔ (c = d ∧ s2 = t2) := by simp
          rcases tri_spec hk4 b1 b2 with ⟨hne, g⟩ | ⟨he, g⟩ | g
          · rw [decide_eq_false (fun h => by have := (key.1 h).1; subst this; omega)]
            exact ⟨_, g, VRb _ _⟩
          · have hcd : c = d := UInt8.toNat_inj.mp (by omega)
            subst hcd
            rw [decide_eq_decide.2 (show ([c] ++ s2 = [c] ++ t2) ↔ s2 = t2 by simp)]
            exact ih g h2 g2
          · obtain ⟨z, q1, q2⟩ := ih g h2 g2
            rcases vUn_spec q1 with ⟨rfl, q3⟩ | q3
            · simp only [VR, Value.bool.injEq] at q2
              have hne : ¬ s2 = t2 := of_decide_eq_false q2
              rw [decide_eq_false (fun h => hne (key.1 h).2)]
              exact ⟨_, q3, VRb _ _⟩
            · exact ⟨_, q3, VR_unk _ _⟩
    | _ => simp [RR] at ht
  | _ => intro b k hk ρ s t hs; simp [RR] at hs
theorem notV_spec {v : V} {K : V → Bool} {x : Value} (hk : notV v K = true) (hx : VR ρ v x) : ∃ y b, K y = true ∧ VR ρ y (.bool (!b)) ∧ x = .bool b := by
  cases v <;> first | exact Bool.noConfusion hk | skip
  case b b =>
    have hk2 : K (.b (inot b)) = true := hk
    rw [inot_eq] at hk2
    simp only [VR] at hx
    exact ⟨_, b, hk2, VRb _ _, hx⟩
  case o t l a lo hi =>
    obtain ⟨e, hk2⟩ := ite1_spec (show ite1 (Nat.beq t 5) (K unkB) = true from hk)
    have e := Nat.eq_of_beq_eq_true e
    replace hx := VR_OV hx (by omega)
    simp only [OV] at hx
    rcases hx with ⟨h1, _⟩ | ⟨h1, _⟩ | ⟨h1, _⟩ | ⟨_, b, h2, _⟩
    · omega
    · omega
    · omega
    · exact ⟨_, b, hk2, VR_unk _ _, h2⟩
theorem dropR_spec : ∀ {c : V} {j : Nat} {k : V → Bool}, dropR c j k = true → isC c → ∃ r, k r = true ∧ isC r ∧ ∀ ρ s, RR ρ c s → RR ρ r (s.drop j) ∧ j ≤ s.length := by
  intro c
  induction c with
  | nil =>
    intro j k hk _
    cases j with
    | zero => exact ⟨.nil, hk, trivial, fun ρ s hs => ⟨by simpa using hs, Nat.zero_le _⟩⟩
    | succ j => exact Bool.noConfusion hk
  | cons x l _ ih =>
    intro j k hk hc
    cases j with
    | zero => exact ⟨_, hk, hc, fun ρ s hs => ⟨by simpa using hs, Nat.zero_le _⟩⟩
    | succ j =>
      obtain ⟨e, hk2⟩ := ite1_spec (show ite1 (isBy x) (dropR l j k) = true from hk)
      obtain ⟨r, h1, h2, h3⟩ := ih hk2 hc
      refine ⟨r, h1, h2, fun ρ s hs => ?_⟩
      simp only [RR] at hs
      obtain ⟨s1, s2, g1, g2, rfl⟩ := hs
      obtain ⟨c, rfl, _⟩ := by_PR e g1
      obtain ⟨q1, q2⟩ := h3 ρ s2 g2
      exact ⟨by simpa using q1, by simp; omega⟩
  | _ => intro j k hk hc; exact absurd hc (by simp [isC])
theorem takeR_spec : ∀ {c : V} {j : Nat} {k : V → Bool}, takeR c j k = true → isC c → ∃ r, k r = true ∧ isC r ∧ ∀ ρ s, RR ρ c s → VRs ρ r ((s.take j).map byteV) ∧ j ≤ s.length := by
  intro c
  induction c with
  | nil =>
    intro j k hk _
    cases j with
    | zero => exact ⟨.nil, hk, trivial, fun ρ s hs => ⟨by simp [VRs], Nat.zero_le _⟩⟩
    | succ j => exact Bool.noConfusion hk
  | cons x l _ ih =>
    intro j k hk hc
    cases j with
    | zero => exact ⟨.nil, hk, trivial, fun ρ s hs => ⟨by simp [VRs], Nat.zero_le _⟩⟩
    | succ j =>
      obtain ⟨e, hk2⟩ := ite1_spec (show ite1 (isBy x) (takeR l j fun c => k (.cons x c)) = true from hk)
      obtain ⟨r, h1, h2, h3⟩ := ih (k := fun c => k (.cons x c)) hk2 hc
      refine ⟨_, h1, h2, fun ρ s hs => ?_⟩
      simp only [RR] at hs
      obtain ⟨s1, s2, g1, g2, rfl⟩ := hs
      obtain ⟨c, rfl, hv⟩ := by_PR e g1
      obtain ⟨q1, q2⟩ := h3 ρ s2 g2
      refine ⟨?_, by simp; omega⟩
      simp only [List.cons_append, List.nil_append, List.take_succ_cons, List.map_cons, VRs]
      exact ⟨_, _, rfl, hv, q1⟩
  | _ => intro j k hk hc; exact absurd hc (by simp [isC])
theorem atMost_spec {c : V} {m : Nat} {k : V → Bool} (hk : atMost c m k = true) : ∃ l, k l = true ∧ ∀ ρ s, RR ρ c s → LR ρ l (s.length : Int) ∧ s.length ≤ m := by
  obtain ⟨l, hk2, _, hl⟩ := lenR_spec (show lenR c (fun l => rgK l fun _ hi => ite1 (ile hi (Int.ofNat m)) (k l)) = true from hk)
  obtain ⟨lo, hi, hk3, hr⟩ := rgK_spec hk2
  obtain ⟨e, hk4⟩ := ite1_spec hk3
  have e := ile_spec e
  refine ⟨l, hk4, fun ρ s hs => ⟨hl ρ s hs, ?_⟩⟩
  have := hr ρ _ (hl ρ s hs)
  have z : Int.ofNat m = (m : Int) := rfl
  omega
theorem vBf_spec {v : V} {k : Bool → Bool} {x : Value} (hk : vBf v k = true) (hx : VR ρ v x) : ∃ q, x = .bool q ∧ k q = true := by
  cases v <;> first | exact Bool.noConfusion hk | skip
  case b b => simp only [VR] at hx; exact ⟨b, hx, hk⟩
  case o t l a lo hi =>
    obtain ⟨e, hk2⟩ := ite1_spec (show ite1 (Nat.beq t 5) (ite1 (k true) (k false)) = true from hk)
    have e := Nat.eq_of_beq_eq_true e
    obtain ⟨h1, h2⟩ := ite1_spec hk2
    replace hx := VR_OV hx (by omega)
    simp only [OV] at hx
    rcases hx with ⟨h1, _⟩ | ⟨h1, _⟩ | ⟨h1, _⟩ | ⟨_, b, rfl, _⟩
    · omega
    · omega
    · omega
    · cases b
      · exact ⟨_, rfl, h2⟩
      · exact ⟨_, rfl, h1⟩
theorem splS_spec : ∀ {S : V} {K : Nat → V → Bool}, splS S K = true → isC S → ∃ n l, K n l = true ∧ isC l ∧ ∀ ρ v, LR ρ S v → ∃ u, LR ρ l u ∧ v = n + u := by
  intro S
  induction S with
  | nil => intro K hk _; exact ⟨0, .nil, hk, trivial, fun ρ v hv => ⟨v, hv, by simp⟩⟩
  | cons y r _ ih =>
    intro K hk hc
    obtain ⟨x, c, hk2, hy⟩ := tmK_spec (show tmK y (fun x c => Bool.rec (splS r fun n l => K n (.cons y l)) (Int.rec (motive := fun _ => Bool) (fun m => splS r fun n l => forceN (Nat.add n m) fun n => K n l) (fun _ => false) c) (sameV x oneV)) = true from hk)
    cases e : sameV x oneV with
    | false =>
      rw [e] at hk2
      obtain ⟨n, l, h1, h2, h3⟩ := ih (K := fun n l => K n (.cons y l)) hk2 hc
      refine ⟨n, _, h1, h2, fun ρ v hv => ?_⟩
      simp only [LR] at hv ⊢
      obtain ⟨a, b, g1, g2, rfl⟩ := hv
      obtain ⟨u, q1, rfl⟩ := h3 ρ b g2
      exact ⟨a + u, ⟨a, u, g1, q1, rfl⟩, by omega⟩
    | true =>
      rw [e] at hk2
      have e := sameV_eq e
      subst e
      cases c with
      | negSucc m => exact Bool.noConfusion hk2
      | ofNat m =>
        obtain ⟨n, l, h1, h2, h3⟩ := ih (K := fun n l => forceN (Nat.add n m) fun n => K n l) hk2 hc
        rw [forceN_eq] at h1
        refine ⟨_, _, h1, h2, fun ρ v hv => ?_⟩
        simp only [LR] at hv
        obtain ⟨a, b, g1, g2, rfl⟩ := hv
        obtain ⟨u, q1, rfl⟩ := h3 ρ b g2
        obtain ⟨mm, g3, g4⟩ := hy ρ a g1
        have := g3.fn (MR_one ρ)
        subst this
        refine ⟨u, q1, ?_⟩
        have z : Int.ofNat m * 1 = (m : Int) := Int.mul_one _
        have z2 : ((Nat.add n m : Nat) : Int) = (n : Int) + m := Int.natCast_add n m
        rw [g4, z, z2]
        omega
  | _ => intro K _ hc; exact absurd hc (by simp [isC])
theorem remL_spec {y : V} : ∀ {l : V} {K : V → Bool} {d : Bool}, remL y l K d = true → isC l → d = true ∨ ∃ r, K r = true ∧ isC r ∧ ∀ ρ n m, LR ρ l n → MR ρ y m → LR ρ r (n - m) := by
  intro l
  induction l with
  | nil => intro K d hk _; exact .inl hk
  | cons z r _ ih =>
    intro K d hk hc
    obtain ⟨x, c, hk2, hz⟩ := tmK_spec (show tmK z (fun x c => Bool.rec (remL y r (fun r' => K (.cons z r')) d) (Int.rec (motive := fun _ => Bool) (fun m => Nat.rec (motive := fun _ => Bool) d (fun m' _ => Nat.rec (motive := fun _ => Bool) (K r) (fun _ _ => K (.cons (mkT x (Int.ofNat m')) r)) m') m) (fun _ => d) c) (sameV x y)) = true from hk)
    cases e : sameV x y with
    | false =>
      rw [e] at hk2
      rcases ih (K := fun r' => K (.cons z r')) hk2 hc with h | ⟨r', h1, h2, h3⟩
      · exact .inl h
      · refine .inr ⟨_, h1, h2, fun ρ n m hn hm => ?_⟩
        simp only [LR] at hn ⊢
        obtain ⟨a, b, g1, g2, rfl⟩ := hn
        exact ⟨a, b - m, g1, h3 ρ b m g2 hm, by omega⟩
    | true =>
      rw [e] at hk2
      have e := sameV_eq e
      subst e
      cases c with
      | negSucc m => exact .inl hk2
      | ofNat m =>
        cases m with
        | zero => exact .inl hk2
        | succ m' =>
          have hk3 : (Nat.rec (motive := fun _ => Bool) (K r) (fun _ _ => K (.cons (mkT x (Int.ofNat m')) r)) m' : Bool) = true := hk2
          cases m' with
          | zero =>
            refine .inr ⟨_, hk3, hc, fun ρ n m hn hm => ?_⟩
            simp only [LR] at hn
            obtain ⟨a, b, g1, g2, rfl⟩ := hn
            obtain ⟨mm, g3, g4⟩ := hz ρ a g1
            have := g3.fn hm
            subst this
            have z : Int.ofNat (0 + 1) * mm = mm := Int.one_mul _
            have e2 : a + b - mm = b := by rw [g4, z]; omega
            rw [e2]
            exact g2
          | succ k =>
            refine .inr ⟨_, hk3, hc, fun ρ n m hn hm => ?_⟩
            simp only [LR] at hn ⊢
            obtain ⟨a, b, g1, g2, rfl⟩ := hn
            obtain ⟨mm, g3, g4⟩ := hz ρ a g1
            have := g3.fn hm
            subst this
            refine ⟨_, b, mkT_spec g3, g2, ?_⟩
            have z : Int.ofNat (k + 1 + 1) * mm = Int.ofNat (k + 1) * mm + mm := by
              show ((k + 1 + 1 : Nat) : Int) * mm = ((k + 1 : Nat) : Int) * mm + mm
              rw [Int.natCast_add (k + 1) 1, Int.add_mul]
              simp
            rw [g4, z]
            omega
  | _ => intro K d _ hc; exact absurd hc (by simp [isC])
theorem PR_MR {y : V} {s : List UInt8} (hb : isBy y = false) (hs : PR ρ y s) : MR ρ y (s.length : Int) := by
  cases y <;> first | exact Bool.noConfusion hb | (simp only [PR] at hs; done) | skip
  case o t l' a lo hi =>
    simp only [PR] at hs
    simp only [MR]
    rcases hs with ⟨e, L, g1, g2, g3, g4, _⟩ | ⟨e, g1, g2, m, g3, rfl⟩
    · exact .inl ⟨e, L, s, g1, g2, g3, g4, rfl⟩
    · exact .inr (.inl ⟨e, m, g3, g1, g2, rfl⟩)
theorem LR_nil {n : Int} (h : LR ρ .nil n) : n = 0 := by simpa only [LR] using h
theorem dropL_spec : ∀ {c : V} {n : Nat} {l : V} {K : V → Bool} {d : Bool}, dropL c n l K d = true → isC c → isC l →
    d = true ∨ ∃ r, K r = true ∧ isC r ∧ ∀ ρ s v, RR ρ c s → LR ρ l v → ∃ j : Nat, (n : Int) + v = j ∧ j ≤ s.length ∧ RR ρ r (s.drop j) := by
  intro c
  induction c with
  | nil =>
    intro n l K d hk _ hl
    cases n with
    | zero =>
      cases l <;> first | (simp only [isC] at hl; done) | skip
      case nil => exact .inr ⟨.nil, hk, trivial, fun ρ s v hs hv => ⟨0, by rw [LR_nil hv]; rfl, Nat.zero_le _, by simpa using hs⟩⟩
      case cons a b => exact .inl hk
    | succ n => exact .inl hk
  | cons y r _ ih =>
    intro n l K d hk hc hl
    have take : ∀ n, remL y l (fun l' => dropL r n l' K d) d = true → isBy y = false → d = true ∨ ∃ r', K r' = true ∧ isC r' ∧ ∀ ρ s v, RR ρ (.cons y r) s → LR ρ l v → ∃ j : Nat, (n : Int) + v = j ∧ j ≤ s.length ∧ RR ρ r' (s.drop j) := fun n hk hb => by
      rcases remL_spec hk hl with h | ⟨l', h1, h2, h3⟩
      · exact .inl h
      · rcases ih h1 hc h2 with h | ⟨r', g1, g2, g3⟩
        · exact .inl h
        · refine .inr ⟨r', g1, g2, fun ρ s v hs hv => ?_⟩
          simp only [RR] at hs
          obtain ⟨s1, s2, q1, q2, rfl⟩ := hs
          obtain ⟨j, e1, e2, e3⟩ := g3 ρ s2 _ q2 (h3 ρ v _ hv (PR_MR hb q1))
          refine ⟨s1.length + j, by omega, by simp; omega, ?_⟩
          rw [List.drop_append, List.drop_eq_nil_of_le (by omega), List.nil_append, Nat.add_sub_cancel_left]
          exact e3
    have hk : (Bool.rec
        (Nat.rec (motive := fun _ => Bool) (chain (K (.cons y r)) (fun _ _ _ => remL y l (fun l' => dropL r n l' K d) d) l) (fun _ _ => remL y l (fun l' => dropL r n l' K d) d) n)
        (Nat.rec (motive := fun _ => Bool) (chain (K (.cons y r)) (fun _ _ _ => d) l) (fun n' _ => dropL r n' l K d) n) (isBy y) : Bool) = true := hk
    have here : l = .nil → n = 0 → K (.cons y r) = true → d = true ∨ ∃ r', K r' = true ∧ isC r' ∧ ∀ ρ s v, RR ρ (.cons y r) s → LR ρ l v → ∃ j : Nat, (n : Int) + v = j ∧ j ≤ s.length ∧ RR ρ r' (s.drop j) := fun el en hk5 => by
      subst el
      subst en
      exact .inr ⟨_, hk5, hc, fun ρ s v hs hv => ⟨0, by rw [LR_nil hv]; rfl, Nat.zero_le _, by simpa using hs⟩⟩
    cases hb : isBy y with
    | false =>
      rw [hb] at hk
      cases n with
      | zero =>
        cases l <;> first | (simp only [isC] at hl; done) | skip
        case nil => exact here rfl rfl hk
        case cons a b => exact take 0 hk hb
      | succ n => exact take (n + 1) hk hb
    | true =>
      rw [hb] at hk
      cases n with
      | zero =>
        cases l <;> first | (simp only [isC] at hl; done) | skip
        case nil => exact here rfl rfl hk
        case cons a b => exact .inl hk
      | succ n =>
        rcases ih (show dropL r n l K d = true from hk) hc hl with h | ⟨r', g1, g2, g3⟩
        · exact .inl h
        · refine .inr ⟨r', g1, g2, fun ρ s v hs hv => ?_⟩
          simp only [RR] at hs
          obtain ⟨s1, s2, q1, q2, rfl⟩ := hs
          obtain ⟨c, rfl, _⟩ := by_PR hb q1
          obtain ⟨j, e1, e2, e3⟩ := g3 ρ s2 v q2 hv
          exact ⟨j + 1, by omega, by simp; omega, by simpa using e3⟩
  | _ => intro n l K d _ hc; exact absurd hc (by simp [isC])
theorem takeL_spec : ∀ {c : V} {n : Nat} {l : V} {K : V → Bool}, takeL c n l K = true → isC c → isC l →
    ∃ r, K r = true ∧ isC r ∧ ∀ ρ s v, RR ρ c s → LR ρ l v → ∃ j : Nat, (n : Int) + v = j ∧ j ≤ s.length ∧ RR ρ r (s.take j) := by
  intro c
  induction c with
  | nil =>
    intro n l K hk _ hl
    cases n with
    | zero =>
      cases l <;> first | (simp only [isC] at hl; done) | skip
      case nil => exact ⟨.nil, hk, trivial, fun ρ s v hs hv => ⟨0, by rw [LR_nil hv]; rfl, Nat.zero_le _, by simp [RR]⟩⟩
      case cons a b => exact Bool.noConfusion hk
    | succ n => exact Bool.noConfusion hk
  | cons y r _ ih =>
    intro n l K hk hc hl
    have take : ∀ n, remL y l (fun l' => takeL r n l' fun c => K (.cons y c)) false = true → isBy y = false → ∃ r', K r' = true ∧ isC r' ∧ ∀ ρ s v, RR ρ (.cons y r) s → LR ρ l v → ∃ j : Nat, (n : Int) + v = j ∧ j ≤ s.length ∧ RR ρ r' (s.take j) := fun n hk hb => by
      rcases remL_spec hk hl with h | ⟨l', h1, h2, h3⟩
      · exact Bool.noConfusion h
      · obtain ⟨r', g1, g2, g3⟩ := ih (K := fun c => K (.cons y c)) h1 hc h2
        refine ⟨_, g1, g2, fun ρ s v hs hv => ?_⟩
        simp only [RR] at hs
        obtain ⟨s1, s2, q1, q2, rfl⟩ := hs
        obtain ⟨j, e1, e2, e3⟩ := g3 ρ s2 _ q2 (h3 ρ v _ hv (PR_MR hb q1))
        refine ⟨s1.length + j, by omega, by simp; omega, ?_⟩
        rw [List.take_append, List.take_of_length_le (by omega), Nat.add_sub_cancel_left]
        simp only [RR]
        exact ⟨s1, _, q1, e3, rfl⟩
    have hk : (Bool.rec
        (Nat.rec (motive := fun _ => Bool) (chain (K .nil) (fun _ _ _ => remL y l (fun l' => takeL r n l' fun c => K (.cons y c)) false) l) (fun _ _ => remL y l (fun l' => takeL r n l' fun c => K (.cons y c)) false) n)
        (Nat.rec (motive := fun _ => Bool) (chain (K .nil) (fun _ _ _ => false) l) (fun n' _ => takeL r n' l fun c => K (.cons y c)) n) (isBy y) : Bool) = true := hk
    have here : l = .nil → n = 0 → K .nil = true → ∃ r', K r' = true ∧ isC r' ∧ ∀ ρ s v, RR ρ (.cons y r) s → LR ρ l v → ∃ j : Nat, (n : Int) + v = j ∧ j ≤ s.length ∧ RR ρ r' (s.take j) := fun el en hk5 => by
      subst el
      subst en
      exact ⟨_, hk5, trivial, fun ρ s v _ hv => ⟨0, by rw [LR_nil hv]; rfl, Nat.zero_le _, by simp [RR]⟩⟩
    cases hb : isBy y with
    | false =>
      rw [hb] at hk
      cases n with
      | zero =>
        cases l <;> first | (simp only [isC] at hl; done) | skip
        case nil => exact here rfl rfl hk
        case cons a b => exact take 0 hk hb
      | succ n => exact take (n + 1) hk hb
    | true =>
      rw [hb] at hk
      cases n with
      | zero =>
        cases l <;> first | (simp only [isC] at hl; done) | skip
        case nil => exact here rfl rfl hk
        case cons a b => exact Bool.noConfusion hk
      | succ n =>
        obtain ⟨r', g1, g2, g3⟩ := ih (K := fun c => K (.cons y c)) (show takeL r n l (fun c => K (.cons y c)) = true from hk) hc hl
        refine ⟨_, g1, g2, fun ρ s v hs hv => ?_⟩
        simp only [RR] at hs
        obtain ⟨s1, s2, q1, q2, rfl⟩ := hs
        have q0 := q1
        obtain ⟨c, rfl, _⟩ := by_PR hb q1
        obtain ⟨j, e1, e2, e3⟩ := g3 ρ s2 v q2 hv
        refine ⟨j + 1, by omega, by simp; omega, ?_⟩
        simp only [RR, List.cons_append, List.nil_append, List.take_succ_cons]
        exact ⟨[c], _, q0, e3, rfl⟩
  | _ => intro n l K _ hc; exact absurd hc (by simp [isC])
end
end Go.Mx
