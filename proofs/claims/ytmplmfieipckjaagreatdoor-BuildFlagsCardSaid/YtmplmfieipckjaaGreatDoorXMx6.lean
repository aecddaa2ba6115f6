/-
  A part of a small executor of the model, proved sound (Mx6 of 46). No condition.
-/
import Derived.Test.YtmplmfieipckjaaGreatDoorXMx4
namespace Go.Mx
noncomputable section
theorem ite1_spec {c k : Bool} (h : ite1 c k = true) : c = true ∧ k = true := by
  cases c
  · exact absurd h (by simp [ite1])
  · exact ⟨rfl, h⟩
theorem vB_spec {v : V} {k : Bool → Bool} (h : vB v k = true) : ∃ x, v = .b x ∧ k x = true := by cases v <;> first | (simp [vB] at h; done) | exact ⟨_, rfl, h⟩
theorem vI_spec {v : V} {k : IntKind → Int → Bool} (h : vI v k = true) : ∃ kd n, v = .i kd n ∧ k kd n = true := by cases v <;> first | (simp [vI] at h; done) | exact ⟨_, _, rfl, h⟩
theorem vS_spec {v : V} {k : List Nat → Bool} (h : vS v k = true) : ∃ l, v = .s l ∧ k l = true := by cases v <;> first | (simp [vS] at h; done) | exact ⟨_, rfl, h⟩
theorem vP_spec {v : V} {k : Nat → Nat → Bool} (h : vP v k = true) : ∃ id off, v = .p id off ∧ k id off = true := by cases v <;> first | (simp [vP] at h; done) | exact ⟨_, _, rfl, h⟩
theorem vA_spec {v : V} {k : V → Bool} (h : vA v k = true) : ∃ l, v = .a l ∧ k l = true := by cases v <;> first | (simp [vA] at h; done) | exact ⟨_, rfl, h⟩
theorem vT_spec {v : V} {k : V → Bool} (h : vT v k = true) : ∃ l, v = .t l ∧ k l = true := by cases v <;> first | (simp [vT] at h; done) | exact ⟨_, rfl, h⟩
theorem vF_spec {v : V} {k : Nat → V → Bool} (h : vF v k = true) : ∃ g c, v = .f g c ∧ k g c = true := by cases v <;> first | (simp [vF] at h; done) | exact ⟨_, _, rfl, h⟩
theorem vM_spec {v : V} {k : Nat → Bool} (h : vM v k = true) : ∃ id, v = .m id ∧ k id = true := by cases v <;> first | (simp [vM] at h; done) | exact ⟨_, rfl, h⟩
theorem vN_spec {v : V} {k : Nat → Bool} (h : vN v k = true) : ∃ kd n, v = .i kd (Int.ofNat n) ∧ k n = true := by
  obtain ⟨kd, n, rfl, h⟩ := vI_spec h
  cases n with
  | ofNat n => exact ⟨kd, n, rfl, h⟩
  | negSucc n => exact Bool.noConfusion h
theorem cellsK_spec {v : V} {k : V → Bool} (h : cellsK v k = true) : ∃ c, k c = true ∧ ∀ ρ x, VR ρ v x → VRs ρ c x.cells.toList := by
  cases v with
  | nil => simp [cellsK] at h
  | cons x l => simp [cellsK] at h
  | t l => simp [cellsK] at h
  | a l =>
    refine ⟨l, h, fun ρ x hx => ?_⟩
    simp only [VR] at hx
    obtain ⟨vs, h1, rfl⟩ := hx
    simpa [Value.cells] using h1
  | b y => exact ⟨_, h, fun ρ x hx => by simp only [VR] at hx; subst hx; simp [Value.cells, VRs, VR]⟩
  | i kd n => exact ⟨_, h, fun ρ x hx => by simp only [VR] at hx; subst hx; simp [Value.cells, VRs, VR]⟩
  | s l => exact ⟨_, h, fun ρ x hx => by simp only [VR] at hx; obtain ⟨rfl, h2⟩ := hx; simpa [Value.cells, VRs, VR] using h2⟩
  | p id off => exact ⟨_, h, fun ρ x hx => by simp only [VR] at hx; obtain ⟨L, h1, rfl⟩ := hx; simp only [Value.cells, VRs, VR]; exact ⟨_, _, rfl, ⟨L, h1, rfl⟩, rfl⟩⟩
  | pn => exact ⟨_, h, fun ρ x hx => by simp only [VR] at hx; subst hx; simp [Value.cells, VRs, VR]⟩
  | sl id off len sz => exact ⟨_, h, fun ρ x hx => by have hx' := hx; simp only [VR] at hx; obtain ⟨L, c, h1, h2, h3, rfl⟩ := hx; exact ⟨_, _, rfl, hx', rfl⟩⟩
  | sn => exact ⟨_, h, fun ρ x hx => by simp only [VR] at hx; subst hx; simp [Value.cells, VRs, VR]⟩
  | se => exact ⟨_, h, fun ρ x hx => by have hx' := hx; simp only [VR] at hx; obtain ⟨A, c, rfl⟩ := hx; exact ⟨_, _, rfl, hx', rfl⟩⟩
  | s0 => exact ⟨_, h, fun ρ x hx => by have hx' := hx; simp only [VR] at hx; obtain ⟨A, rfl⟩ := hx; exact ⟨_, _, rfl, hx', rfl⟩⟩
  | m id => exact ⟨_, h, fun ρ x hx => by have hx' := hx; simp only [VR] at hx; obtain ⟨L, h1, rfl⟩ := hx; exact ⟨_, _, rfl, hx', rfl⟩⟩
  | mn => exact ⟨_, h, fun ρ x hx => by simp only [VR] at hx; subst hx; simp [Value.cells, VRs, VR]⟩
  | f g c => exact ⟨_, h, fun ρ x hx => by have hx' := hx; simp only [VR] at hx; obtain ⟨vs, h1, rfl⟩ := hx; exact ⟨_, _, rfl, hx', rfl⟩⟩
  | fn => exact ⟨_, h, fun ρ x hx => by simp only [VR] at hx; subst hx; simp [Value.cells, VRs, VR]⟩
  | e t y => exact ⟨_, h, fun ρ x hx => by have hx' := hx; simp only [VR] at hx; obtain ⟨z, h1, rfl⟩ := hx; exact ⟨_, _, rfl, hx', rfl⟩⟩
  | en => exact ⟨_, h, fun ρ x hx => by simp only [VR] at hx; subst hx; simp [Value.cells, VRs, VR]⟩
theorem oC_spec {o : O} {k : V → Nat → Bool → Bool} (h : oC o k = true) : ∃ l ty wr, asC o = .c l ty wr ∧ k l ty wr = true := by cases o <;> first | (simp [oC] at h; done) | exact ⟨_, _, _, rfl, h⟩
theorem oW_spec {o : O} {kc : V → Nat → Bool → Bool} {kv : V → Nat → Bool} (h : oW o kc kv = true) : (∃ l ty wr, o = .c l ty wr ∧ kc l ty wr = true) ∨ ∃ l ty, o = .v l ty ∧ kv l ty = true := by
  cases o <;> first | (simp [oW] at h; done) | exact .inl ⟨_, _, _, rfl, h⟩ | exact .inr ⟨_, _, rfl, h⟩
theorem oV_spec {o : O} {k : V → Nat → Bool} (h : oV o k = true) : ∃ l ty, o = .v l ty ∧ k l ty = true := by cases o <;> first | (simp [oV] at h; done) | exact ⟨_, _, rfl, h⟩
theorem oI_spec {o : O} {k : V → Nat → List Nat → Nat → Bool} (h : oI o k = true) : ∃ m a b c, o = .mi m a b c ∧ k m a b c = true := by cases o <;> first | (simp [oI] at h; done) | exact ⟨_, _, _, _, rfl, h⟩
theorem St.relC {ρ : Ren} {h : T O} {nx : Nat} {w : World} (s : St ρ h nx w) {id : Nat} {L : Loc} {l : V} {ty : Nat} {wr : Bool} (ho : asC (gt O.none id h) = .c l ty wr) (hL : ρ id = some L) :
    ∃ o, w.heap[L.blk]? = some o ∧ OR ρ L (.c l ty wr) o := by
  obtain ⟨o, h1, h2⟩ := s.rel id L (asC_live ho) hL
  exact ⟨o, h1, ho ▸ h2.asC⟩
theorem oM_spec {o : O} {k : E → Nat → Bool} (h : oM o k = true) : ∃ es cl, o = .mp es cl ∧ k es cl = true := by cases o <;> first | (simp [oM] at h; done) | exact ⟨_, _, rfl, h⟩
theorem oS_spec {o : O} {k : List Nat → Nat → Bool} (h : oS o k = true) : ∃ l pos, o = .si l pos ∧ k l pos = true := by cases o <;> first | (simp [oS] at h; done) | exact ⟨_, _, rfl, h⟩
variable {P : Program}
theorem run_und {t : TypeId} {d : TypeDesc} (h : P.underlying t = some d) (w : World) : (underlying t).run P w = .ok d w := run_underlying h w
theorem run_info {t : TypeId} {i : TypeInfo} (h : P.info? t = some i) (w : World) : (typeInfo t).run P w = .ok i w := by simp [typeInfo, h]
theorem run_size {t : TypeId} {i : TypeInfo} (h : P.info? t = some i) (w : World) : (sizeOf t).run P w = .ok i.size w := by simp [sizeOf, run_info h]
theorem ldk_one {t : TypeId} (h : ldk P t = 1) : ∀ w, (isAgg t).run P w = .ok false w := by
  intro w
  unfold ldk at h
  unfold isAgg
  simp only [Sem.run_bind]
  cases hu : P.underlying t with
  | none => rw [hu] at h; simp at h
  | some d =>
    rw [run_und hu]
    rw [hu] at h
    cases hi : P.info? t with
    | none => rw [hi] at h; cases d <;> simp at h
    | some i =>
      rw [hi] at h
      cases d <;> first | (simp at h; done) | rfl
theorem ldk_agg {t : TypeId} {n : Nat} (h : ldk P t = n + 2) : (∀ w, (isAgg t).run P w = .ok true w) ∧ ∀ w, (sizeOf t).run P w = .ok n w := by
  unfold ldk at h
  cases hu : P.underlying t with
  | none => rw [hu] at h; simp at h
  | some d =>
    rw [hu] at h
    cases hi : P.info? t with
    | none => rw [hi] at h; cases d <;> simp at h
    | some i =>
      rw [hi] at h
      have key : (d matches .struct _) = true ∨ (d matches .array _ _) = true := by
        cases d <;> first | (simp at h; done) | (right; rfl) | (left; rfl)
      refine ⟨fun w => ?_, fun w => ?_⟩
      · unfold isAgg
        simp only [Sem.run_bind, run_und hu]
        cases d <;> first | rfl | (simp at key; done)
      · rw [run_size hi]
        cases d <;> simp at h <;> (try (simp [h]))
theorem szk_spec {t : TypeId} {n : Nat} (h : szk P t = n + 1) : ∃ i, P.info? t = some i ∧ i.size = n := by
  unfold szk at h
  cases hi : P.info? t with
  | none => rw [hi] at h; simp at h
  | some i => rw [hi] at h; exact ⟨i, rfl, by simpa using h⟩
theorem partK_spec {t : TypeId} {l : V} {off : Nat} {k : V → Bool} (h : partK (ldk P t) l off k = true) (hc : isC l) :
    ∃ x, k x = true ∧ ((ldk P t = 1 ∧ ∀ ρ vs, CR ρ l vs → ∃ v, vs[off]? = some v ∧ VR ρ x v) ∨
      (∃ n, ldk P t = n + 2 ∧ ∀ ρ vs, CR ρ l vs → off + n ≤ vs.length ∧ ∃ c, x = .a c ∧ VRs ρ c ((vs.drop off).take n))) := by
  generalize hn : ldk P t = n at h
  match n, h with
  | 0, h => simp [partK] at h
  | 1, h =>
    obtain ⟨x, h1, h2⟩ := nthK_spec (show nthK l off k = true from h)
    exact ⟨x, h1, .inl ⟨rfl, h2⟩⟩
  | n + 2, h =>
    obtain ⟨r, h1, hrc, h2⟩ := dropK_spec (show dropK l off (fun r => takeK r n fun c => k (.a c)) = true from h) hc
    obtain ⟨c, h3, h4⟩ := takeK_spec h1 hrc
    refine ⟨.a c, h3, .inr ⟨n, rfl, fun ρ vs hv => ?_⟩⟩
    obtain ⟨h5, h6⟩ := h2 ρ vs hv
    obtain ⟨h7, h8⟩ := h4 ρ _ h5
    simp at h8
    exact ⟨by omega, c, rfl, h7⟩
end
end Go.Mx
