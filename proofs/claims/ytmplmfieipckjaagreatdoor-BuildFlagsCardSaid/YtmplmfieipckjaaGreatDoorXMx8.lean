/-
  A part of a small executor of the model, proved sound (Mx8 of 46). No condition.
-/
import Derived.Test.YtmplmfieipckjaaGreatDoorXMx7
namespace Go.Mx
open Instr
noncomputable section
variable {P : Program} {ρ : Ren} {h : T O} {nx : Nat} {w : World}
theorem map_ofNat_toNat (l : List UInt8) : (l.map UInt8.toNat).map UInt8.ofNat = l := by
  induction l with
  | nil => rfl
  | cons a l ih => simp [ih]
theorem bs_bytes (s : ByteArray) : bs (s.data.toList.map UInt8.toNat) = s := by
  unfold bs
  rw [map_ofNat_toNat]
theorem ofVal0_rel (ρ : Ren) (v : Value) : VR ρ (ofVal0 v) v := by
  unfold ofVal0
  split <;> simp [VR]
  · refine ⟨(bs_bytes _).symm, fun a _ => UInt8.toNat_lt a⟩
theorem ofList_rel (ρ : Ren) : ∀ l : List Value, VRs ρ (ofList l) l
  | [] => by simp [ofList, VRs]
  | v :: l => by simp only [ofList, VRs]; exact ⟨v, l, rfl, ofVal0_rel ρ v, ofList_rel ρ l⟩
theorem ofVal_rel (ρ : Ren) (v : Value) : VR ρ (ofVal v) v := by
  unfold ofVal
  split
  · rename_i cs
    simp only [VR]
    exact ⟨cs.toList, ofList_rel ρ _, rfl⟩
  · rename_i cs
    simp only [VR]
    exact ⟨cs.toList, ofList_rel ρ _, rfl⟩
  · exact ofVal0_rel ρ _
theorem zeroC_spec {t : TypeId} {c : V} (h : zeroC P t = some c) : ∃ v, (∀ w, (zeroValue t).run P w = .ok v w) ∧ ∀ ρ, VRs ρ c v.cells.toList := by
  unfold zeroC at h
  cases hi : P.info? t with
  | none => rw [hi] at h; simp at h
  | some i =>
    rw [hi] at h
    cases hz : i.zero with
    | none => simp [hz] at h
    | some v =>
      simp only [Option.bind_some, hz, Option.map_some, Option.some.injEq] at h
      refine ⟨v, fun w => by simp [zeroValue, run_info hi, hz], fun ρ => ?_⟩
      subst h
      split
      · simpa [Value.cells] using ofList_rel ρ _
      · rename_i x hx
        have : v.cells = #[v] := by cases v <;> first | rfl | exact (hx _ rfl).elim
        rw [this]
        simp only [VRs]
        exact ⟨_, _, rfl, ofVal0_rel ρ _, rfl⟩
theorem zeroV_spec {t : TypeId} {c : V} (h : zeroV P t = some c) : ∃ v, (∀ w, (zeroValue t).run P w = .ok v w) ∧ ∀ ρ, VR ρ c v := by
  unfold zeroV at h
  cases hi : P.info? t with
  | none => rw [hi] at h; simp at h
  | some i =>
    rw [hi] at h
    cases hz : i.zero with
    | none => simp [hz] at h
    | some v =>
      simp only [Option.bind_some, hz, Option.map_some, Option.some.injEq] at h
      exact ⟨v, fun w => by simp [zeroValue, run_info hi, hz], fun ρ => by rw [← h]; exact ofVal_rel ρ v⟩
theorem newK_sound {c : V} {ty : TypeId} {K : Nat → T O → Nat → Bool} {vs : List Value} (hk : newK c ty h nx K = true) (s : St ρ h nx w) (hc : CR ρ c vs) :
    ∃ h' w', K nx h' (nx + 1) = true ∧ w' = w.alloc (.cells ⟨vs⟩ ty) ∧ St (upd ρ nx ⟨w.heap.size, 0, vs.length⟩) h' (nx + 1) w' ∧ Ext ρ h w (upd ρ nx ⟨w.heap.size, 0, vs.length⟩) h' w' := by
  unfold newK at hk
  rw [stK_eq] at hk
  refine ⟨_, _, hk, rfl, ?_⟩
  exact s.alloc (o := .c c ty true) (ob := .cells ⟨vs⟩ ty) (n := vs.length)
    ⟨⟨vs⟩, (0, 0), rfl, by simp, by intro q _; simp, Nat.zero_le _, by simpa using hc.mono (upd_le (s.fresh nx (Nat.le_refl _)))⟩
theorem newV_sound {c : V} {ty : TypeId} {K : Nat → T O → Nat → Bool} {vs : List Value} (hk : newV c ty h nx K = true) (s : St ρ h nx w) (hc : VRs ρ c vs) :
    ∃ h' w', K nx h' (nx + 1) = true ∧ w' = w.alloc (.cells ⟨vs⟩ ty) ∧ St (upd ρ nx ⟨w.heap.size, 0, vs.length⟩) h' (nx + 1) w' ∧ Ext ρ h w (upd ρ nx ⟨w.heap.size, 0, vs.length⟩) h' w' := by
  unfold newV at hk
  rw [stK_eq] at hk
  refine ⟨_, _, hk, rfl, ?_⟩
  exact s.alloc (o := .v c ty) (ob := .cells ⟨vs⟩ ty) (n := vs.length)
    ⟨vs, rfl, rfl, rfl, hc.mono (upd_le (s.fresh nx (Nat.le_refl _)))⟩
theorem newVar_run (t : TypeId) (v : Value) (w : World) : (newVar t v).run P w = .ok ⟨w.heap.size, 0, none⟩ (w.alloc (.cells v.cells t)) := by
  simp [newVar, newRow]
theorem opAlloc_sound {t : TypeId} {K : KV} (hk : opAlloc P t h nx K = true) (s : St ρ h nx w) :
    ∃ ρ' x h' nx' v w', K x h' nx' = true ∧ VR ρ' x v ∧ St ρ' h' nx' w' ∧ Ext ρ h w ρ' h' w' ∧ (Instr.alloc t true (.tuple #[])).run P w = .ok v w' := by
  unfold opAlloc at hk
  cases hz : zeroC P t with
  | none => rw [hz] at hk; exact Bool.noConfusion hk
  | some c =>
    rw [hz] at hk
    obtain ⟨v, hv, hc⟩ := zeroC_spec hz
    obtain ⟨h', w', h1, rfl, h3, h4⟩ := newV_sound (K := fun id h' nx' => K (.p id 0) h' nx') hk s (hc ρ)
    refine ⟨_, _, _, _, .pointer (some ⟨w.heap.size, 0, none⟩), _, h1, ?_, h3, h4, ?_⟩
    · simp only [VR]; exact ⟨_, upd_same _ _ _, rfl⟩
    · simp [Instr.alloc, hv, newVar_run]
theorem opBox_sound {t : TypeId} {x : V} {vx : Value} {K : KV} (hk : opBox t x h nx K = true) (s : St ρ h nx w) (hx : VR ρ x vx) :
    ∃ ρ' y h' nx' v w', K y h' nx' = true ∧ VR ρ' y v ∧ St ρ' h' nx' w' ∧ Ext ρ h w ρ' h' w' ∧ (Instr.box t vx).run P w = .ok v w' := by
  obtain ⟨c, hk, hc⟩ := cellsK_spec hk
  obtain ⟨h', w', h1, rfl, h3, h4⟩ := newV_sound (K := fun id h' nx' => K (.p id 0) h' nx') hk s (hc ρ _ hx)
  refine ⟨_, _, _, _, .pointer (some ⟨w.heap.size, 0, none⟩), _, h1, ?_, h3, h4, ?_⟩
  · simp only [VR]; exact ⟨_, upd_same _ _ _, rfl⟩
  · simp [Instr.box, newVar_run]
theorem fdO_spec {t : TypeId} {f o : Nat} (h : fdO P t f = o + 1) : ∃ fs x, P.underlying t = some (.struct fs) ∧ fs[f]? = some x ∧ x.offset = o ∧ fdT P t f = x.type ∧ ∀ w, ∃ n, n ≠ 0 ∧ (sizeOf x.type).run P w = .ok n w := by
  unfold fdO at h
  split at h
  · rename_i fs hu
    split at h
    · rename_i x hx
      split at h
      · simp at h
      · rename_i hz
        refine ⟨fs, x, hu, hx, by simpa using h, by simp [fdT, hu, hx], fun w => ?_⟩
        obtain ⟨n, hn⟩ : ∃ n, szk P x.type = n + 1 + 1 := ⟨szk P x.type - 2, by omega⟩
        obtain ⟨i, hi, hin⟩ := szk_spec hn
        exact ⟨n + 1, by omega, by rw [run_size hi, hin]⟩
    · simp at h
  · simp at h
theorem opFieldAddr_sound {t : TypeId} {x : V} {f : Nat} {K : V → Bool} {v : Value} (hk : opFieldAddr P t x f K = true) (hv : VR ρ x v) :
    ∃ y r, K y = true ∧ VR ρ y r ∧ (fieldAt t v f).run P w = .ok r w := by
  obtain ⟨id, off, rfl, hk2⟩ := vP_spec hk
  clear hk
  have hk := hk2
  clear hk2
  generalize ho : fdO P t f = o at hk
  cases o with
  | zero => exact Bool.noConfusion hk
  | succ o =>
    obtain ⟨fs, fd, hu, hf, hoff, _, hs⟩ := fdO_spec ho
    simp only [VR] at hv
    obtain ⟨L, hL, rfl⟩ := hv
    obtain ⟨n, hn, hs⟩ := hs w
    refine ⟨_, .pointer (some ⟨L.blk, L.base + (off + o), none⟩), hk, ?_, ?_⟩
    · simp only [VR]; exact ⟨L, hL, rfl⟩
    · simp only [fieldAt, Sem.run_bind, run_und hu, Result.andThen_ok, hf, sureAddr, Sem.run_pure, fieldPlace, hs, hn, if_false, hoff]
      have : (⟨L.blk, L.base + off, none⟩ : Addr).add o = ⟨L.blk, L.base + (off + o), none⟩ := by
        unfold Addr.add
        split
        · rename_i h0; subst h0; rfl
        · simp [Nat.add_assoc]
      simp [this]
theorem part_spec {t : TypeId} {l : V} {off : Nat} {k : V → Bool} {vs : List Value} (hk : partK (ldk P t) l off k = true) (hl : VRs ρ l vs) :
    ∃ y r, k y = true ∧ VR ρ y r ∧ (part t ⟨vs⟩ off).run P w = .ok r w := by
  obtain ⟨y, hy, hp⟩ := partK_spec hk (VRs_isC hl)
  rcases hp with ⟨h1, hp⟩ | ⟨n, h1, hp⟩
  · obtain ⟨r, hr, hvr⟩ := hp ρ _ hl.CR'
    refine ⟨y, r, hy, hvr, ?_⟩
    simp only [part, Sem.run_bind, ldk_one h1, Result.andThen_ok, Bool.false_eq_true, if_false]
    have : (⟨vs⟩ : Array Value)[off]? = some r := by simpa using hr
    rw [this]; rfl
  · obtain ⟨h2, c, rfl, hvc⟩ := hp ρ _ hl.CR'
    obtain ⟨ha, hn⟩ := ldk_agg h1
    refine ⟨.a c, .agg ⟨(vs.drop off).take n⟩, hy, ⟨_, hvc, rfl⟩, ?_⟩
    simp only [part, Sem.run_bind, ha, Result.andThen_ok, if_true, hn, Sem.run_pure]
    congr 2
    apply Array.ext'
    simp [List.extract]
theorem opField_sound {t : TypeId} {x : V} {f : Nat} {K : V → Bool} {v : Value} (hk : opField P t x f K = true) (hv : VR ρ x v) :
    ∃ y r, K y = true ∧ VR ρ y r ∧ (Instr.field t v f).run P w = .ok r w := by
  obtain ⟨l, rfl, hk2⟩ := vA_spec hk
  clear hk
  have hk := hk2
  clear hk2
  generalize ho : fdO P t f = o at hk
  cases o with
  | zero => exact Bool.noConfusion hk
  | succ o =>
    obtain ⟨fs, fd, hu, hf, hoff, hft, _⟩ := fdO_spec ho
    simp only [VR] at hv
    obtain ⟨vs, hvs, rfl⟩ := hv
    rw [hft] at hk
    obtain ⟨y, r, h1, h2, h3⟩ := part_spec (w := w) (show partK (ldk P fd.type) l o K = true from hk) hvs
    refine ⟨y, r, h1, h2, ?_⟩
    simp only [Instr.field, Sem.run_bind, run_und hu, Result.andThen_ok, hf, asAgg, Sem.run_pure, hoff]
    exact h3
end
end Go.Mx
