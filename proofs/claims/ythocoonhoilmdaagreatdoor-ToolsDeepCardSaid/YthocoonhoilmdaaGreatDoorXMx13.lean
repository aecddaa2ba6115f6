/-
  A part of a small executor of the model, proved sound (6 of 28). No condition.
-/
import Derived.Test.YthocoonhoilmdaaGreatDoorXMx10
namespace Go.Mx
open Instr
noncomputable section
variable {P : Program} {ρ : Ren} {h : T O} {nx : Nat} {w : World}
theorem unV_sound {op : UnOp} {v : V} {va : Value} {K : V → Bool} (hk : unV op v K = true) (ha : VR ρ v va) : ∃ c r, K c = true ∧ VR ρ c r ∧ (Op.unary op va).run P w = .ok r w := by
  cases op
  case neg =>
    have hk : (Bool.rec (vI v fun k n => wrK k (Int.sub (Int.ofNat 0) n) fun m => K (.i k m)) (linK v fun kd l => addLK (Int.negSucc 0) l .nil fun l2 => mkW kd l2 K) (isO v) : Bool) = true := hk
    cases e0 : isO v with
    | true =>
      rw [e0] at hk
      obtain ⟨kd, l, hk2, hx⟩ := linK_spec (show linK v (fun kd l => addLK (Int.negSucc 0) l .nil fun l2 => mkW kd l2 K) = true from hk)
      obtain ⟨n, hn, rfl⟩ := hx ρ _ ha
      obtain ⟨d, hk3, _, hd⟩ := addLK_spec hk2 (show isC .nil from trivial)
      obtain ⟨y, hk4, hy⟩ := mkW_spec hk3
      have e := hd ρ 0 _ (by simp [LR]) hn
      rw [show (0 : Int) + Int.negSucc 0 * n = 0 - n from by rw [show Int.negSucc 0 = -1 from rfl]; omega] at e
      exact ⟨y, _, hk4, hy ρ _ e, by simp only [Op.unary, Op.intArith, Sem.run_pure]⟩
    | false =>
    rw [e0] at hk
    obtain ⟨k, n, rfl, hk2⟩ := vI_spec (show vI v (fun k n => wrK k (Int.sub (Int.ofNat 0) n) fun m => K (.i k m)) = true from hk)
    rw [wrK_eq] at hk2
    simp only [VR] at ha
    subst ha
    exact ⟨_, _, hk2, VRi _ _ _, by
      have e : (Int.sub (Int.ofNat 0) n) = 0 - n := rfl
      simp only [Op.unary, Op.intArith, e, Sem.run_pure]⟩
  case xor =>
    obtain ⟨k, n, rfl, hk2⟩ := vI_spec (show vI v (fun k n => bitK .xor k (Bool.rec k.max (-1) k.signed) n K) = true from hk)
    have e : forceI (bitsI .xor k (Bool.rec k.max (-1) k.signed) n) (fun n => K (.i k n)) = true := hk2
    rw [forceI_eq] at e
    simp only [VR] at ha
    subst ha
    refine ⟨_, _, e, VRi _ _ _, ?_⟩
    have : (if k.signed = true then (-1 : Int) else k.max) = Bool.rec k.max (-1) k.signed := by cases k.signed <;> rfl
    simp only [Op.unary, this]
    simp [Op.intBits, bitsI]
  case not =>
    obtain ⟨y, b, h1, h2, rfl⟩ := notV_spec (show notV v K = true from hk) ha
    exact ⟨_, _, h1, h2, rfl⟩
  case plus => exact Bool.noConfusion hk
theorem addr_add (b o n : Nat) : (⟨b, o, none⟩ : Addr).add n = ⟨b, o + n, none⟩ := Addr.add_lit b o n
theorem arr_spec {t : TypeId} {n sz : Nat} (h1 : Nat.blt n (arN P t) = true) (h2 : arE P t = sz + 1) : ∃ m e i, P.underlying t = some (.array m e) ∧ arN P t = m + 1 ∧ P.info? e = some i ∧ i.size = sz := by
  unfold arN at h1 ⊢
  unfold arE at h2
  cases hu : P.underlying t with
  | none => rw [hu] at h2; simp at h2
  | some d =>
    rw [hu] at h1 h2
    cases d <;> simp at h2
    case array m e =>
      obtain ⟨i, hi, hin⟩ := szk_spec h2
      exact ⟨m, e, i, rfl, rfl, hi, hin⟩
theorem opIndexAddr_sound {t : TypeId} {v ix : V} {va vi : Value} {K : V → Bool} (hk : opIndexAddr P t v ix K = true) (ha : VR ρ v va) (hi : VR ρ ix vi) :
    ∃ y r, K y = true ∧ VR ρ y r ∧ (indexAt t va vi).run P w = .ok r w := by
  obtain ⟨kd, j, rfl, hk2⟩ := vN_spec hk
  simp only [VR] at hi
  subst hi
  cases v <;> first | exact Bool.noConfusion hk2 | skip
  case sl id off len sz =>
    obtain ⟨e1, hk3⟩ := ite1_spec (show ite1 (Nat.beq (slE P t) (Nat.succ sz)) (ite1 (Nat.blt j len) <| K (.p id (Nat.add off (Nat.mul j sz)))) = true from hk2)
    obtain ⟨e2, hk4⟩ := ite1_spec hk3
    obtain ⟨i, hu, hinf, his⟩ := slE_spec (beq_spec e1)
    have hlt := Nat.blt_eq.mp e2
    simp only [VR] at ha
    obtain ⟨L, c, hL, hc1, hc2, rfl⟩ := ha
    refine ⟨_, .pointer (some ⟨L.blk, L.base + (off + j * sz), none⟩), hk4, by simp only [VR]; exact ⟨L, hL, rfl⟩, ?_⟩
    simp only [indexAt, asIntOf, Sem.run_bind, Sem.run_pure, Result.andThen_ok, run_und hu]
    have h1 : (0 : Int) ≤ (j : Int) := by omega
    have h2 : (j : Int) < (len : Int) := by omega
    simp only [h1, h2, and_self, if_true, Sem.run_bind, run_size hinf, his, Result.andThen_ok, Sem.run_pure, addr_add, Int.ofNat_eq_natCast, Int.toNat_natCast, Nat.add_assoc]
  case p id off =>
    obtain ⟨e2, hk3⟩ := ite1_spec (show ite1 (Nat.blt (Nat.succ j) (arN P t)) (Nat.rec (motive := fun _ => Bool) false (fun sz _ => K (.p id (Nat.add off (Nat.mul j sz)))) (arE P t)) = true from hk2)
    generalize hE : arE P t = E at hk3
    cases E with
    | zero => exact Bool.noConfusion hk3
    | succ sz =>
      obtain ⟨m, e, i, hu, hm, hinf, his⟩ := arr_spec e2 hE
      have hlt := Nat.blt_eq.mp e2
      rw [hm] at hlt
      simp only [VR] at ha
      obtain ⟨L, hL, rfl⟩ := ha
      refine ⟨_, .pointer (some ⟨L.blk, L.base + (off + j * sz), none⟩), hk3, by simp only [VR]; exact ⟨L, hL, rfl⟩, ?_⟩
      simp only [indexAt, asIntOf, Sem.run_bind, Sem.run_pure, Result.andThen_ok, run_und hu, sureAddr]
      have h1 : (0 : Int) ≤ (j : Int) := by omega
      have h2 : (j : Int) < (m : Int) := by omega
      simp only [h1, h2, and_self, if_true, Sem.run_bind, run_size hinf, his, Result.andThen_ok, Sem.run_pure, addr_add, Int.ofNat_eq_natCast, Int.toNat_natCast, Nat.add_assoc]
theorem index_run {t : TypeId} {b : ByteArray} {kd : IntKind} {j : Nat} {v : Value} (hu : P.underlying t = some .string) (h : (bytesV b)[j]? = some v) : (Instr.index t (.string b) (.int kd (j : Int))).run P w = .ok v w := by
  simp only [bytesV, List.getElem?_map, Option.map_eq_some_iff] at h
  obtain ⟨c, hc, rfl⟩ := h
  have hg := bs_get (b.data.toList.map UInt8.toNat) j c.toNat (by simp [hc])
  rw [bs_bytes] at hg
  have h0 : (0 : Int) ≤ (j : Int) := by omega
  simp only [Instr.index, asIntOf, Sem.run_bind, Sem.run_pure, Result.andThen_ok, run_und hu, h0, if_true, Int.toNat_natCast, hg]
  simp [byteV]
theorem rope_of {t : Nat} {l : V} {a lo hi : Nat} {v : Value} (e : t = 0) (hv : VR ρ (.o t l a lo hi) v) : ∃ b : ByteArray, v = .string b ∧ RR ρ l b.data.toList := by
  replace hv := VR_OV hv (by omega)
  simp only [OV] at hv
  rcases hv with ⟨_, b, h1, h2⟩ | ⟨h1, _⟩ | ⟨h1, _⟩ | ⟨h1, _⟩
  · exact ⟨b, h1, h2⟩
  · omega
  · omega
  · omega
theorem slice_of {t : Nat} {l : V} {a lo hi : Nat} {v : Value} (e : t = 3) (hv : VR ρ (.o t l a lo hi) v) : ∃ (L : Loc) (n cap : Nat), ρ a = some L ∧ LR ρ l (n : Int) ∧ n ≤ cap ∧ L.base + cap ≤ L.size ∧ v = .slice (some ⟨L.blk, L.base, none⟩) n cap := by
  replace hv := VR_OV hv (by omega)
  simp only [OV] at hv
  rcases hv with ⟨h1, _⟩ | ⟨h1, _⟩ | ⟨_, h2⟩ | ⟨h1, _⟩
  · omega
  · omega
  · exact h2
  · omega
theorem num_of {t : Nat} {l : V} {a lo hi : Nat} {v : Value} (e : t = 2) (hv : VR ρ (.o t l a lo hi) v) : ∃ n : Int, LR ρ l n ∧ v = .int (kOfN a) n := by
  replace hv := VR_OV hv (by omega)
  simp only [OV] at hv
  rcases hv with ⟨h1, _⟩ | ⟨_, n, h1, h2⟩ | ⟨h1, _⟩ | ⟨h1, _⟩
  · omega
  · exact ⟨n, h1, h2⟩
  · omega
  · omega
theorem VR_o3 {l : V} {id x y : Nat} {L : Loc} {n cap : Nat} (h1 : ρ id = some L) (h2 : LR ρ l (n : Int)) (h3 : n ≤ cap) (h4 : L.base + cap ≤ L.size) : VR ρ (.o 3 l id x y) (.slice (some ⟨L.blk, L.base, none⟩) n cap) := by
  simp only [VR, OV]
  exact .inl (.inr (.inr (.inl ⟨trivial, L, n, cap, h1, h2, h3, h4, rfl⟩)))
theorem opIndex0_sound {t : TypeId} {v ix : V} {va vi : Value} {K : V → Bool} (hk : opIndex0 P t v ix K = true) (ha : VR ρ v va) (hi : VR ρ ix vi) :
    ∃ y r, K y = true ∧ VR ρ y r ∧ (Instr.index t va vi).run P w = .ok r w := by
  obtain ⟨kd, j, rfl, hk2⟩ := vN_spec hk
  simp only [VR] at hi
  subst hi
  cases v <;> first | exact Bool.noConfusion hk2 | skip
  case s l =>
    obtain ⟨e1, hk3⟩ := ite1_spec (show ite1 (Nat.beq (tyk P t) 1) (snthK l j fun x => K (.i .u8 (Int.ofNat x))) = true from hk2)
    obtain ⟨x, hx, hk4⟩ := snthK_spec hk3
    have hu := (tyk_cases t).1 (beq_spec e1)
    simp only [VR] at ha
    obtain ⟨rfl, hl⟩ := ha
    have hx2 := hl x (List.mem_of_getElem? hx)
    refine ⟨_, _, hk4, VRi _ _ _, ?_⟩
    have hg := bs_get l j x hx
    have h0 : (0 : Int) ≤ (j : Int) := by omega
    simp only [Instr.index, asIntOf, Sem.run_bind, Sem.run_pure, Result.andThen_ok, run_und hu, h0, if_true, Int.ofNat_eq_natCast, Int.toNat_natCast, hg]
    simp [UInt8.toNat_ofNat', Nat.mod_eq_of_lt hx2]
  case a l =>
    obtain ⟨e2, hk3⟩ := ite1_spec (show ite1 (Nat.blt (Nat.succ j) (arN P t)) (Nat.rec (motive := fun _ => Bool) false (fun sz _ => partK (ldk P (arT P t)) l (Nat.mul j sz) K) (arE P t)) = true from hk2)
    generalize hE : arE P t = E at hk3
    cases E with
    | zero => exact Bool.noConfusion hk3
    | succ sz =>
      obtain ⟨m, e, i, hu, hm, hinf, his⟩ := arr_spec e2 hE
      have hlt := Nat.blt_eq.mp e2
      rw [hm] at hlt
      have hT : arT P t = e := by simp [arT, hu]
      simp only [VR] at ha
      obtain ⟨vs, hvs, rfl⟩ := ha
      have hk4 : partK (ldk P (arT P t)) l (Nat.mul j sz) K = true := hk3
      rw [hT] at hk4
      obtain ⟨y, r, g1, g2, g3⟩ := part_spec (w := w) hk4 hvs
      refine ⟨y, r, g1, g2, ?_⟩
      have h1 : (0 : Int) ≤ (j : Int) := by omega
      have h2 : (j : Int) < (m : Int) := by omega
      simp only [Instr.index, asIntOf, Sem.run_bind, Sem.run_pure, Result.andThen_ok, run_und hu, Int.ofNat_eq_natCast, h1, h2, and_self, if_true, run_size hinf, his, Int.toNat_natCast]
      exact g3
  case w l =>
    obtain ⟨e1, hk3⟩ := ite1_spec (show ite1 (Nat.beq (tyk P t) 1) (nthK l j K) = true from hk2)
    obtain ⟨x, hk4, hn⟩ := nthK_spec hk3
    simp only [VR] at ha
    obtain ⟨b, rfl, hb⟩ := ha
    obtain ⟨v, hv, hvr⟩ := hn ρ _ hb.CR'
    exact ⟨x, v, hk4, hvr, index_run ((tyk_cases t).1 (beq_spec e1)) hv⟩
  case y l a lo hi =>
    obtain ⟨e1, hk3⟩ := ite1_spec (show ite1 (Nat.beq (tyk P t) 1) (nthK l j K) = true from hk2)
    obtain ⟨x, hk4, hn⟩ := nthK_spec hk3
    simp only [VR] at ha
    obtain ⟨b, L, n, rfl, _, _, _, _, hb⟩ := ha
    have hcr := hb.CR ((bytesV b).drop n)
    rw [List.take_append_drop] at hcr
    obtain ⟨v, hv, hvr⟩ := hn ρ _ hcr
    exact ⟨x, v, hk4, hvr, index_run ((tyk_cases t).1 (beq_spec e1)) hv⟩
  case o t' l a lo hi =>
    obtain ⟨e0, hk3⟩ := ite1_spec (show ite1 (Nat.beq t' 0) (ite1 (Nat.beq (tyk P t) 1) <| dropR l j fun r => arg0 r fun x _ => ite1 (isBy x) (K x)) = true from hk2)
    obtain ⟨e1, hk4⟩ := ite1_spec hk3
    have e0 := beq_spec e0
    obtain ⟨b, rfl, hb⟩ := rope_of e0 ha
    obtain ⟨r, hk5, _, hr⟩ := dropR_spec hk4 (RR_isC hb)
    obtain ⟨q1, _⟩ := hr ρ _ hb
    obtain ⟨x, r', rfl, hk6⟩ : ∃ x r', r = .cons x r' ∧ ite1 (isBy x) (K x) = true := by cases r <;> first | exact ⟨_, _, rfl, hk5⟩ | exact Bool.noConfusion hk5
    obtain ⟨e2, hk7⟩ := ite1_spec hk6
    simp only [RR] at q1
    obtain ⟨s1, s2, g1, g2, g3⟩ := q1
    obtain ⟨c, rfl, hc⟩ := by_PR e2 g1
    refine ⟨x, byteV c, hk7, hc, index_run ((tyk_cases t).1 (beq_spec e1)) ?_⟩
    have : b.data.toList[j]? = some c := by
      have := congrArg (fun l => l[0]?) g3
      simpa using this
    unfold bytesV
    rw [List.getElem?_map, this]
    rfl
theorem opIndexL_sound {t : TypeId} {v ix : V} {va vi : Value} {K : V → Bool} (hk : opIndexL P t v ix K = true) (ha : VR ρ v va) (hi : VR ρ ix vi) :
    ∃ y r, K y = true ∧ VR ρ y r ∧ (Instr.index t va vi).run P w = .ok r w := by
  obtain ⟨kd, S, hk2, hS⟩ := linK_spec hk
  obtain ⟨n, hn, rfl⟩ := hS ρ vi hi
  cases v <;> first | exact Bool.noConfusion hk2 | skip
  case o t' l a lo hi =>
    obtain ⟨e0, hk3⟩ := ite1_spec (show ite1 (Nat.beq t' 0) (ite1 (Nat.beq (tyk P t) 1) <| splS S fun n l' => dropL l n l' (fun r => arg0 r fun x _ => ite1 (isBy x) (K x)) false) = true from hk2)
    obtain ⟨e1, hk4⟩ := ite1_spec hk3
    have e0 := beq_spec e0
    obtain ⟨b, rfl, hb⟩ := rope_of e0 ha
    obtain ⟨m, l', hk5, hc, hm⟩ := splS_spec hk4 (LR_isC hn)
    rcases dropL_spec hk5 (RR_isC hb) hc with h | ⟨r, hk6, _, hr⟩
    · exact Bool.noConfusion h
    obtain ⟨u, g1, g2⟩ := hm ρ n hn
    obtain ⟨j, q0, _, q1⟩ := hr ρ _ u hb g1
    have ej : n = (j : Int) := by omega
    subst ej
    obtain ⟨x, r', rfl, hk7⟩ : ∃ x r', r = .cons x r' ∧ ite1 (isBy x) (K x) = true := by cases r <;> first | exact ⟨_, _, rfl, hk6⟩ | exact Bool.noConfusion hk6
    obtain ⟨e2, hk8⟩ := ite1_spec hk7
    simp only [RR] at q1
    obtain ⟨s1, s2, g1, g2, g3⟩ := q1
    obtain ⟨c, rfl, hc⟩ := by_PR e2 g1
    refine ⟨x, byteV c, hk8, hc, index_run ((tyk_cases t).1 (beq_spec e1)) ?_⟩
    have : b.data.toList[j]? = some c := by
      have := congrArg (fun l => l[0]?) g3
      simpa using this
    unfold bytesV
    rw [List.getElem?_map, this]
    rfl
theorem opIndex_sound {t : TypeId} {v ix : V} {va vi : Value} {K : V → Bool} (hk : opIndex P t v ix K = true) (ha : VR ρ v va) (hi : VR ρ ix vi) :
    ∃ y r, K y = true ∧ VR ρ y r ∧ (Instr.index t va vi).run P w = .ok r w := by
  have hk : (Bool.rec (opIndex0 P t v ix K) (opIndexL P t v ix K) (isO ix) : Bool) = true := hk
  cases e : isO ix with
  | false => rw [e] at hk; exact opIndex0_sound hk ha hi
  | true => rw [e] at hk; exact opIndexL_sound hk ha hi
def OpR (ρ : Ren) : Option V → Option Value → Prop
  | none, none => True
  | some x, some v => VR ρ x v
  | _, _ => False
theorem sliceBound_run {kd : IntKind} {j y : Nat} {code : BoundsCode} (hj : j ≤ y) : (sliceBound (.int kd (j : Int)) y code).run P w = .ok j w := by
  have h1 : (0 : Int) ≤ (j : Int) := by omega
  have h2 : (j : Int) ≤ (y : Int) := by omega
  simp only [sliceBound, asIntOf, Sem.run_bind, Sem.run_pure, Result.andThen_ok, h1, h2, and_self, if_true, Int.toNat_natCast]
theorem bndK_spec {lo hi : Option V} {n : Nat} {k : Nat → Nat → Bool} (hk : bndK lo hi n k = true) :
    ∃ a b, k a b = true ∧ a ≤ b ∧ b ≤ n ∧ ∀ ρ vlo vhi, OpR ρ lo vlo → OpR ρ hi vhi → ∀ s cap, n ≤ cap → ∀ w, (sliceBounds s n cap vlo vhi none).run P w = .ok (a, b, cap) w := by
  have hh : ∃ b, b ≤ n ∧ (Option.rec (motive := fun _ => (Nat → Bool) → Bool) (fun c => c 0) (fun v c => vN v fun l => ite1 (Nat.ble l b) <| c l) lo fun l => k l b) = true ∧
      ∀ ρ vhi, OpR ρ hi vhi → ∀ (cap : Nat) (code : BoundsCode), n ≤ cap → (vhi = none ∧ b = n) ∨ (∃ v, vhi = some v ∧ ∀ w, (sliceBound v cap code).run P w = .ok b w) := by
    cases hi with
    | none =>
      refine ⟨n, Nat.le_refl _, hk, fun ρ vhi hr cap code _ => .inl ⟨?_, rfl⟩⟩
      cases vhi with
      | none => rfl
      | some v => exact hr.elim
    | some v =>
      obtain ⟨kd, j, rfl, hk2⟩ := vN_spec (show vN v (fun h => ite1 (Nat.ble h n) _) = true from hk)
      obtain ⟨e, hk3⟩ := ite1_spec hk2
      have e := Nat.le_of_ble_eq_true e
      refine ⟨j, e, hk3, fun ρ vhi hr cap code hc => .inr ?_⟩
      cases vhi with
      | none => exact hr.elim
      | some u =>
        simp only [OpR, VR] at hr
        subst hr
        exact ⟨_, rfl, fun w => sliceBound_run (by omega)⟩
  obtain ⟨b, hb, hk2, hhi⟩ := hh
  cases lo with
  | none =>
    refine ⟨0, b, hk2, Nat.zero_le _, hb, fun ρ vlo vhi h1 h2 s cap hc w => ?_⟩
    cases vlo with
    | some v => exact h1.elim
    | none =>
      rcases hhi ρ vhi h2 cap (if s then .sliceAcap else .sliceAlen) hc with ⟨rfl, rfl⟩ | ⟨v, rfl, hv⟩
      · simp [sliceBounds]
      · simp [sliceBounds, hv]
  | some v =>
    obtain ⟨kd, j, rfl, hk3⟩ := vN_spec (show vN v (fun l => ite1 (Nat.ble l b) <| k l b) = true from hk2)
    obtain ⟨e, hk4⟩ := ite1_spec hk3
    have e := Nat.le_of_ble_eq_true e
    refine ⟨j, b, hk4, e, hb, fun ρ vlo vhi h1 h2 s cap hc w => ?_⟩
    cases vlo with
    | none => exact h1.elim
    | some u =>
      simp only [OpR, VR] at h1
      subst h1
      rcases hhi ρ vhi h2 cap (if s then .sliceAcap else .sliceAlen) hc with ⟨rfl, rfl⟩ | ⟨v, rfl, hv⟩
      · simp [sliceBounds, sliceBound_run e]
      · simp [sliceBounds, hv, sliceBound_run e]
theorem szk_slice {t : TypeId} {sz : Nat} (h : slE P t = sz + 1) : ∃ e i, P.underlying t = some (.slice e) ∧ P.info? e = some i ∧ i.size = sz := by
  obtain ⟨i, h1, h2, h3⟩ := slE_spec h
  exact ⟨_, i, h1, h2, h3⟩
theorem VR_sl {ρ : Ren} {id off len sz : Nat} {L : Loc} {cap : Nat} {A : Addr} (h1 : ρ id = some L) (h2 : len ≤ cap) (h3 : L.base + off + cap * sz ≤ L.size) (hA : A = ⟨L.blk, L.base + off, none⟩) :
    VR ρ (.sl id off len sz) (.slice (some A) len cap) := by
  simp only [VR]
  exact ⟨L, cap, h1, h2, h3, by rw [hA]⟩
theorem VR_s0 (ρ : Ren) (A : Addr) : VR ρ .s0 (.slice (some A) 0 0) := by simp only [VR]; exact ⟨A, rfl⟩
theorem slice_max {t e : TypeId} {i : TypeInfo} {A : Addr} {len cap : Nat} {vlo vhi vmx : Option Value} (hu : P.underlying t = some (.slice e)) (hinf : P.info? e = some i)
    (hb : (sliceBounds true len cap vlo vhi vmx).run P w = .ok (0, 0, 0) w) : (sliceAt t (.slice (some A) len cap) vlo vhi vmx).run P w = .ok (.slice (some A) 0 0) w := by
  simp only [sliceAt, Sem.run_bind, run_und hu, Result.andThen_ok, Instr.slice, hb, run_size hinf, Sem.run_pure]
  simp
theorem bounds_run {s : Bool} {n cap a b : Nat} {vlo vhi : Option Value} (hlo : (vlo = none ∧ a = 0) ∨ ∃ kd, vlo = some (.int kd (a : Int))) (hhi : (vhi = none ∧ b = n) ∨ ∃ kd, vhi = some (.int kd (b : Int))) (hab : a ≤ b) (hb : b ≤ cap) :
    (sliceBounds s n cap vlo vhi none).run P w = .ok (a, b, cap) w := by
  have h1 : ∀ kd code w, (sliceBound (.int kd (b : Int)) cap code).run P w = .ok b w := fun _ _ _ => sliceBound_run hb
  have h2 : ∀ kd code w, (sliceBound (.int kd (a : Int)) b code).run P w = .ok a w := fun _ _ _ => sliceBound_run hab
  rcases hlo with ⟨rfl, rfl⟩ | ⟨kd, rfl⟩ <;> rcases hhi with ⟨rfl, rfl⟩ | ⟨kd', rfl⟩ <;> simp [sliceBounds, h1, h2]
theorem loN_spec {lo : Option V} {vlo : Option Value} {k : Nat → Bool} (hk : loN lo k = true) (h : OpR ρ lo vlo) : ∃ a : Nat, k a = true ∧ ((vlo = none ∧ a = 0) ∨ ∃ kd, vlo = some (.int kd (a : Int))) := by
  cases lo with
  | none =>
    cases vlo with
    | none => exact ⟨0, hk, .inl ⟨rfl, rfl⟩⟩
    | some v => exact h.elim
  | some x =>
    obtain ⟨kd, j, rfl, hk2⟩ := vN_spec (show vN x k = true from hk)
    cases vlo with
    | none => exact h.elim
    | some v =>
      simp only [OpR, VR] at h
      exact ⟨j, hk2, .inr ⟨kd, by rw [h]; rfl⟩⟩
theorem loZ_spec {lo : Option V} {vlo : Option Value} {k : Bool} (hk : loZ lo k = true) (h : OpR ρ lo vlo) : k = true ∧ ((vlo = none ∧ (0 : Nat) = 0) ∨ ∃ kd, vlo = some (.int kd ((0 : Nat) : Int))) := by
  have e : loN lo (fun j => ite1 (Nat.beq j 0) k) = true := by
    cases lo with
    | none => show ite1 (Nat.beq 0 0) k = true; exact hk
    | some x => exact hk
  obtain ⟨a, h1, h2⟩ := loN_spec e h
  obtain ⟨h3, h4⟩ := ite1_spec h1
  have h3 := beq_spec h3
  subst h3
  exact ⟨h4, h2⟩
theorem slice_rope0 {t : TypeId} {l : V} {lo hi : Option V} {b : ByteArray} {vlo vhi : Option Value} {K : V → Bool} (hk : slO0 l lo hi K = true) (hu : P.underlying t = some .string) (hb : RR ρ l b.data.toList) (h1 : OpR ρ lo vlo) (h2 : OpR ρ hi vhi) :
    ∃ y r, K y = true ∧ VR ρ y r ∧ (sliceAt t (.string b) vlo vhi none).run P w = .ok r w := by
  obtain ⟨j, hk2, hlo⟩ := loN_spec hk h1
  obtain ⟨r, hk3, hrc, hr⟩ := dropR_spec hk2 (RR_isC hb)
  obtain ⟨q1, q2⟩ := hr ρ _ hb
  have hsz : b.size = b.data.toList.length := rfl
  have run : ∀ e : Nat, j ≤ e → e ≤ b.size → ((vhi = none ∧ e = b.size) ∨ ∃ kd, vhi = some (.int kd (e : Int))) → (sliceAt t (.string b) vlo vhi none).run P w = .ok (.string (b.extract j e)) w := by
    intro e he1 he2 hhi
    have := bounds_run (P := P) (w := w) (s := false) (n := b.size) (cap := b.size) hlo hhi he1 he2
    simp only [sliceAt, Sem.run_bind, run_und hu, Result.andThen_ok, Instr.slice, Option.isSome_none, Bool.false_eq_true, if_false, this, Sem.run_pure]
  have hall : (b.extract j b.size).data.toList = b.data.toList.drop j := by
    rw [ByteArray.data_extract, Array.toList_extract]
    show (b.data.toList.drop j).take (b.size - j) = _
    rw [List.take_of_length_le (by rw [List.length_drop, ← hsz]; exact Nat.le_refl _)]
  cases hi with
  | none =>
    cases vhi with
    | some v => exact h2.elim
    | none =>
      obtain ⟨y, g1, g2⟩ := strR_spec (show strR r K = true from hk3) hrc
      exact ⟨y, _, g1, g2 ρ (b.extract j b.size) (by rw [hall]; exact q1), run b.size (by omega) (Nat.le_refl _) (.inl ⟨rfl, rfl⟩)⟩
  | some hv =>
    cases vhi with
    | none => exact h2.elim
    | some v =>
      have hk4 : hi0 l r j hv K = true := hk3
      cases hv <;> first | exact Bool.noConfusion hk4 | skip
      case i kd n =>
        cases n with
        | negSucc n => exact Bool.noConfusion hk4
        | ofNat n =>
          obtain ⟨e1, hk5⟩ := ite1_spec (show ite1 (Nat.ble j n) (takeR r (Nat.sub n j) fun c => strK c K) = true from hk4)
          have e1 := Nat.le_of_ble_eq_true e1
          obtain ⟨c, hk6, hcc, hc⟩ := takeR_spec hk5 hrc
          obtain ⟨g1, g2⟩ := hc ρ _ q1
          obtain ⟨y, hk7, hy⟩ := strK_spec hk6 hcc
          obtain ⟨z, hz1, hz2⟩ := hy ρ _ g1
          simp only [OpR, VR] at h2
          have hns : n ≤ b.size := by
            have : n.sub j = n - j := rfl
            rw [this] at g2
            simp only [List.length_drop] at g2
            omega
          have hz : b.extract j n = z := bytesV_inj (by
            rw [bytesV_extract, ← hz1]
            simp [bytesV, List.map_drop, List.map_take])
          subst hz
          exact ⟨y, _, hk7, hz2, run n e1 hns (.inr ⟨kd, by rw [h2]; rfl⟩)⟩
      case o t' l' a lo' hi' =>
        obtain ⟨e1, hk5⟩ := ite1_spec (show ite1 (Nat.beq t' 2) (lenR l fun m => ite1 (sameV m l') <| strR r K) = true from hk4)
        obtain ⟨m, hk6, _, hm⟩ := lenR_spec hk5
        obtain ⟨e2, hk7⟩ := ite1_spec hk6
        have e2 := sameV_eq e2
        subst e2
        obtain ⟨n, g1, g2⟩ := num_of (beq_spec e1) (show VR ρ (.o t' m a lo' hi') v from h2)
        have e3 := g1.fn (hm ρ _ hb)
        subst e3
        obtain ⟨y, g3, g4⟩ := strR_spec hk7 hrc
        exact ⟨y, _, g3, g4 ρ (b.extract j b.size) (by rw [hall]; exact q1), run b.size (by omega) (Nat.le_refl _) (.inr ⟨_, by rw [g2]; rfl⟩)⟩
theorem loL_spec {lo : Option V} {vlo : Option Value} {k : V → Bool} (hk : loL lo k = true) (h : OpR ρ lo vlo) : ∃ (S : V) (n : Int), k S = true ∧ LR ρ S n ∧ ((vlo = none ∧ n = 0) ∨ ∃ kd, vlo = some (.int kd n)) := by
  cases lo with
  | none =>
    cases vlo with
    | none => exact ⟨.nil, 0, hk, by simp only [LR], .inl ⟨rfl, rfl⟩⟩
    | some v => exact h.elim
  | some x =>
    obtain ⟨kd, S, hk2, hS⟩ := linK_spec (show linK x (fun _ S => k S) = true from hk)
    cases vlo with
    | none => exact h.elim
    | some v =>
      obtain ⟨n, g1, g2⟩ := hS ρ v h
      exact ⟨S, n, hk2, g1, .inr ⟨_, by rw [g2]⟩⟩
theorem slice_ropeL {t : TypeId} {l : V} {lo hi : Option V} {b : ByteArray} {vlo vhi : Option Value} {K : V → Bool} (hk : slOL l lo hi K = true) (hu : P.underlying t = some .string) (hb : RR ρ l b.data.toList) (h1 : OpR ρ lo vlo) (h2 : OpR ρ hi vhi) :
    ∃ y r, K y = true ∧ VR ρ y r ∧ (sliceAt t (.string b) vlo vhi none).run P w = .ok r w := by
  obtain ⟨S, n, hk2, hS, hlo⟩ := loL_spec hk h1
  obtain ⟨m, l', hk3, hc, hm⟩ := splS_spec hk2 (LR_isC hS)
  rcases dropL_spec hk3 (RR_isC hb) hc with h | ⟨r, hk4, hrc, hr⟩
  · exact Bool.noConfusion h
  obtain ⟨u, g1, g2⟩ := hm ρ n hS
  obtain ⟨j, q0, q2, q1⟩ := hr ρ _ u hb g1
  have ej : n = (j : Int) := by omega
  subst ej
  have hlo : (vlo = none ∧ j = 0) ∨ ∃ kd, vlo = some (.int kd (j : Int)) := hlo.imp (fun ⟨a, b⟩ => ⟨a, by omega⟩) id
  have hsz : b.size = b.data.toList.length := rfl
  have run : ∀ e : Nat, j ≤ e → e ≤ b.size → ((vhi = none ∧ e = b.size) ∨ ∃ kd, vhi = some (.int kd (e : Int))) → (sliceAt t (.string b) vlo vhi none).run P w = .ok (.string (b.extract j e)) w := by
    intro e he1 he2 hhi
    have := bounds_run (P := P) (w := w) (s := false) (n := b.size) (cap := b.size) hlo hhi he1 he2
    simp only [sliceAt, Sem.run_bind, run_und hu, Result.andThen_ok, Instr.slice, Option.isSome_none, Bool.false_eq_true, if_false, this, Sem.run_pure]
  have part : ∀ e : Nat, (b.extract j e).data.toList = (b.data.toList.drop j).take (e - j) := fun e => by
    rw [ByteArray.data_extract, Array.toList_extract]
  cases hi with
  | none =>
    cases vhi with
    | some v => exact h2.elim
    | none =>
      obtain ⟨y, g1, g2⟩ := strR_spec (show strR r K = true from hk4) hrc
      refine ⟨y, _, g1, g2 ρ (b.extract j b.size) ?_, run b.size (by omega) (Nat.le_refl _) (.inl ⟨rfl, rfl⟩)⟩
      rw [part, List.take_of_length_le (by rw [List.length_drop, ← hsz]; exact Nat.le_refl _)]
      exact q1
  | some hv =>
    cases vhi with
    | none => exact h2.elim
    | some v =>
      obtain ⟨kd, H, hk5, hH⟩ := linK_spec (show linK hv (fun _ H => addLK (Int.negSucc 0) S H fun D => splS D fun n2 l2 => takeL r n2 l2 fun c => strR c K) = true from hk4)
      obtain ⟨e, f1, rfl⟩ := hH ρ v h2
      obtain ⟨D, hk6, hDc, hD⟩ := addLK_spec hk5 (LR_isC f1)
      have f2 := hD ρ e j f1 hS
      obtain ⟨n2, l2, hk7, hl2, hn2⟩ := splS_spec hk6 hDc
      obtain ⟨u2, f3, f4⟩ := hn2 ρ _ f2
      obtain ⟨c, hk8, hcc, hc2⟩ := takeL_spec hk7 hrc hl2
      obtain ⟨j2, p0, p1, p2⟩ := hc2 ρ _ u2 q1 f3
      have z : (Int.negSucc 0) * (j : Int) = -(j : Int) := by
        have : (Int.negSucc 0 : Int) = -1 := rfl
        rw [this]; omega
      rw [z] at f4
      have ee : e = ((j + j2 : Nat) : Int) := by omega
      subst ee
      rw [List.length_drop, ← hsz] at p1
      obtain ⟨y, t1, t2⟩ := strR_spec hk8 hcc
      refine ⟨y, _, t1, t2 ρ (b.extract j (j + j2)) ?_, run (j + j2) (by omega) (by omega) (.inr ⟨_, rfl⟩)⟩
      rw [part, show j + j2 - j = j2 by omega]
      exact p2
theorem slice_rope {t : TypeId} {l : V} {lo hi : Option V} {b : ByteArray} {vlo vhi : Option Value} {K : V → Bool} (hk : slO l lo hi K = true) (hu : P.underlying t = some .string) (hb : RR ρ l b.data.toList) (h1 : OpR ρ lo vlo) (h2 : OpR ρ hi vhi) :
    ∃ y r, K y = true ∧ VR ρ y r ∧ (sliceAt t (.string b) vlo vhi none).run P w = .ok r w := by
  have hk : (Bool.rec (slO0 l lo hi K) (slOL l lo hi K) (ior (isOo lo) (isOo hi)) : Bool) = true := hk
  cases e : ior (isOo lo) (isOo hi) with
  | false => rw [e] at hk; exact slice_rope0 hk hu hb h1 h2
  | true => rw [e] at hk; exact slice_ropeL hk hu hb h1 h2
theorem slice_bytes {t : TypeId} {l : V} {id x' y' : Nat} {lo hi : Option V} {va : Value} {vlo vhi : Option Value} {K : V → Bool} (he : Nat.beq (slE P t) 2 = true) (hk : loZ lo (Option.rec (motive := fun _ => Bool) (K (.o 3 l id 0 0)) (fun hv => hi3 l id (.o 3 l id 0 0) hv K) hi) = true) (hv : VR ρ (.o 3 l id x' y') va) (h1 : OpR ρ lo vlo) (h2 : OpR ρ hi vhi) :
    ∃ y r, K y = true ∧ VR ρ y r ∧ (sliceAt t va vlo vhi none).run P w = .ok r w := by
  obtain ⟨e, i, hu, hinf, his⟩ := szk_slice (P := P) (t := t) (sz := 1) (beq_spec he)
  obtain ⟨L, n, cap, hL, hn, hc1, hc2, rfl⟩ := slice_of rfl hv
  obtain ⟨hk2, hlo⟩ := loZ_spec hk h1
  have run : ∀ b : Nat, b ≤ n → ((vhi = none ∧ b = n) ∨ ∃ kd, vhi = some (.int kd (b : Int))) → (sliceAt t (.slice (some ⟨L.blk, L.base, none⟩) n cap) vlo vhi none).run P w = .ok (.slice (some ⟨L.blk, L.base, none⟩) b cap) w := by
    intro b hb hhi
    have := bounds_run (P := P) (w := w) (s := true) (n := n) (cap := cap) (a := 0) hlo hhi (Nat.zero_le _) (by omega)
    simp only [sliceAt, Sem.run_bind, run_und hu, Result.andThen_ok, Instr.slice, this, run_size hinf, his, Sem.run_pure, Option.map_some, addr_add]
    congr 2
    split <;> simp
  cases hi with
  | none =>
    cases vhi with
    | some v => exact h2.elim
    | none => exact ⟨_, _, hk2, VR_o3 hL hn hc1 hc2, run n (Nat.le_refl _) (.inl ⟨rfl, rfl⟩)⟩
  | some hvv =>
    cases vhi with
    | none => exact h2.elim
    | some v =>
      have hk3 : hi3 l id (.o 3 l id 0 0) hvv K = true := hk2
      cases hvv <;> first | exact Bool.noConfusion hk3 | skip
      case i kd m =>
        cases m with
        | negSucc m => exact Bool.noConfusion hk3
        | ofNat m =>
          obtain ⟨a, b, hk4, hr⟩ := rgK_spec (show rgK l (fun a _ => ite1 (ile (Int.ofNat m) a) <| K (.sl id 0 m 1)) = true from hk3)
          obtain ⟨e2, hk5⟩ := ite1_spec hk4
          have e2 := ile_spec e2
          have := hr ρ _ hn
          have z : Int.ofNat m = (m : Int) := rfl
          simp only [OpR, VR] at h2
          refine ⟨_, _, hk5, VR_sl hL (show m ≤ cap by omega) (by omega) rfl, ?_⟩
          exact run m (by omega) (.inr ⟨kd, by rw [h2]; rfl⟩)
      case o t' l' a lo' hi' =>
        obtain ⟨e1, hk4⟩ := ite1_spec (show ite1 (Nat.beq t' 2) (ite1 (sameV l l') (K (.o 3 l id 0 0))) = true from hk3)
        obtain ⟨e2, hk5⟩ := ite1_spec hk4
        have e2 := sameV_eq e2
        subst e2
        obtain ⟨m, g1, g2⟩ := num_of (beq_spec e1) (show VR ρ (.o t' l a lo' hi') v from h2)
        have e3 := g1.fn hn
        subst e3
        exact ⟨_, _, hk5, VR_o3 hL hn hc1 hc2, run n (Nat.le_refl _) (.inr ⟨_, by rw [g2]⟩)⟩
theorem opSlice_sound {h : T O} {nx : Nat} {t : TypeId} {v : V} {lo hi mx : Option V} {va : Value} {vlo vhi vmx : Option Value} {K : V → Bool} (hk : opSlice P t v lo hi mx h K = true) (s : St ρ h nx w) (ha : VR ρ v va)
    (h1 : OpR ρ lo vlo) (h2 : OpR ρ hi vhi) (h3 : OpR ρ mx vmx) :
    ∃ y r, K y = true ∧ VR ρ y r ∧ (sliceAt t va vlo vhi vmx).run P w = .ok r w := by
  cases mx with
  | some m =>
    cases vmx with
    | none => exact h3.elim
    | some vm =>
      obtain ⟨kd, j, rfl, hk2⟩ := vN_spec (show vN m _ = true from hk)
      obtain ⟨e, hk3⟩ := ite1_spec hk2
      have e := beq_spec e
      subst e
      obtain ⟨e2, hk4⟩ := ite1_spec hk3
      obtain ⟨i, hu, hinf⟩ := slE_pos e2
      cases hi with
      | none => exact Bool.noConfusion hk4
      | some hv =>
        cases vhi with
        | none => exact h2.elim
        | some vh =>
          obtain ⟨kd2, j2, rfl, hk5⟩ := vN_spec (show vN hv _ = true from hk4)
          obtain ⟨e3, hk6⟩ := ite1_spec hk5
          have e3 := beq_spec e3
          subst e3
          obtain ⟨a, b, hk7, hab, hbn, hrun⟩ := bndK_spec (P := P) hk6
          have ea : a = 0 := by omega
          subst ea
          have eb : b = 0 := by omega
          subst eb
          simp only [OpR, VR] at h2 h3
          subst h2
          subst h3
          have key : ∀ cap, ∀ n, (sliceBounds true n cap vlo (some (.int kd2 (Int.ofNat 0))) (some (.int kd (Int.ofNat 0)))).run P w = .ok (0, 0, 0) w := by
            intro cap n
            have hz : (sliceBound (.int kd (Int.ofNat 0)) cap .slice3Acap).run P w = .ok 0 w := sliceBound_run (Nat.zero_le _)
            have hz2 : (sliceBound (.int kd2 (Int.ofNat 0)) 0 .slice3B).run P w = .ok 0 w := sliceBound_run (Nat.zero_le _)
            cases lo with
            | none =>
              cases vlo with
              | some v => exact h1.elim
              | none => simp only [sliceBounds, Sem.run_bind, if_true, hz, hz2, Result.andThen_ok, Sem.run_pure]
            | some lv =>
              cases vlo with
              | none => exact h1.elim
              | some u =>
                obtain ⟨kd3, j3, rfl, hk8⟩ := vN_spec (show vN lv _ = true from hk6)
                obtain ⟨e4, _⟩ := ite1_spec hk8
                have e4 := Nat.le_of_ble_eq_true e4
                have e5 : j3 = 0 := by omega
                subst e5
                simp only [OpR, VR] at h1
                subst h1
                have hz3 : (sliceBound (.int kd3 (Int.ofNat 0)) 0 .slice3C).run P w = .ok 0 w := sliceBound_run (Nat.zero_le _)
                simp only [sliceBounds, Sem.run_bind, if_true, hz, hz2, hz3, Result.andThen_ok, Sem.run_pure, Option.isSome_some]
          cases v <;> first | exact Bool.noConfusion hk7 | skip
          case sn =>
            simp only [VR] at ha
            subst ha
            refine ⟨_, .slice none 0 0, hk7, by simp only [VR], ?_⟩
            simp only [sliceAt, Sem.run_bind, run_und hu, Result.andThen_ok, Instr.slice, key, run_size hinf, Sem.run_pure]
            simp
          all_goals
            simp only [VR] at ha
            first
              | obtain ⟨L, c, _, _, _, rfl⟩ := ha
              | obtain ⟨A, c, rfl⟩ := ha
              | obtain ⟨A, rfl⟩ := ha
            exact ⟨_, _, hk7, VR_s0 ρ _, slice_max hu hinf (key _ _)⟩
  | none =>
    cases vmx with
    | some vm => exact h3.elim
    | none =>
      cases v <;> first | exact Bool.noConfusion hk | skip
      case s l =>
        obtain ⟨e1, hk2⟩ := ite1_spec (show ite1 (Nat.beq (tyk P t) 1) (slenK l 0 fun n => bndK lo hi n fun a b => sdropK l a fun r => stakeK r (Nat.sub b a) fun c => K (.s c)) = true from hk)
        have hu := (tyk_cases t).1 (beq_spec e1)
        rw [slenK_eq, Nat.zero_add] at hk2
        obtain ⟨a, b, hk3, hab, hbn, hrun⟩ := bndK_spec (P := P) hk2
        obtain ⟨_, hk4⟩ := sdropK_spec hk3
        obtain ⟨_, hk5⟩ := stakeK_spec hk4
        simp only [VR] at ha
        obtain ⟨rfl, hl⟩ := ha
        refine ⟨_, _, hk5, VRst ρ (fun n hn => hl n (List.mem_of_mem_drop (List.mem_of_mem_take hn))), ?_⟩
        have := hrun ρ vlo vhi h1 h2 false l.length (Nat.le_refl _) w
        simp only [sliceAt, Sem.run_bind, run_und hu, Result.andThen_ok, Instr.slice, Option.isSome_none, Bool.false_eq_true, if_false, bs_size, this, Sem.run_pure, bs_extract]
        rfl
      case w l =>
        obtain ⟨e1, hk2⟩ := ite1_spec (show ite1 (Nat.beq (tyk P t) 1) (lenK l 0 fun n => bndK lo hi n fun a b => dropK l a fun r => takeK r (Nat.sub b a) fun c => strK c K) = true from hk)
        have hu := (tyk_cases t).1 (beq_spec e1)
        simp only [VR] at ha
        obtain ⟨x, rfl, hx⟩ := ha
        obtain ⟨n, hk3, hn, _⟩ := lenK_spec hk2 (VRs_isC hx)
        rw [Nat.zero_add] at hk3
        have hn := hn ρ _ hx
        rw [bytesV_length] at hn
        subst hn
        obtain ⟨a, b, hk4, hab, hbn, hrun⟩ := bndK_spec (P := P) hk3
        obtain ⟨r, hk5, hrc, hr⟩ := dropK_spec hk4 (VRs_isC hx)
        obtain ⟨c, hk6, hc⟩ := takeK_spec hk5 hrc
        obtain ⟨q1, _⟩ := hr ρ _ hx.CR'
        obtain ⟨q2, _⟩ := hc ρ _ q1
        obtain ⟨y, hk7, hy⟩ := strK_spec hk6 (VRs_isC q2)
        obtain ⟨z, hz1, hz2⟩ := hy ρ _ q2
        have hz : x.extract a b = z := bytesV_inj (by rw [bytesV_extract]; exact hz1)
        subst hz
        refine ⟨_, _, hk7, hz2, ?_⟩
        have := hrun ρ vlo vhi h1 h2 false x.size (Nat.le_refl _) w
        simp only [sliceAt, Sem.run_bind, run_und hu, Result.andThen_ok, Instr.slice, Option.isSome_none, Bool.false_eq_true, if_false, this, Sem.run_pure]
      case o t' l id x' y' =>
        have hk1 : (Bool.rec (ite1 (Nat.beq t' 0) <| ite1 (Nat.beq (tyk P t) 1) <| slO l lo hi K) (ite1 (Nat.beq (slE P t) 2) <| loZ lo <| Option.rec (motive := fun _ => Bool) (K (.o 3 l id 0 0)) (fun hv => hi3 l id (.o 3 l id 0 0) hv K) hi) (Nat.beq t' 3) : Bool) = true := hk
        cases e3 : Nat.beq t' 3 with
        | true =>
          rw [e3] at hk1
          have e3 := beq_spec e3
          subst e3
          obtain ⟨e1, hk2⟩ := ite1_spec hk1
          exact slice_bytes e1 hk2 ha h1 h2
        | false =>
          rw [e3] at hk1
          obtain ⟨e0, hk2⟩ := ite1_spec hk1
          obtain ⟨e1, hk3⟩ := ite1_spec hk2
          obtain ⟨b, rfl, hb⟩ := rope_of (beq_spec e0) ha
          exact slice_rope hk3 ((tyk_cases t).1 (beq_spec e1)) hb h1 h2
      case p id off =>
        have hk1 : (Nat.rec (motive := fun _ => Bool) false (fun n _ => Nat.rec (motive := fun _ => Bool) false (fun sz _ => oC (gt O.none id h) fun l _ _ => lenK l 0 fun c => ite1 (Nat.ble (Nat.add off (Nat.mul n sz)) c) <| bndK lo hi n fun a b => Bool.rec (K (.sl id (Nat.add off (Nat.mul a sz)) (Nat.sub b a) sz)) (K .s0) (Nat.beq a n)) (arE P t)) (arN P t) : Bool) = true := hk
        generalize hN : arN P t = N at hk1
        cases N with
        | zero => exact Bool.noConfusion hk1
        | succ n =>
          have hk2 : (Nat.rec (motive := fun _ => Bool) false (fun sz _ => oC (gt O.none id h) fun l _ _ => lenK l 0 fun c => ite1 (Nat.ble (Nat.add off (Nat.mul n sz)) c) <| bndK lo hi n fun a b => Bool.rec (K (.sl id (Nat.add off (Nat.mul a sz)) (Nat.sub b a) sz)) (K .s0) (Nat.beq a n)) (arE P t) : Bool) = true := hk1
          generalize hE : arE P t = E at hk2
          cases E with
          | zero => exact Bool.noConfusion hk2
          | succ sz =>
            obtain ⟨m, e, i, hu, hm, hinf, his⟩ := arr_spec (n := n) (by rw [hN]; exact Nat.blt_eq.mpr (Nat.lt_succ_self n)) hE
            rw [hN] at hm
            obtain rfl : n = m := Nat.succ.inj hm
            obtain ⟨l, ty, wr, ho, hk3⟩ := oC_spec (show (oC (gt O.none id h) fun l _ _ => lenK l 0 fun c => ite1 (Nat.ble (Nat.add off (Nat.mul n sz)) c) <| bndK lo hi n fun a b => Bool.rec (K (.sl id (Nat.add off (Nat.mul a sz)) (Nat.sub b a) sz)) (K .s0) (Nat.beq a n)) = true from hk2)
            simp only [VR] at ha
            obtain ⟨L, hL, rfl⟩ := ha
            obtain ⟨o, hh, hor⟩ := s.relC ho hL
            simp only [OR] at hor
            obtain ⟨arr, fz, rfl, hsz, _, hle, hcr⟩ := hor
            obtain ⟨c, hk4, _, hlen⟩ := lenK_spec hk3 (CR_isC hcr)
            rw [Nat.zero_add] at hk4
            have hlen := hlen ρ _ hcr
            rw [List.length_drop, Array.length_toList] at hlen
            obtain ⟨e4, hk5⟩ := ite1_spec hk4
            have e4 : off + n * sz ≤ c := Nat.le_of_ble_eq_true e4
            obtain ⟨a, b, hk6, hab, hbn, hrun⟩ := bndK_spec (P := P) hk5
            have hr := hrun ρ vlo vhi h1 h2 false n (Nat.le_refl _) w
            have hres : (sliceAt t (.pointer (some ⟨L.blk, L.base + off, none⟩)) vlo vhi none).run P w = .ok (.slice (some (if n = a then ⟨L.blk, L.base + off, none⟩ else ⟨L.blk, L.base + off + a * sz, none⟩)) (b - a) (n - a)) w := by
              simp only [sliceAt, sureAddr, Sem.run_bind, run_und hu, Result.andThen_ok, hr, run_size hinf, his, Sem.run_pure, addr_add]
            rw [hres]
            cases ea : Nat.beq a n with
            | true =>
              rw [ea] at hk6
              have e0 := beq_spec ea
              subst e0
              obtain rfl : b = a := by omega
              refine ⟨_, _, hk6, ?_, rfl⟩
              simp only [VR, Nat.sub_self]
              exact ⟨_, rfl⟩
            | false =>
              rw [ea] at hk6
              have hne : a ≠ n := fun e => by rw [e, Nat.beq_refl] at ea; cases ea
              refine ⟨_, _, hk6, ?_, rfl⟩
              rw [if_neg (by omega)]
              refine VR_sl hL (by show b - a ≤ n - a; omega) ?_ (by simp; show L.base + off + a * sz = L.base + (off + a * sz); omega)
              show L.base + (off + a * sz) + (n - a) * sz ≤ L.size
              have : a * sz + (n - a) * sz = n * sz := by rw [← Nat.add_mul]; congr 1; omega
              omega
      case sl id off len sz =>
        obtain ⟨e1, hk2⟩ := ite1_spec (show ite1 (Nat.beq (slE P t) (Nat.succ sz)) (bndK lo hi len fun a b => Bool.rec (Bool.rec (K (.sl id (Nat.add off (Nat.mul a sz)) (Nat.sub b a) sz)) (K .se) (Nat.beq a b)) (K (.sl id off b sz)) (Nat.beq a 0)) = true from hk)
        obtain ⟨e, i, hu, hinf, his⟩ := szk_slice (beq_spec e1)
        obtain ⟨a, b, hk3, hab, hbn, hrun⟩ := bndK_spec (P := P) hk2
        simp only [VR] at ha
        obtain ⟨L, cap, hL, hc1, hc2, rfl⟩ := ha
        have hr := hrun ρ vlo vhi h1 h2 true cap hc1 w
        have hres : (sliceAt t (.slice (some ⟨L.blk, L.base + off, none⟩) len cap) vlo vhi none).run P w = .ok (.slice (if cap = a then some ⟨L.blk, L.base + off, none⟩ else some ⟨L.blk, L.base + off + a * sz, none⟩) (b - a) (cap - a)) w := by
          simp only [sliceAt, Sem.run_bind, run_und hu, Result.andThen_ok, Instr.slice, hr, run_size hinf, his, Sem.run_pure, Option.map_some, addr_add]
        rw [hres]
        cases ea : Nat.beq a 0 with
        | true =>
          rw [ea] at hk3
          have e0 := beq_spec ea
          subst e0
          refine ⟨_, _, hk3, ?_, rfl⟩
          have : (if cap = 0 then some (⟨L.blk, L.base + off, none⟩ : Addr) else some ⟨L.blk, L.base + off + 0 * sz, none⟩) = some ⟨L.blk, L.base + off, none⟩ := by split <;> simp
          rw [this]
          exact VR_sl hL (by omega) (by simpa using hc2) rfl
        | false =>
          rw [ea] at hk3
          cases eb : Nat.beq a b with
          | true =>
            rw [eb] at hk3
            have e0 := beq_spec eb
            subst e0
            refine ⟨_, _, hk3, ?_, rfl⟩
            simp only [VR, Nat.sub_self]
            split
            · exact ⟨_, _, rfl⟩
            · exact ⟨_, _, rfl⟩
          | false =>
            rw [eb] at hk3
            have hne : a ≠ b := fun e => by rw [e, Nat.beq_refl] at eb; cases eb
            refine ⟨_, _, hk3, ?_, rfl⟩
            rw [if_neg (by omega)]
            refine VR_sl hL (by show b - a ≤ cap - a; omega) ?_ (by simp; show L.base + off + a * sz = L.base + (off + a * sz); omega)
            show L.base + (off + a * sz) + (cap - a) * sz ≤ L.size
            have : a * sz + (cap - a) * sz = cap * sz := by rw [← Nat.add_mul]; congr 1; omega
            omega
      case sn =>
        obtain ⟨e1, hk2⟩ := ite1_spec (show ite1 (Nat.blt 0 (slE P t)) (bndK lo hi 0 fun _ _ => K .sn) = true from hk)
        obtain ⟨i, hu, hinf⟩ := slE_pos e1
        obtain ⟨a, b, hk3, hab, hbn, hrun⟩ := bndK_spec (P := P) hk2
        simp only [VR] at ha
        subst ha
        have hr := hrun ρ vlo vhi h1 h2 true 0 (Nat.le_refl _) w
        refine ⟨_, .slice none 0 0, hk3, by simp only [VR], ?_⟩
        have : a = 0 := by omega
        subst this
        have : b = 0 := by omega
        subst this
        simp only [sliceAt, Sem.run_bind, run_und hu, Result.andThen_ok, Instr.slice, hr, run_size hinf, Sem.run_pure, Option.map_none]
        simp
      case se =>
        obtain ⟨e1, hk2⟩ := ite1_spec (show ite1 (Nat.blt 0 (slE P t)) (bndK lo hi 0 fun _ _ => K .se) = true from hk)
        obtain ⟨i, hu, hinf⟩ := slE_pos e1
        obtain ⟨a, b, hk3, hab, hbn, hrun⟩ := bndK_spec (P := P) hk2
        simp only [VR] at ha
        obtain ⟨A, cap, rfl⟩ := ha
        have hr := hrun ρ vlo vhi h1 h2 true cap (Nat.zero_le _) w
        have ea : a = 0 := by omega
        subst ea
        have eb : b = 0 := by omega
        subst eb
        refine ⟨_, .slice (some A) 0 cap, hk3, by simp only [VR]; exact ⟨A, cap, rfl⟩, ?_⟩
        simp only [sliceAt, Sem.run_bind, run_und hu, Result.andThen_ok, Instr.slice, hr, run_size hinf, Sem.run_pure, Option.map_some]
        simp [Addr.add]
      case s0 =>
        obtain ⟨e1, hk2⟩ := ite1_spec (show ite1 (Nat.blt 0 (slE P t)) (bndK lo hi 0 fun _ _ => K .s0) = true from hk)
        obtain ⟨i, hu, hinf⟩ := slE_pos e1
        obtain ⟨a, b, hk3, hab, hbn, hrun⟩ := bndK_spec (P := P) hk2
        simp only [VR] at ha
        obtain ⟨A, rfl⟩ := ha
        have hr := hrun ρ vlo vhi h1 h2 true 0 (Nat.zero_le _) w
        have ea : a = 0 := by omega
        subst ea
        have eb : b = 0 := by omega
        subst eb
        refine ⟨_, .slice (some A) 0 0, hk3, by simp only [VR]; exact ⟨A, rfl⟩, ?_⟩
        simp only [sliceAt, Sem.run_bind, run_und hu, Result.andThen_ok, Instr.slice, hr, run_size hinf, Sem.run_pure, Option.map_some]
        simp
end
end Go.Mx
namespace Go.Mx
open Instr
noncomputable section
variable {P : Program} {ρ : Ren} {h : T O} {nx : Nat} {w : World}
theorem foldl_put (off : Nat) : ∀ (vs : List Value) (k : Nat) (arr : Array Value), off + k + vs.length ≤ arr.size →
    ((vs.zipIdx k).foldl (fun cs (x : Value × Nat) => cs.setIfInBounds (off + x.2) x.1) arr).toList = lput arr.toList (off + k) vs := by
  intro vs
  induction vs with
  | nil => intro k arr _; simp [lput]
  | cons v vs ih =>
    intro k arr hl
    simp only [List.length_cons] at hl
    rw [List.zipIdx_cons, List.foldl_cons, ih (k + 1) _ (by simp; omega)]
    have e := list_seg_step arr.toList (off + k) v vs (by simp; omega)
    simpa [lput, Array.toList_setIfInBounds, Nat.add_assoc] using e
inductive PsR (ρ : Ren) : List (Nat × V) → List (Nat × Value) → Prop
  | nil : PsR ρ [] []
  | cons {i : Nat} {x : V} {v : Value} {l : List (Nat × V)} {l' : List (Nat × Value)} (hv : VR ρ x v) (hl : PsR ρ l l') : PsR ρ ((i, x) :: l) ((i, v) :: l')
theorem fillK_sound {place : Nat → Nat × Nat} {place' : Nat → Option (Nat × Nat)} (hp : ∀ i o s, place i = (o, s + 1) → place' i = some (o, s)) :
    ∀ {ps : List (Nat × V)} {vs : List (Nat × Value)} {c : V} {k : V → Bool} {cells : Array Value}, fillK place ps c k = true → PsR ρ ps vs → VRs ρ c cells.toList →
      ∃ c' cells', k c' = true ∧ VRs ρ c' cells'.toList ∧ fill place' cells vs = some cells' ∧ cells'.size = cells.size := by
  intro ps
  induction ps with
  | nil =>
    intro vs c k cells hk hr hc
    cases hr
    exact ⟨c, cells, hk, hc, rfl, rfl⟩
  | cons p ps ih =>
    intro vs c k cells hk hr hc
    cases hr with
    | @cons i x v _ l' hv hl =>
      obtain ⟨cv, hk2, hcv⟩ := cellsK_spec (show cellsK x (fun new => lenK new 0 fun n => ite1 (Nat.beq (place i).2 (Nat.succ n)) <| putK c (place i).1 new fun c' => fillK place ps c' k) = true from hk)
      have hcv := hcv ρ v hv
      obtain ⟨n, hk3, hn, _⟩ := lenK_spec hk2 (VRs_isC hcv)
      rw [Nat.zero_add] at hk3
      obtain ⟨e, hk4⟩ := ite1_spec hk3
      have e := beq_spec e
      obtain ⟨c', hk5, hc', hput, hfull⟩ := putK_spec hk4 (VRs_isC hc) (VRs_isC hcv)
      obtain ⟨h1, h2, h3⟩ := hput ρ _ _ hc.CR' hcv
      have h4 := hfull ρ _ _ hc hcv
      have hlen := hn ρ _ hcv
      have hpl := hp i (place i).1 n (by rw [show n + 1 = n.succ from rfl, ← e])
      have hsz : v.cells.toList.length = v.cells.size := by simp
      have hsz2 : cells.toList.length = cells.size := by simp
      have hft := foldl_put (place i).1 v.cells.toList 0 cells (by omega)
      obtain ⟨c2, cells2, g1, g2, g3, g4⟩ := ih (cells := (lput cells.toList (place i).1 v.cells.toList).toArray) hk5 hl (by simpa using h4)
      refine ⟨c2, cells2, g1, g2, ?_, by rw [g4, List.size_toArray, lput_length _ _ _ h2, hsz2]⟩
      simp only [fill, hpl]
      have hz1 : v.cells.size = n := by omega
      have hz2 : ¬ ((place i).1 + v.cells.size > cells.size) := by omega
      have hb : ¬ ((decide (v.cells.size ≠ n) || decide ((place i).1 + v.cells.size > cells.size)) = true) := by
        rw [Bool.or_eq_true]
        rintro (h | h)
        · exact (of_decide_eq_true h) hz1
        · exact hz2 (of_decide_eq_true h)
      rw [if_neg hb]
      rw [← g3]
      congr 1
      apply Array.ext'
      rw [Nat.add_zero] at hft
      show _ = lput cells.toList (place i).1 v.cells.toList
      rw [← hft, ← Array.foldl_toList]
      simp
theorem opBuild_sound {t : TypeId} {ps : List (Nat × V)} {vs : Array (Nat × Value)} {K : V → Bool} (hk : opBuild P t ps K = true) (hr : PsR ρ ps vs.toList) :
    ∃ y r, K y = true ∧ VR ρ y r ∧ (Instr.build t vs).run P w = .ok r w := by
  obtain ⟨hb, hk⟩ := ite1_spec hk
  cases hz : zeroC P t with
  | none => rw [hz] at hk; exact Bool.noConfusion hk
  | some c =>
    rw [hz] at hk
    unfold bltOk at hb
    cases hpl : places P t with
    | none => rw [hpl] at hb; simp at hb
    | some f =>
      have hzv : ∃ it z, P.info? t = some it ∧ it.zero = some z ∧ VRs ρ c z.cells.toList := by
        unfold zeroC at hz
        cases hi : P.info? t with
        | none => rw [hi] at hz; simp at hz
        | some it =>
          cases hzz : it.zero with
          | none => rw [hi] at hz; simp [hzz] at hz
          | some z =>
            obtain ⟨v, hv1, hv2⟩ := zeroC_spec (P := P) (t := t) (c := c) (by unfold zeroC; exact hz)
            refine ⟨it, z, rfl, hzz, ?_⟩
            have := hv1 default
            simp [zeroValue, run_info hi, hzz] at this
            rw [this]
            exact hv2 ρ
      obtain ⟨it, z, hi, hzz, hvz⟩ := hzv
      obtain ⟨c', cells', h1, h2, h3, _⟩ := fillK_sound (place := placeB P t) (place' := f) (fun i o s hp => by
        unfold placeB at hp
        rw [hpl] at hp
        cases hfi : f i with
        | none => simp [hfi] at hp
        | some q =>
          obtain ⟨o', s'⟩ := q
          simp [hfi] at hp
          obtain ⟨rfl, rfl⟩ := hp
          rfl) (cells := z.cells) hk hr hvz
      refine ⟨.a c', .agg cells', h1, by simp only [VR]; exact ⟨_, h2, rfl⟩, ?_⟩
      refine run_build w t vs cells' ?_
      unfold Program.built
      unfold places at hpl
      cases hu : P.underlying t with
      | none => rw [hu] at hpl; simp at hpl
      | some d =>
        rw [hu] at hpl
        cases d <;> simp at hpl
        case struct fs =>
          simp only [hi, hzz]
          cases hm : fs.toList.mapM (fun f => (P.info? f.type).map fun i => (f.offset, i.size)) with
          | none => rw [hm] at hpl; simp at hpl
          | some l =>
            rw [hm] at hpl
            simp at hpl
            subst hpl
            simpa using h3
        case array n e =>
          cases hie : P.info? e with
          | none => rw [hie] at hpl; simp at hpl
          | some ie =>
            rw [hie] at hpl
            simp at hpl
            subst hpl
            simp only [hi, hzz, hie]
            exact h3
end
end Go.Mx
namespace Go.Mx
open Instr
noncomputable section
variable {P : Program} {ρ : Ren} {h : T O} {nx : Nat} {w : World}
theorem range_mod (a : Array Value) (_hs : 0 < a.size) : ∀ k : Nat, ((List.range (k * a.size)).map fun i => a[i % a.size]!) = (List.replicate k a.toList).flatten := by
  intro k
  induction k with
  | zero => simp
  | succ k ih =>
    have e : (k + 1) * a.size = a.size + k * a.size := by rw [Nat.succ_mul]; omega
    rw [e, List.range_add, List.map_append, List.map_map, List.replicate_succ, List.flatten_cons]
    congr 1
    · apply List.ext_getElem?
      intro j
      by_cases hj : j < a.size
      · simp [hj, Nat.mod_eq_of_lt hj]
      · simp [hj]
    · rw [← ih]
      apply List.map_congr_left
      intro i _
      simp
theorem repK_spec {z : V} : ∀ {n : Nat} {k : V → Bool}, repK z n k = true → isC z → ∃ c, k c = true ∧ ∀ ρ vs, VRs ρ z vs → VRs ρ c (List.replicate n vs).flatten := by
  intro n
  induction n with
  | zero => intro k hk _; exact ⟨.nil, hk, fun ρ vs _ => by simp [VRs]⟩
  | succ n ih =>
    intro k hk hc
    obtain ⟨c, hc1, hc2⟩ := ih (k := fun c => catK z c k) hk hc
    obtain ⟨c', h1, _, h2, _⟩ := catK_spec hc1 hc
    exact ⟨c', h1, fun ρ vs hv => by rw [List.replicate_succ, List.flatten_cons]; exact h2 ρ _ _ hv (hc2 ρ vs hv)⟩
theorem opBuildSlice_sound {t : TypeId} {len : Nat} {ps : List (Nat × V)} {vs : Array (Nat × Value)} {K : KV} (hk : opBuildSlice P t len ps h nx K = true) (hr : PsR ρ ps vs.toList) (s : St ρ h nx w) :
    ∃ ρ' x h' nx' v w', K x h' nx' = true ∧ VR ρ' x v ∧ St ρ' h' nx' w' ∧ Ext ρ h w ρ' h' w' ∧ (Instr.buildSlice t len vs).run P w = .ok v w' := by
  cases hE : slE P t with
  | zero => unfold opBuildSlice at hk; rw [hE] at hk; exact Bool.noConfusion hk
  | succ sz =>
    unfold opBuildSlice at hk
    rw [hE] at hk
    obtain ⟨e1, hk⟩ := ite1_spec hk
    obtain ⟨e2, hk⟩ := ite1_spec hk
    have e1 := Nat.blt_eq.mp e1
    have e2 := Nat.le_of_ble_eq_true e2
    obtain ⟨ie, hu, hie, hsz⟩ := slE_spec hE
    cases hz : zeroC P (slT P t) with
    | none => rw [hz] at hk; exact Bool.noConfusion hk
    | some z =>
      rw [hz] at hk
      obtain ⟨zv, hzv, hzr⟩ := zeroC_spec hz
      obtain ⟨zn, hk, hzn, _⟩ := lenK_spec (show lenK z 0 (fun zn => ite1 (Nat.beq zn sz) <| repK z len fun c => fillK (placeS P t) ps c fun c' => newK c' (slT P t) h nx fun id h' nx' => K (.sl id 0 len sz) h' nx') = true from hk) (VRs_isC (hzr ρ))
      rw [Nat.zero_add] at hk
      obtain ⟨e3, hk⟩ := ite1_spec hk
      have e3 := beq_spec e3
      have hzs : zv.cells.size = sz := by have := hzn ρ _ (hzr ρ); simp at this; omega
      obtain ⟨c, hk, hrep⟩ := repK_spec hk (VRs_isC (hzr ρ))
      have hc := hrep ρ _ (hzr ρ)
      have hcells : ((Array.range (len * sz)).map ((if len * sz = 0 then #[] else zv.cells)[· % (if len * sz = 0 then (#[] : Array Value) else zv.cells).size]!)).toList = (List.replicate len zv.cells.toList).flatten := by
        by_cases h0 : len * sz = 0
        · have hl : len = 0 := by
            rcases Nat.mul_eq_zero.1 h0 with h | h
            · exact h
            · omega
          subst hl
          simp
        · rw [if_neg h0]
          have := range_mod zv.cells (by omega) len
          rw [← this, hzs]
          simp
      obtain ⟨c', cells', hk, h2, h3, h4⟩ := fillK_sound (place := placeS P t) (place' := fun i => some (i * sz, sz)) (fun i o s hp => by
        unfold placeS at hp
        rw [hE] at hp
        simp at hp
        obtain ⟨rfl, rfl⟩ := hp
        rfl) (cells := (Array.range (len * sz)).map ((if len * sz = 0 then #[] else zv.cells)[· % (if len * sz = 0 then (#[] : Array Value) else zv.cells).size]!)) hk hr (by rw [hcells]; exact hc)
      obtain ⟨h', w', g1, rfl, g3, g4⟩ := newK_sound (K := fun id h' nx' => K (.sl id 0 len sz) h' nx') hk s h2.CR'
      refine ⟨_, _, _, _, .slice (some ⟨w.heap.size, 0, none⟩) len len, _, g1, ?_, g3, g4, ?_⟩
      · refine VR_sl (upd_same _ _ _) (Nat.le_refl _) ?_ rfl
        simp at h4
        simp [h4]
      · have hle : ¬ (len * sz > 2 ^ 24) := by simp; omega
        unfold Instr.buildSlice
        by_cases h0 : len * sz = 0
        · simp only [h0, if_true] at h3
          have hle0 : ¬ (0 > 2 ^ 24) := by decide
          simp only [Sem.run_bind, run_und hu, Result.andThen_ok, run_size hie, hsz, hle0, if_false, h0, if_true, Sem.run_pure, h3, newRow, run_newObj]
          rfl
        · simp only [h0, if_false] at h3
          simp only [Sem.run_bind, run_und hu, Result.andThen_ok, run_size hie, hsz, hle, if_false, h0, Sem.run_pure, hzv, h3, newRow, run_newObj]
          rfl
end
end Go.Mx
