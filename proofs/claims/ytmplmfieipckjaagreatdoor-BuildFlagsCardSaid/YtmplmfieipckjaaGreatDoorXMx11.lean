/-
  A part of a small executor of the model, proved sound (Mx11 of 46). No condition.
-/
import Derived.Test.YtmplmfieipckjaaGreatDoorXMx10
namespace Go.Mx
open Instr
noncomputable section
variable {P : Program} {ρ : Ren} {h : T O} {nx : Nat} {w : World}
theorem unV_sound {op : UnOp} {v : V} {va : Value} {K : V → Bool} (hk : unV op v K = true) (ha : VR ρ v va) : ∃ c r, K c = true ∧ VR ρ c r ∧ (Op.unary op va).run P w = .ok r w := by
  cases op
  case neg =>
    obtain ⟨k, n, rfl, hk2⟩ := vI_spec (show vI v (fun k n => wrK k (Int.sub (Int.ofNat 0) n) fun m => K (.i k m)) = true from hk)
    rw [wrK_eq] at hk2
    simp only [VR] at ha
    subst ha
    exact ⟨_, _, hk2, VRi _ _ _, by
      have e : (Int.sub (Int.ofNat 0) n) = 0 - n := rfl
      simp only [Op.unary, Op.intArith, e, Sem.run_pure]⟩
  case xor =>
    obtain ⟨k, n, rfl, hk2⟩ := vI_spec (show vI v (fun k n => bitK .xor k (Bool.rec k.max (-1) k.signed) n K) = true from hk)
    have e : forceI (bitsI .xor k (Bool.rec k.max (-1) k.signed) n) (fun n => K (.i k n)) = true := hk2
    rw [forceI_eq] at e
    simp only [VR] at ha
    subst ha
    refine ⟨_, _, e, VRi _ _ _, ?_⟩
    have : (if k.signed = true then (-1 : Int) else k.max) = Bool.rec k.max (-1) k.signed := by cases k.signed <;> rfl
    simp only [Op.unary, this]
    simp [Op.intBits, bitsI]
  case not =>
    obtain ⟨b, rfl, hk2⟩ := vB_spec (show vB v (fun b => K (.b (inot b))) = true from hk)
    rw [inot_eq] at hk2
    simp only [VR] at ha
    subst ha
    exact ⟨_, _, hk2, VRb _ _, rfl⟩
  case plus => exact Bool.noConfusion hk
theorem addr_add (b o n : Nat) : (⟨b, o, none⟩ : Addr).add n = ⟨b, o + n, none⟩ := Addr.add_lit b o n
theorem arr_spec {t : TypeId} {n sz : Nat} (h1 : Nat.blt n (arN P t) = true) (h2 : arE P t = sz + 1) : ∃ m e i, P.underlying t = some (.array m e) ∧ arN P t = m + 1 ∧ P.info? e = some i ∧ i.size = sz := by
  unfold arN at h1 ⊢
  unfold arE at h2
  cases hu : P.underlying t with
  | none => rw [hu] at h2; simp at h2
  | some d =>
    rw [hu] at h1 h2
    cases d <;> simp at h2
    case array m e =>
      obtain ⟨i, hi, hin⟩ := szk_spec h2
      exact ⟨m, e, i, rfl, rfl, hi, hin⟩
theorem opIndexAddr_sound {t : TypeId} {v ix : V} {va vi : Value} {K : V → Bool} (hk : opIndexAddr P t v ix K = true) (ha : VR ρ v va) (hi : VR ρ ix vi) :
    ∃ y r, K y = true ∧ VR ρ y r ∧ (indexAt t va vi).run P w = .ok r w := by
  obtain ⟨kd, j, rfl, hk2⟩ := vN_spec hk
  simp only [VR] at hi
  subst hi
  cases v <;> first | exact Bool.noConfusion hk2 | skip
  case sl id off len sz =>
    obtain ⟨e1, hk3⟩ := ite1_spec (show ite1 (Nat.beq (slE P t) (Nat.succ sz)) (ite1 (Nat.blt j len) <| K (.p id (Nat.add off (Nat.mul j sz)))) = true from hk2)
    obtain ⟨e2, hk4⟩ := ite1_spec hk3
    obtain ⟨i, hu, hinf, his⟩ := slE_spec (beq_spec e1)
    have hlt := Nat.blt_eq.mp e2
    simp only [VR] at ha
    obtain ⟨L, c, hL, hc1, hc2, rfl⟩ := ha
    refine ⟨_, .pointer (some ⟨L.blk, L.base + (off + j * sz), none⟩), hk4, by simp only [VR]; exact ⟨L, hL, rfl⟩, ?_⟩
    simp only [indexAt, asIntOf, Sem.run_bind, Sem.run_pure, Result.andThen_ok, run_und hu]
    have h1 : (0 : Int) ≤ (j : Int) := by omega
    have h2 : (j : Int) < (len : Int) := by omega
    simp only [h1, h2, and_self, if_true, Sem.run_bind, run_size hinf, his, Result.andThen_ok, Sem.run_pure, addr_add, Int.ofNat_eq_natCast, Int.toNat_natCast, Nat.add_assoc]
  case p id off =>
    obtain ⟨e2, hk3⟩ := ite1_spec (show ite1 (Nat.blt (Nat.succ j) (arN P t)) (Nat.rec (motive := fun _ => Bool) false (fun sz _ => K (.p id (Nat.add off (Nat.mul j sz)))) (arE P t)) = true from hk2)
    generalize hE : arE P t = E at hk3
    cases E with
    | zero => exact Bool.noConfusion hk3
    | succ sz =>
      obtain ⟨m, e, i, hu, hm, hinf, his⟩ := arr_spec e2 hE
      have hlt := Nat.blt_eq.mp e2
      rw [hm] at hlt
      simp only [VR] at ha
      obtain ⟨L, hL, rfl⟩ := ha
      refine ⟨_, .pointer (some ⟨L.blk, L.base + (off + j * sz), none⟩), hk3, by simp only [VR]; exact ⟨L, hL, rfl⟩, ?_⟩
      simp only [indexAt, asIntOf, Sem.run_bind, Sem.run_pure, Result.andThen_ok, run_und hu, sureAddr]
      have h1 : (0 : Int) ≤ (j : Int) := by omega
      have h2 : (j : Int) < (m : Int) := by omega
      simp only [h1, h2, and_self, if_true, Sem.run_bind, run_size hinf, his, Result.andThen_ok, Sem.run_pure, addr_add, Int.ofNat_eq_natCast, Int.toNat_natCast, Nat.add_assoc]
theorem opIndex_sound {t : TypeId} {v ix : V} {va vi : Value} {K : V → Bool} (hk : opIndex P t v ix K = true) (ha : VR ρ v va) (hi : VR ρ ix vi) :
    ∃ y r, K y = true ∧ VR ρ y r ∧ (Instr.index t va vi).run P w = .ok r w := by
  obtain ⟨kd, j, rfl, hk2⟩ := vN_spec hk
  simp only [VR] at hi
  subst hi
  cases v <;> first | exact Bool.noConfusion hk2 | skip
  case s l =>
    obtain ⟨e1, hk3⟩ := ite1_spec (show ite1 (Nat.beq (tyk P t) 1) (snthK l j fun x => K (.i .u8 (Int.ofNat x))) = true from hk2)
    obtain ⟨x, hx, hk4⟩ := snthK_spec hk3
    have hu := (tyk_cases t).1 (beq_spec e1)
    simp only [VR] at ha
    obtain ⟨rfl, hl⟩ := ha
    have hx2 := hl x (List.mem_of_getElem? hx)
    refine ⟨_, _, hk4, VRi _ _ _, ?_⟩
    have hg := bs_get l j x hx
    have h0 : (0 : Int) ≤ (j : Int) := by omega
    simp only [Instr.index, asIntOf, Sem.run_bind, Sem.run_pure, Result.andThen_ok, run_und hu, h0, if_true, Int.ofNat_eq_natCast, Int.toNat_natCast, hg]
    simp [UInt8.toNat_ofNat', Nat.mod_eq_of_lt hx2]
def OpR (ρ : Ren) : Option V → Option Value → Prop
  | none, none => True
  | some x, some v => VR ρ x v
  | _, _ => False
theorem sliceBound_run {kd : IntKind} {j y : Nat} {code : BoundsCode} (hj : j ≤ y) : (sliceBound (.int kd (j : Int)) y code).run P w = .ok j w := by
  have h1 : (0 : Int) ≤ (j : Int) := by omega
  have h2 : (j : Int) ≤ (y : Int) := by omega
  simp only [sliceBound, asIntOf, Sem.run_bind, Sem.run_pure, Result.andThen_ok, h1, h2, and_self, if_true, Int.toNat_natCast]
theorem bndK_spec {lo hi : Option V} {n : Nat} {k : Nat → Nat → Bool} (hk : bndK lo hi n k = true) :
    ∃ a b, k a b = true ∧ a ≤ b ∧ b ≤ n ∧ ∀ ρ vlo vhi, OpR ρ lo vlo → OpR ρ hi vhi → ∀ s cap, n ≤ cap → ∀ w, (sliceBounds s n cap vlo vhi none).run P w = .ok (a, b, cap) w := by
  have hh : ∃ b, b ≤ n ∧ (Option.rec (motive := fun _ => (Nat → Bool) → Bool) (fun c => c 0) (fun v c => vN v fun l => ite1 (Nat.ble l b) <| c l) lo fun l => k l b) = true ∧
      ∀ ρ vhi, OpR ρ hi vhi → ∀ (cap : Nat) (code : BoundsCode), n ≤ cap → (vhi = none ∧ b = n) ∨ (∃ v, vhi = some v ∧ ∀ w, (sliceBound v cap code).run P w = .ok b w) := by
    cases hi with
    | none =>
      refine ⟨n, Nat.le_refl _, hk, fun ρ vhi hr cap code _ => .inl ⟨?_, rfl⟩⟩
      cases vhi with
      | none => rfl
      | some v => exact hr.elim
    | some v =>
      obtain ⟨kd, j, rfl, hk2⟩ := vN_spec (show vN v (fun h => ite1 (Nat.ble h n) _) = true from hk)
      obtain ⟨e, hk3⟩ := ite1_spec hk2
      have e := Nat.le_of_ble_eq_true e
      refine ⟨j, e, hk3, fun ρ vhi hr cap code hc => .inr ?_⟩
      cases vhi with
      | none => exact hr.elim
      | some u =>
        simp only [OpR, VR] at hr
        subst hr
        exact ⟨_, rfl, fun w => sliceBound_run (by omega)⟩
  obtain ⟨b, hb, hk2, hhi⟩ := hh
  cases lo with
  | none =>
    refine ⟨0, b, hk2, Nat.zero_le _, hb, fun ρ vlo vhi h1 h2 s cap hc w => ?_⟩
    cases vlo with
    | some v => exact h1.elim
    | none =>
      rcases hhi ρ vhi h2 cap (if s then .sliceAcap else .sliceAlen) hc with ⟨rfl, rfl⟩ | ⟨v, rfl, hv⟩
      · simp [sliceBounds]
      · simp [sliceBounds, hv]
  | some v =>
    obtain ⟨kd, j, rfl, hk3⟩ := vN_spec (show vN v (fun l => ite1 (Nat.ble l b) <| k l b) = true from hk2)
    obtain ⟨e, hk4⟩ := ite1_spec hk3
    have e := Nat.le_of_ble_eq_true e
    refine ⟨j, b, hk4, e, hb, fun ρ vlo vhi h1 h2 s cap hc w => ?_⟩
    cases vlo with
    | none => exact h1.elim
    | some u =>
      simp only [OpR, VR] at h1
      subst h1
      rcases hhi ρ vhi h2 cap (if s then .sliceAcap else .sliceAlen) hc with ⟨rfl, rfl⟩ | ⟨v, rfl, hv⟩
      · simp [sliceBounds, sliceBound_run e]
      · simp [sliceBounds, hv, sliceBound_run e]
theorem szk_slice {t : TypeId} {sz : Nat} (h : slE P t = sz + 1) : ∃ e i, P.underlying t = some (.slice e) ∧ P.info? e = some i ∧ i.size = sz := by
  obtain ⟨i, h1, h2, h3⟩ := slE_spec h
  exact ⟨_, i, h1, h2, h3⟩
theorem VR_sl {ρ : Ren} {id off len sz : Nat} {L : Loc} {cap : Nat} {A : Addr} (h1 : ρ id = some L) (h2 : len ≤ cap) (h3 : L.base + off + cap * sz ≤ L.size) (hA : A = ⟨L.blk, L.base + off, none⟩) :
    VR ρ (.sl id off len sz) (.slice (some A) len cap) := by
  simp only [VR]
  exact ⟨L, cap, h1, h2, h3, by rw [hA]⟩
theorem VR_s0 (ρ : Ren) (A : Addr) : VR ρ .s0 (.slice (some A) 0 0) := by simp only [VR]; exact ⟨A, rfl⟩
theorem slice_max {t e : TypeId} {i : TypeInfo} {A : Addr} {len cap : Nat} {vlo vhi vmx : Option Value} (hu : P.underlying t = some (.slice e)) (hinf : P.info? e = some i)
    (hb : (sliceBounds true len cap vlo vhi vmx).run P w = .ok (0, 0, 0) w) : (sliceAt t (.slice (some A) len cap) vlo vhi vmx).run P w = .ok (.slice (some A) 0 0) w := by
  simp only [sliceAt, Sem.run_bind, run_und hu, Result.andThen_ok, Instr.slice, hb, run_size hinf, Sem.run_pure]
  simp
theorem opSlice_sound {t : TypeId} {v : V} {lo hi mx : Option V} {va : Value} {vlo vhi vmx : Option Value} {K : V → Bool} (hk : opSlice P t v lo hi mx K = true) (ha : VR ρ v va)
    (h1 : OpR ρ lo vlo) (h2 : OpR ρ hi vhi) (h3 : OpR ρ mx vmx) :
    ∃ y r, K y = true ∧ VR ρ y r ∧ (sliceAt t va vlo vhi vmx).run P w = .ok r w := by
  cases mx with
  | some m =>
    cases vmx with
    | none => exact h3.elim
    | some vm =>
      obtain ⟨kd, j, rfl, hk2⟩ := vN_spec (show vN m _ = true from hk)
      obtain ⟨e, hk3⟩ := ite1_spec hk2
      have e := beq_spec e
      subst e
      obtain ⟨e2, hk4⟩ := ite1_spec hk3
      obtain ⟨i, hu, hinf⟩ := slE_pos e2
      cases hi with
      | none => exact Bool.noConfusion hk4
      | some hv =>
        cases vhi with
        | none => exact h2.elim
        | some vh =>
          obtain ⟨kd2, j2, rfl, hk5⟩ := vN_spec (show vN hv _ = true from hk4)
          obtain ⟨e3, hk6⟩ := ite1_spec hk5
          have e3 := beq_spec e3
          subst e3
          obtain ⟨a, b, hk7, hab, hbn, hrun⟩ := bndK_spec (P := P) hk6
          have ea : a = 0 := by omega
          subst ea
          have eb : b = 0 := by omega
          subst eb
          simp only [OpR, VR] at h2 h3
          subst h2
          subst h3
          have key : ∀ cap, ∀ n, (sliceBounds true n cap vlo (some (.int kd2 (Int.ofNat 0))) (some (.int kd (Int.ofNat 0)))).run P w = .ok (0, 0, 0) w := by
            intro cap n
            have hz : (sliceBound (.int kd (Int.ofNat 0)) cap .slice3Acap).run P w = .ok 0 w := sliceBound_run (Nat.zero_le _)
            have hz2 : (sliceBound (.int kd2 (Int.ofNat 0)) 0 .slice3B).run P w = .ok 0 w := sliceBound_run (Nat.zero_le _)
            cases lo with
            | none =>
              cases vlo with
              | some v => exact h1.elim
              | none => simp only [sliceBounds, Sem.run_bind, if_true, hz, hz2, Result.andThen_ok, Sem.run_pure]
            | some lv =>
              cases vlo with
              | none => exact h1.elim
              | some u =>
                obtain ⟨kd3, j3, rfl, hk8⟩ := vN_spec (show vN lv _ = true from hk6)
                obtain ⟨e4, _⟩ := ite1_spec hk8
                have e4 := Nat.le_of_ble_eq_true e4
                have e5 : j3 = 0 := by omega
                subst e5
                simp only [OpR, VR] at h1
                subst h1
                have hz3 : (sliceBound (.int kd3 (Int.ofNat 0)) 0 .slice3C).run P w = .ok 0 w := sliceBound_run (Nat.zero_le _)
                simp only [sliceBounds, Sem.run_bind, if_true, hz, hz2, hz3, Result.andThen_ok, Sem.run_pure, Option.isSome_some]
          cases v <;> first | exact Bool.noConfusion hk7 | skip
          case sn =>
            simp only [VR] at ha
            subst ha
            refine ⟨_, .slice none 0 0, hk7, by simp only [VR], ?_⟩
            simp only [sliceAt, Sem.run_bind, run_und hu, Result.andThen_ok, Instr.slice, key, run_size hinf, Sem.run_pure]
            simp
          all_goals
            simp only [VR] at ha
            first
              | obtain ⟨L, c, _, _, _, rfl⟩ := ha
              | obtain ⟨A, c, rfl⟩ := ha
              | obtain ⟨A, rfl⟩ := ha
            exact ⟨_, _, hk7, VR_s0 ρ _, slice_max hu hinf (key _ _)⟩
  | none =>
    cases vmx with
    | some vm => exact h3.elim
    | none =>
      cases v <;> first | exact Bool.noConfusion hk | skip
      case s l =>
        obtain ⟨e1, hk2⟩ := ite1_spec (show ite1 (Nat.beq (tyk P t) 1) (slenK l 0 fun n => bndK lo hi n fun a b => sdropK l a fun r => stakeK r (Nat.sub b a) fun c => K (.s c)) = true from hk)
        have hu := (tyk_cases t).1 (beq_spec e1)
        rw [slenK_eq, Nat.zero_add] at hk2
        obtain ⟨a, b, hk3, hab, hbn, hrun⟩ := bndK_spec (P := P) hk2
        obtain ⟨_, hk4⟩ := sdropK_spec hk3
        obtain ⟨_, hk5⟩ := stakeK_spec hk4
        simp only [VR] at ha
        obtain ⟨rfl, hl⟩ := ha
        refine ⟨_, _, hk5, VRst ρ (fun n hn => hl n (List.mem_of_mem_drop (List.mem_of_mem_take hn))), ?_⟩
        have := hrun ρ vlo vhi h1 h2 false l.length (Nat.le_refl _) w
        simp only [sliceAt, Sem.run_bind, run_und hu, Result.andThen_ok, Instr.slice, Option.isSome_none, Bool.false_eq_true, if_false, bs_size, this, Sem.run_pure, bs_extract]
        rfl
      case sl id off len sz =>
        obtain ⟨e1, hk2⟩ := ite1_spec (show ite1 (Nat.beq (slE P t) (Nat.succ sz)) (bndK lo hi len fun a b => Bool.rec (Bool.rec (K (.sl id (Nat.add off (Nat.mul a sz)) (Nat.sub b a) sz)) (K .se) (Nat.beq a b)) (K (.sl id off b sz)) (Nat.beq a 0)) = true from hk)
        obtain ⟨e, i, hu, hinf, his⟩ := szk_slice (beq_spec e1)
        obtain ⟨a, b, hk3, hab, hbn, hrun⟩ := bndK_spec (P := P) hk2
        simp only [VR] at ha
        obtain ⟨L, cap, hL, hc1, hc2, rfl⟩ := ha
        have hr := hrun ρ vlo vhi h1 h2 true cap hc1 w
        have hres : (sliceAt t (.slice (some ⟨L.blk, L.base + off, none⟩) len cap) vlo vhi none).run P w = .ok (.slice (if cap = a then some ⟨L.blk, L.base + off, none⟩ else some ⟨L.blk, L.base + off + a * sz, none⟩) (b - a) (cap - a)) w := by
          simp only [sliceAt, Sem.run_bind, run_und hu, Result.andThen_ok, Instr.slice, hr, run_size hinf, his, Sem.run_pure, Option.map_some, addr_add]
        rw [hres]
        cases ea : Nat.beq a 0 with
        | true =>
          rw [ea] at hk3
          have e0 := beq_spec ea
          subst e0
          refine ⟨_, _, hk3, ?_, rfl⟩
          have : (if cap = 0 then some (⟨L.blk, L.base + off, none⟩ : Addr) else some ⟨L.blk, L.base + off + 0 * sz, none⟩) = some ⟨L.blk, L.base + off, none⟩ := by split <;> simp
          rw [this]
          exact VR_sl hL (by omega) (by simpa using hc2) rfl
        | false =>
          rw [ea] at hk3
          cases eb : Nat.beq a b with
          | true =>
            rw [eb] at hk3
            have e0 := beq_spec eb
            subst e0
            refine ⟨_, _, hk3, ?_, rfl⟩
            simp only [VR, Nat.sub_self]
            split
            · exact ⟨_, _, rfl⟩
            · exact ⟨_, _, rfl⟩
          | false =>
            rw [eb] at hk3
            have hne : a ≠ b := fun e => by rw [e, Nat.beq_refl] at eb; cases eb
            refine ⟨_, _, hk3, ?_, rfl⟩
            rw [if_neg (by omega)]
            refine VR_sl hL (by show b - a ≤ cap - a; omega) ?_ (by simp; show L.base + off + a * sz = L.base + (off + a * sz); omega)
            show L.base + (off + a * sz) + (cap - a) * sz ≤ L.size
            have : a * sz + (cap - a) * sz = cap * sz := by rw [← Nat.add_mul]; congr 1; omega
            omega
      case sn =>
        obtain ⟨e1, hk2⟩ := ite1_spec (show ite1 (Nat.blt 0 (slE P t)) (bndK lo hi 0 fun _ _ => K .sn) = true from hk)
        obtain ⟨i, hu, hinf⟩ := slE_pos e1
        obtain ⟨a, b, hk3, hab, hbn, hrun⟩ := bndK_spec (P := P) hk2
        simp only [VR] at ha
        subst ha
        have hr := hrun ρ vlo vhi h1 h2 true 0 (Nat.le_refl _) w
        refine ⟨_, .slice none 0 0, hk3, by simp only [VR], ?_⟩
        have : a = 0 := by omega
        subst this
        have : b = 0 := by omega
        subst this
        simp only [sliceAt, Sem.run_bind, run_und hu, Result.andThen_ok, Instr.slice, hr, run_size hinf, Sem.run_pure, Option.map_none]
        simp
      case se =>
        obtain ⟨e1, hk2⟩ := ite1_spec (show ite1 (Nat.blt 0 (slE P t)) (bndK lo hi 0 fun _ _ => K .se) = true from hk)
        obtain ⟨i, hu, hinf⟩ := slE_pos e1
        obtain ⟨a, b, hk3, hab, hbn, hrun⟩ := bndK_spec (P := P) hk2
        simp only [VR] at ha
        obtain ⟨A, cap, rfl⟩ := ha
        have hr := hrun ρ vlo vhi h1 h2 true cap (Nat.zero_le _) w
        have ea : a = 0 := by omega
        subst ea
        have eb : b = 0 := by omega
        subst eb
        refine ⟨_, .slice (some A) 0 cap, hk3, by simp only [VR]; exact ⟨A, cap, rfl⟩, ?_⟩
        simp only [sliceAt, Sem.run_bind, run_und hu, Result.andThen_ok, Instr.slice, hr, run_size hinf, Sem.run_pure, Option.map_some]
        simp [Addr.add]
      case s0 =>
        obtain ⟨e1, hk2⟩ := ite1_spec (show ite1 (Nat.blt 0 (slE P t)) (bndK lo hi 0 fun _ _ => K .s0) = true from hk)
        obtain ⟨i, hu, hinf⟩ := slE_pos e1
        obtain ⟨a, b, hk3, hab, hbn, hrun⟩ := bndK_spec (P := P) hk2
        simp only [VR] at ha
        obtain ⟨A, rfl⟩ := ha
        have hr := hrun ρ vlo vhi h1 h2 true 0 (Nat.zero_le _) w
        have ea : a = 0 := by omega
        subst ea
        have eb : b = 0 := by omega
        subst eb
        refine ⟨_, .slice (some A) 0 0, hk3, by simp only [VR]; exact ⟨A, rfl⟩, ?_⟩
        simp only [sliceAt, Sem.run_bind, run_und hu, Result.andThen_ok, Instr.slice, hr, run_size hinf, Sem.run_pure, Option.map_some]
        simp
end
end Go.Mx
