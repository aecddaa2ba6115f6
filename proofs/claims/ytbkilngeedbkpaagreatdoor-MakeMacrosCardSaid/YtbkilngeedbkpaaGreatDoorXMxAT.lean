/-
  A part of a small executor of the model, proved sound (30 of 33). No condition.
-/
import Derived.Test.YtbkilngeedbkpaaGreatDoorXMxAB
import Derived.Test.YtbkilngeedbkpaaGreatDoorXMxAM
namespace Go.Mx
noncomputable section
variable {P : Program} {ng : Nat}
def sameE (a : E) : E → Bool := E.rec (motive := fun _ => E → Bool) (fun b => E.rec (motive := fun _ => Bool) true (fun _ _ _ _ _ => false) b)
  (fun k v bn _ ih b => E.rec (motive := fun _ => Bool) false (fun k' v' bn' r' _ => ite1 (sameV k k') <| ite1 (sameV v v') <| ite1 (Nat.beq bn bn') <| ih r') b) a
theorem sameE_eq : ∀ {a b : E}, sameE a b = true → a = b := by
  intro a
  induction a with
  | nil => intro b h; cases b with
    | nil => rfl
    | cons _ _ _ _ => exact Bool.noConfusion h
  | cons k v bn r ih =>
    intro b h
    cases b with
    | nil => exact Bool.noConfusion h
    | cons k' v' bn' r' =>
      obtain ⟨e1, h⟩ := ite1_spec (show ite1 (sameV k k') (ite1 (sameV v v') <| ite1 (Nat.beq bn bn') <| sameE r r') = true from h)
      obtain ⟨e2, h⟩ := ite1_spec h
      obtain ⟨e3, h⟩ := ite1_spec h
      rw [sameV_eq e1, sameV_eq e2, beq_spec e3, ih h]
def sameNs (a : List Nat) : List Nat → Bool := List.rec (motive := fun _ => List Nat → Bool) (fun b => List.rec (motive := fun _ => Bool) true (fun _ _ _ => false) b)
  (fun x _ ih b => List.rec (motive := fun _ => Bool) false (fun y r _ => ite1 (Nat.beq x y) (ih r)) b) a
theorem sameNs_eq : ∀ {a b : List Nat}, sameNs a b = true → a = b := by
  intro a
  induction a with
  | nil => intro b h; cases b with
    | nil => rfl
    | cons _ _ => exact Bool.noConfusion h
  | cons x l ih =>
    intro b h
    cases b with
    | nil => exact Bool.noConfusion h
    | cons y r =>
      obtain ⟨e1, h⟩ := ite1_spec (show ite1 (Nat.beq x y) (sameNs l r) = true from h)
      rw [beq_spec e1, ih h]
def sameOx : O → O → Bool
  | .none, b => match b with
    | .none => true
    | _ => false
  | .c l t w, b => match b with
    | .c l' t' w' => ite1 (sameV l l') <| ite1 (Nat.beq t t') <| bs_eq w w'
    | _ => false
  | .mp es c, b => match b with
    | .mp es' c' => ite1 (sameE es es') <| Nat.beq c c'
    | _ => false
  | .si l p, b => match b with
    | .si l' p' => ite1 (sameNs l l') <| Nat.beq p p'
    | _ => false
  | .v l t, b => match b with
    | .v l' t' => ite1 (sameV l l') <| Nat.beq t t'
    | _ => false
  | .mi m s e l, b => match b with
    | .mi m' s' e' l' => ite1 (sameV m m') <| ite1 (Nat.beq s s') <| ite1 (sameNs e e') <| Nat.beq l l'
    | _ => false
  | .r l t w, b => match b with
    | .r l' t' w' => ite1 (sameV l l') <| ite1 (Nat.beq t t') <| bs_eq w w'
    | _ => false
def roB : O → Bool
  | .c _ _ w => bs_eq w false
  | .r _ _ w => bs_eq w false
  | _ => false
theorem bsq {a b : Bool} (h : bs_eq a b = true) : a = b := by cases a <;> cases b <;> first | rfl | exact Bool.noConfusion h
theorem sameOx_eq {a b : O} (h : sameOx a b = true) : a = b := by
  cases a <;> cases b <;> first | exact Bool.noConfusion h | rfl | skip
  case c.c l t w l' t' w' =>
    obtain ⟨e1, h⟩ := ite1_spec (show ite1 (sameV l l') (ite1 (Nat.beq t t') <| bs_eq w w') = true from h)
    obtain ⟨e2, h⟩ := ite1_spec h
    rw [sameV_eq e1, beq_spec e2, bsq h]
  case mp.mp es c es' c' =>
    obtain ⟨e1, h⟩ := ite1_spec (show ite1 (sameE es es') (Nat.beq c c') = true from h)
    rw [sameE_eq e1, beq_spec h]
  case si.si l p l' p' =>
    obtain ⟨e1, h⟩ := ite1_spec (show ite1 (sameNs l l') (Nat.beq p p') = true from h)
    rw [sameNs_eq e1, beq_spec h]
  case v.v l t l' t' =>
    obtain ⟨e1, h⟩ := ite1_spec (show ite1 (sameV l l') (Nat.beq t t') = true from h)
    rw [sameV_eq e1, beq_spec h]
  case mi.mi m s e l m' s' e' l' =>
    obtain ⟨e1, h⟩ := ite1_spec (show ite1 (sameV m m') (ite1 (Nat.beq s s') <| ite1 (sameNs e e') <| Nat.beq l l') = true from h)
    obtain ⟨e2, h⟩ := ite1_spec h
    obtain ⟨e3, h⟩ := ite1_spec h
    rw [sameV_eq e1, beq_spec e2, sameNs_eq e3, beq_spec h]
  case r.r l t w l' t' w' =>
    obtain ⟨e1, h⟩ := ite1_spec (show ite1 (sameV l l') (ite1 (Nat.beq t t') <| bs_eq w w') = true from h)
    obtain ⟨e2, h⟩ := ite1_spec h
    rw [sameV_eq e1, beq_spec e2, bsq h]
theorem roB_wr {o : O} (h : roB o = true) : ¬ o.wr := by
  cases o <;> first | exact Bool.noConfusion h | skip
  case c l t w => cases w with
    | false => exact fun h1 => Bool.noConfusion h1
    | true => exact Bool.noConfusion h
  case r l t w => cases w with
    | false => exact fun h1 => Bool.noConfusion h1
    | true => exact Bool.noConfusion h
theorem CR_back {ρ ρ' : Ren} (hle : Ren.le ρ ρ') : ∀ {l : V} {vs0 vs : List Value}, CR ρ l vs0 → CR ρ' l vs → CR ρ l vs := by
  intro l
  induction l with
  | nil => intro _ vs _ _; simp only [CR]
  | cons x l _ ih =>
    intro vs0 vs h0 h
    simp only [CR] at h0 h ⊢
    obtain ⟨y0, ys0, rfl, a1, a2⟩ := h0
    obtain ⟨y, ys, rfl, b1, b2⟩ := h
    exact ⟨y, ys, rfl, (VR_back hle x).1 _ _ a1 b1, ih a2 b2⟩
  | _ => intro vs0 vs h0; simp only [CR] at h0
theorem ER_back {ρ ρ' : Ren} (hle : Ren.le ρ ρ') : ∀ {x : E} {l0 l : List MapEntry}, ER ρ x l0 → ER ρ' x l → ER ρ x l := by
  intro x
  induction x with
  | nil => intro l0 l _ h; simpa only [ER] using h
  | cons k v bn r ih =>
    intro l0 l h0 h
    simp only [ER] at h0 h ⊢
    obtain ⟨e0, es0, rfl, a1, a2, a3, a4⟩ := h0
    obtain ⟨e, es, rfl, b1, b2, b3, b4⟩ := h
    exact ⟨e, es, rfl, (VR_back hle k).1 _ _ a1 b1, (VR_back hle v).1 _ _ a2 b2, b3, ih a4 b4⟩
theorem OR_back {ρ ρ' : Ren} (hle : Ren.le ρ ρ') {L : Loc} {x : O} {o0 o : Obj} (h0 : OR ρ L x o0) (h : OR ρ' L x o) : OR ρ L x o := by
  cases x with
  | none => trivial
  | c l ty wr =>
    obtain ⟨arr0, fz0, _, _, _, _, a5⟩ := h0
    obtain ⟨arr, fz, b1, b2, b3, b4, b5⟩ := h
    exact ⟨arr, fz, b1, b2, b3, b4, CR_back hle a5 b5⟩
  | mp es clock =>
    obtain ⟨es0, _, a2⟩ := h0
    obtain ⟨es', b1, b2⟩ := h
    exact ⟨es', b1, ER_back hle a2 b2⟩
  | si l pos => exact h
  | v l ty =>
    obtain ⟨vs0, _, _, _, a4⟩ := h0
    obtain ⟨vs, b1, b2, b3, b4⟩ := h
    exact ⟨vs, b1, b2, b3, (VR_back hle l).2 _ _ a4 b4⟩
  | mi m since seen last =>
    obtain ⟨mm0, _, a2, _⟩ := h0
    obtain ⟨mm, b1, b2, b3⟩ := h
    exact ⟨mm, b1, (VR_back hle m).1 _ _ a2 b2, b3⟩
  | r l ty wr =>
    obtain ⟨arr0, fz0, s0, _, _, _, _, a5, _⟩ := h0
    obtain ⟨arr, fz, s, b1, b2, b3, b4, b5, b6⟩ := h
    have e : s = s0 := b5.fn (a5.mono hle)
    exact ⟨arr, fz, s, b1, b2, b3, b4, by rw [e]; exact a5, b6⟩
theorem DR_back {ρ ρ' : Ren} (hle : Ren.le ρ ρ') : ∀ {D : V} {ds0 ds : List Deferred}, DR ρ D ds0 → DR ρ' D ds → DR ρ D ds := by
  intro D
  induction D with
  | nil => intro ds0 ds _ h; simpa [DR] using h
  | cons d r ihd ih =>
    intro ds0 ds h0 h
    clear ihd
    cases d <;> first | (simp [DR] at h; done) | skip
    case cons f args =>
      cases f <;> first | (simp [DR] at h; done) | skip
      case f g c =>
        simp only [DR] at h0 h ⊢
        obtain ⟨caps0, vs0, rest0, _, a2, a3, a4⟩ := h0
        obtain ⟨caps, vs, rest, b1, b2, b3, b4⟩ := h
        exact ⟨caps, vs, rest, b1, (VR_back hle c).2 _ _ a2 b2, (VR_back hle args).2 _ _ a3 b3, ih a4 b4⟩
  | _ => intro ds0 ds _ h; simp [DR] at h
abbrev IHint := List (Nat × Nat × Nat × Nat × Nat × List Nat)
def ikOf (lk : IHint) (nt r : Nat) (d : Bool) (k : Nat → Nat → Nat → List Nat → Bool) : Bool :=
  List.rec (motive := fun _ => Bool) d (fun p _ ih => Bool.rec ih (k p.2.2.1 p.2.2.2.1 p.2.2.2.2.1 p.2.2.2.2.2) (ite1 (Nat.beq nt p.1) (Nat.beq r p.2.1))) lk
theorem ikOf_cases {nt r : Nat} {d : Bool} {k : Nat → Nat → Nat → List Nat → Bool} : ∀ lk : IHint, ikOf lk nt r d k = d ∨ ∃ u f t mods, ikOf lk nt r d k = k u f t mods
  | [] => .inl rfl
  | p :: lk => by
    show (Bool.rec (ikOf lk nt r d k) (k p.2.2.1 p.2.2.2.1 p.2.2.2.2.1 p.2.2.2.2.2) (ite1 (Nat.beq nt p.1) (Nat.beq r p.2.1)) : Bool) = d ∨ ∃ u f t mods, (Bool.rec (ikOf lk nt r d k) (k p.2.2.1 p.2.2.2.1 p.2.2.2.2.1 p.2.2.2.2.2) (ite1 (Nat.beq nt p.1) (Nat.beq r p.2.1)) : Bool) = k u f t mods
    cases ite1 (Nat.beq nt p.1) (Nat.beq r p.2.1) with
    | false => exact ikOf_cases lk
    | true => exact .inr ⟨_, _, _, _, rfl⟩
def o2K (v : V) (k : V → Bool) : Bool := match v with
  | .o t l a _ _ => ite1 (Nat.beq t 2) <| ite1 (Nat.beq a 3) <| k l
  | _ => false
theorem o2K_spec {v : V} {k : V → Bool} (h : o2K v k = true) : ∃ l x y, v = .o 2 l 3 x y ∧ k l = true := by
  cases v <;> first | exact Bool.noConfusion h | skip
  case o t l a x y =>
    obtain ⟨e1, h⟩ := ite1_spec (show ite1 (Nat.beq t 2) (ite1 (Nat.beq a 3) <| k l) = true from h)
    obtain ⟨e2, h⟩ := ite1_spec h
    have e1 := beq_spec e1
    have e2 := beq_spec e2
    subst e1
    subst e2
    exact ⟨l, x, y, rfl, h⟩
def oneC (v : V) (k : V → Bool) : Bool := match v with
  | .cons x .nil => k x
  | _ => false
theorem oneC_spec {v : V} {k : V → Bool} (h : oneC v k = true) : ∃ x, v = .cons x .nil ∧ k x = true := by
  cases v <;> first | exact Bool.noConfusion h | skip
  case cons x l =>
    cases l <;> first | exact Bool.noConfusion h | exact ⟨x, rfl, h⟩
def hiB : Nat := 4611686018427387904
def atomB (g : Nat) : V := .x g .i64 0 hiB
def restV (g r : Nat) : V := .o 2 (.cons (atomB g) (.cons (mkT oneV (Int.ofNat r)) .nil)) 3 0 0
def backB (nt : Nat) (mods : List Nat) (tm0 : T V) (D : V) (h : T O) (F tf g : Nat) : KX := fun x tm' D' U' h' _ => X.rec (motive := fun _ => Bool)
  (ite1 (sameV D' D) <| ite1 (sameV U' (.b false)) <| ite1 (oC (gt O.none F h') fun cf ty wr => ite1 wr <| ite1 (Nat.beq ty tf) <| oneC cf fun x1 => linK x1 fun kd l => ite1 (Nat.beq kd 3) <| addLK (Int.negSucc 0) (.cons (atomB g) .nil) l fun d => cstK d (fun c => ieq c (Int.ofNat 0)) false) <|
    ite1 (allN nt fun i => ior (memN i mods) (sameV (gt V.nil i tm') (gt V.nil i tm0))) <| allN g fun j => ior (Nat.beq j F) (ior (roB (gt O.none j h)) (sameOx (gt O.none j h') (gt O.none j h)))) (fun _ => false) false (fun _ => false) x
def invR (ih : EX) (c : Code) (nt u fo r : Nat) (mods : List Nat) (tm : T V) (D U : V) (h : T O) (nx : Nat) (k : KX) : Bool :=
  ite1 (sameV U (.b false)) <| ite1 (Nat.ble 1 r) <| vP (gt V.nil u tm) fun sid off => oC (gt O.none sid h) fun cs _ _ => nthK cs (Nat.add off fo) fun p => vP p fun F off2 => ite1 (Nat.beq off2 0) <|
  oC (gt O.none F h) fun cf tf wf => ite1 wf <| oneC cf fun x0 => o2K x0 fun l0 => rgK l0 fun lo hi => ite1 (ile (Int.ofNat 0) lo) <| ite1 (ile hi (Int.ofNat hiB)) <|
  cpN mods tm nt .leaf fun tm0 =>
    ite1 (stK O.none (.c (.cons (restV nx r) .nil) tf true) F h fun h1 => ih c nt tm0 D (.b false) h1 (Nat.succ nx) (backB nt mods tm0 D h F tf nx)) <|
    allN r fun n => stK O.none (.c (.cons (.i .i64 (Int.ofNat n)) .nil) tf true) F h fun h1 => ih (.loop c) nt tm0 D (.b false) h1 nx k
def invK (ih : EX) (c : Code) (nt u fo r : Nat) (mods : List Nat) (tm : T V) (D U : V) (h : T O) (nx : Nat) (k : KX) (d : Bool) : Bool := ior (invR ih c nt u fo r mods tm D U h nx k) d
theorem VR_rest {ρ : Ren} {g r u b : Nat} (hg : ρ g = some ⟨0, b, 0⟩) (hb : b ≤ hiB) (hu : u = b + r) : VR ρ (restV g r) (.int .i64 (u : Int)) := by
  unfold restV atomB
  refine VR_lin (kd := 3) ?_
  simp only [LR]
  refine ⟨(b : Int), (r : Int), ?_, ⟨(r : Int), 0, ?_, rfl, (Int.add_zero _).symm⟩, by omega⟩
  · simp only [MR]
    exact ⟨_, hg, Nat.zero_le _, hb, rfl⟩
  · have h1 : MR ρ oneV 1 := by simp only [oneV, MR]; rfl
    have := mkT_spec (c := Int.ofNat r) h1
    rwa [Int.mul_one] at this
theorem inv_sound {ex : EX} (ih : EXok P ng ex) {c : Code} {nt u fo r : Nat} {mods : List Nat} {tm : T V} {D U : V} {h : T O} {nx : Nat} {k : KX} (hk : invR ex c nt u fo r mods tm D U h nx k = true)
    {dk : Bool} {c0 : Frame} {cs0 : List Frame} {ρ0 : Ren} {h0 : T O} {w0 : World} {Q : Exit → Act → List Frame → World → Prop} (hq : QOK ng nt dk c0 cs0 ρ0 h0 w0 k Q)
    {ρ : Ren} {a : Act} {cs : List Frame} {w : World} (s : St ρ h nx w) (x : Ext ρ0 h0 w0 ρ h w) (g : RG ng ρ) (ht : TR ρ tm a) (hn : nt ≤ a.tmps.size) (hd : DR ρ D a.defers) (hu : UR ρ dk U c0 cs0 cs) : WL P dk c Q a cs w := by
  unfold invR at hk
  replace hk := ite1_spec hk
  obtain ⟨e1, hk⟩ := hk
  have e1 := sameV_eq e1
  subst e1
  replace hk := ite1_spec hk
  obtain ⟨e2, hk⟩ := hk
  have hr1 := Nat.ble_eq.mp e2
  replace hk := vP_spec hk
  obtain ⟨sid, off, hslot, hk⟩ := hk
  replace hk := oC_spec hk
  obtain ⟨cs1, ty1, wr1, ho1, hk⟩ := hk
  replace hk := nthK_spec hk
  obtain ⟨p, hk, hnth⟩ := hk
  replace hk := vP_spec hk
  obtain ⟨F, off2, rfl, hk⟩ := hk
  replace hk := ite1_spec hk
  obtain ⟨e3, hk⟩ := hk
  have e3 := beq_spec e3
  subst e3
  replace hk := oC_spec hk
  obtain ⟨cf, tf, wf, hoF, hk⟩ := hk
  replace hk := ite1_spec hk
  obtain ⟨e4, hk⟩ := hk
  subst e4
  replace hk := oneC_spec hk
  obtain ⟨x0, rfl, hk⟩ := hk
  replace hk := o2K_spec hk
  obtain ⟨l0, q1, q2, rfl, hk⟩ := hk
  replace hk := rgK_spec hk
  obtain ⟨lo, hi, hk, hrg⟩ := hk
  replace hk := ite1_spec hk
  obtain ⟨e5, hk⟩ := hk
  have e5 := ile_spec e5
  replace hk := ite1_spec hk
  obtain ⟨e6, hk⟩ := hk
  have e6 := ile_spec e6
  replace hk := cpN_spec hk
  obtain ⟨tm0, hk, hcp⟩ := hk
  obtain ⟨hB, hE⟩ := ite1_spec hk
  rw [stK_eq] at hB
  cases dk with
  | true =>
    obtain ⟨v, _, hum⟩ := hu
    simp only [UM] at hum
  | false =>
  obtain ⟨_, rfl⟩ := hu
  have hp0 := ht u
  rw [hslot] at hp0
  simp only [VR] at hp0
  obtain ⟨Ls, hLs, _⟩ := hp0
  obtain ⟨_, _, arr1, _, _, _, _, _, hcr1⟩ := s.relC ho1 hLs
  obtain ⟨vp, _, hvp⟩ := hnth ρ _ hcr1
  simp only [VR] at hvp
  obtain ⟨LF, hLF, _⟩ := hvp
  have hFx : F < nx := Nat.lt_of_not_le fun hge => by rw [s.fresh F hge] at hLF; cases hLF
  have hFw : (gt O.none F h).wr := asC_wr hoF
  obtain ⟨oF, hoF1, arrF, fzF, hoF2, hF1, hF2, hF3, hF4⟩ := s.relC hoF hLF
  subst hoF2
  have hat : ∀ (y : V) (i : Nat), gt O.none i (st O.none (.c (.cons y .nil) tf true) F h) = if i = F then .c (.cons y .nil) tf true else gt O.none i h := fun y i => by
    by_cases e : i = F
    · subst e; rw [gt_st_same, if_pos rfl]
    · rw [gt_st_ne _ _ (Ne.symm e), if_neg e]
  have hlv : ∀ {y : V} {i : Nat}, (gt O.none i (st O.none (.c (.cons y .nil) tf true) F h)).live → (gt O.none i h).live := fun {y i} hl => by
    rw [hat y i] at hl
    by_cases e : i = F
    · subst e; exact O.live_of_wr hFw
    · rwa [if_neg e] at hl
  have hwr : ∀ {y : V} {i : Nat}, (gt O.none i (st O.none (.c (.cons y .nil) tf true) F h)).wr ↔ (gt O.none i h).wr := fun {y i} => by
    rw [hat y i]
    by_cases e : i = F
    · subst e; rw [if_pos rfl]; exact ⟨fun _ => hFw, fun _ => rfl⟩
    · rw [if_neg e]
  let Inv : Nat → World → Prop := fun b w' => (∀ i L, i ≠ F → (gt O.none i h).live → ρ i = some L → ∃ o, w'.heap[L.blk]? = some o ∧ OR ρ L (gt O.none i h) o) ∧
    ∃ (arr : Array Value) (fz : Nat × Nat) (ys : List Value), w'.heap[LF.blk]? = some (.cells arr tf fz) ∧ arr.size = LF.size ∧ (∀ q, q < LF.size → ¬ (fz.1 ≤ q ∧ (q < fz.2 ∨ fz.2 < fz.1))) ∧ LF.base ≤ LF.size ∧ arr.toList.drop LF.base = .int .i64 (b : Int) :: ys
  have stOf : ∀ (b : Nat) (w' : World) (y : V) (ρ1 : Ren) (n1 : Nat), Inv b w' → Ren.le ρ ρ1 → (∀ i, i < nx → ρ1 i = ρ i) → nx ≤ n1 → (∀ i, n1 ≤ i → ρ1 i = none) → VR ρ1 y (.int .i64 (b : Int)) → St ρ1 (st O.none (.c (.cons y .nil) tf true) F h) n1 w' := by
    intro b w' y ρ1 n1 ⟨i1, arr, fz, ys, i2, i3, i4, i5, i6⟩ hle hsame hnn hfr hv
    have low : ∀ {i : Nat}, (gt O.none i (st O.none (.c (.cons y .nil) tf true) F h)).live → i < nx := fun {i} hl => Nat.lt_of_not_le fun hge => s.dead i hge (hlv hl)
    refine ⟨fun i L hl hL => ?_, fun i j L M hi hj hL hM hbk => ?_, hfr, fun i hi hl => ?_⟩
    · have hix := low hl
      rw [hsame i hix] at hL
      rw [hat y i] at hl ⊢
      by_cases e : i = F
      · subst e
        rw [hLF] at hL
        cases hL
        rw [if_pos rfl]
        refine ⟨_, i2, arr, fz, rfl, i3, fun _ => i4, i5, ?_⟩
        rw [i6]
        simp only [CR]
        exact ⟨_, _, rfl, hv, trivial⟩
      · rw [if_neg e] at hl ⊢
        obtain ⟨o, o1, o2⟩ := i1 i L e hl hL
        exact ⟨o, o1, o2.mono hle⟩
    · have h1 := hwr.1 hi
      rw [hsame i (low (O.live_of_wr hi))] at hL
      rw [hsame j (low hj)] at hM
      exact s.inj i j L M h1 (hlv hj) hL hM hbk
    · exact Nat.lt_irrefl _ (Nat.lt_of_lt_of_le (low hl) (Nat.le_trans hnn hi))
  have main : ∀ (b : Nat) (a' : Act) (w' : World), b ≤ hiB → Inv b w' → Ext ρ0 h0 w0 ρ h w' → TR ρ tm0 a' → nt ≤ a'.tmps.size → DR ρ D a'.defers → WL P false c Q a' cs w' := by
    intro b
    induction b using Nat.strongRecOn with
    | _ b ihb =>
    intro a' w' hbB hI hx ht' hn' hd'
    by_cases hbr : b < r
    · 
      have hE1 := allN_spec hE b hbr
      rw [stK_eq] at hE1
      have hst := stOf b w' (.i .i64 (Int.ofNat b)) ρ nx hI (Ren.le.refl _) (fun _ _ => rfl) (Nat.le_refl _) s.fresh (VRi _ _ _)
      have hx2 : Ext ρ0 h0 w0 ρ (st O.none (.c (.cons (.i .i64 (Int.ofNat b)) .nil) tf true) F h) w' := hx.trans ⟨Ren.le.refl _, Nat.le_refl _, rfl, rfl, rfl, fun q hq hw => ⟨rfl, fun i L hi hL => hw i L (hwr.1 hi) hL⟩, fun i hi hni => by
        refine ⟨hni, ?_⟩
        rw [hat _ i, if_neg (fun e => by subst e; rw [hLF] at hni; cases hni)]⟩
      exact (ih (.loop c) nt tm0 D (.b false) _ nx k hE1 false c0 cs ρ0 h0 w0 Q hq ρ a' cs w' hst hx2 g ht' hn' hd' ⟨rfl, rfl⟩).2 c rfl
    · 
      let ρ1 : Ren := fun i => if i = nx then some ⟨0, b - r, 0⟩ else ρ i
      have hle1 : Ren.le ρ ρ1 := fun i L hi => by
        have : i ≠ nx := fun e => by rw [s.fresh i (by omega)] at hi; cases hi
        simp only [ρ1, this, if_false]
        exact hi
      have hsame1 : ∀ i, i < nx → ρ1 i = ρ i := fun i hi => by
        have : i ≠ nx := by omega
        simp only [ρ1, this, if_false]
      have hg1 : ρ1 nx = some ⟨0, b - r, 0⟩ := by simp [ρ1]
      have hst := stOf b w' (restV nx r) ρ1 (Nat.succ nx) hI hle1 hsame1 (Nat.le_succ _) (fun i hi => by
        have : i ≠ nx := by have : nx + 1 ≤ i := hi; omega
        simp only [ρ1, this, if_false]
        exact s.fresh i (by have : nx + 1 ≤ i := hi; omega)) (VR_rest hg1 (by omega) (by omega))
      refine WL.round (ih c nt tm0 D (.b false) _ (Nat.succ nx) _ hB false c0 cs ρ1 _ w' _ (fun ρ' z tm' D' U' h' nx' a'' cs' w'' hkz s1 x1' g1' t1 hn1 hd1 hu1 => ?_) ρ1 a' cs w' hst (Ext.refl _ _ _) (g.mono hle1) (fun i => (ht' i).mono hle1) hn' (hd'.mono hle1) ⟨rfl, rfl⟩).1
      cases z <;> first | exact Bool.noConfusion hkz | skip
      have hle' : Ren.le ρ ρ' := hle1.trans x1'.le
      replace hkz := ite1_spec hkz
      obtain ⟨f1, hkz⟩ := hkz
      have f1 := sameV_eq f1
      subst f1
      replace hkz := ite1_spec hkz
      obtain ⟨f2, hkz⟩ := hkz
      replace hkz := ite1_spec hkz
      obtain ⟨f3, hkz⟩ := hkz
      obtain ⟨f4, f5⟩ := ite1_spec hkz
      obtain ⟨_, rfl⟩ := hu1
      replace f3 := oC_spec f3
      obtain ⟨cf', tf', wf', hoF', f3⟩ := f3
      replace f3 := ite1_spec f3
      obtain ⟨f6, f3⟩ := f3
      subst f6
      replace f3 := ite1_spec f3
      obtain ⟨f7, f3⟩ := f3
      have f7 := beq_spec f7
      subst f7
      replace f3 := oneC_spec f3
      obtain ⟨x1, rfl, f3⟩ := f3
      replace f3 := linK_spec f3
      obtain ⟨kd, l1, f3, hl1⟩ := f3
      obtain ⟨f8, f9⟩ := ite1_spec f3
      have f8 := beq_spec f8
      subst f8
      have hLF' := hle' _ _ hLF
      obtain ⟨oG, hoG1, arrG, fzG, hoG2, hG1, hG2, hG3, hG4⟩ := s1.relC hoF' hLF'
      subst hoG2
      simp only [CR] at hG4
      obtain ⟨y, ys, hG5, hG6, _⟩ := hG4
      obtain ⟨nn, hnn, rfl⟩ := hl1 ρ' _ hG6
      obtain ⟨dd, f10, _, hdd⟩ := addLK_spec f9 (LR_isC hnn)
      have hatom : LR ρ' (.cons (atomB nx) .nil) ((b - r : Nat) : Int) := by
        simp only [LR]
        refine ⟨((b - r : Nat) : Int), 0, ?_, rfl, (Int.add_zero _).symm⟩
        simp only [atomB, MR]
        exact ⟨_, x1'.le _ _ hg1, Nat.zero_le _, by show b - r ≤ hiB; omega, rfl⟩
      have hdn := hdd ρ' nn _ hnn hatom
      have hval : nn = ((b - r : Nat) : Int) := by
        rcases cstK_spec f10 with ⟨cc, hcc, hc2⟩ | hcc
        · have h5 := hc2 ρ' _ hdn
          rw [ieq_eq] at hcc
          have hcc : cc = 0 := by simpa using hcc
          have z : (Int.negSucc 0) * ((b - r : Nat) : Int) = -((b - r : Nat) : Int) := by
            have : (Int.negSucc 0 : Int) = -1 := rfl
            rw [this]; omega
          rw [z] at h5
          omega
        · exact Bool.noConfusion hcc
      subst hval
      have eqO : ∀ i, i < nx → i ≠ F → roB (gt O.none i h) = true ∨ gt O.none i h' = gt O.none i h := fun i hi hne => by
        rcases ior_cases (allN_spec f5 i hi) with h1 | h1
        · exact absurd (Nat.eq_of_beq_eq_true h1) hne
        · rcases ior_cases h1 with h2 | h2
          · exact .inl h2
          · exact .inr (sameOx_eq h2)
      have low : ∀ {i : Nat}, (gt O.none i h).live → i < nx := fun {i} hl => Nat.lt_of_not_le fun hge => s.dead i hge hl
      have hI2 : Inv (b - r) w'' := by
        refine ⟨fun i L hne hl hL => ?_, arrG, fzG, ys, hoG1, hG1, hG2 rfl, hG3, hG5⟩
        have hi := low hl
        obtain ⟨o0, o4, o3⟩ := hI.1 i L hne hl hL
        rcases eqO i hi hne with hro | e
        · have hlt : L.blk < w'.heap.size := (Array.getElem?_eq_some_iff.mp o4).1
          have hk := (x1'.kept L.blk hlt fun j M hj hM hbk => by
            have hj1 := hwr.1 hj
            have hM : ρ1 j = some M := hM
            rw [hsame1 j (low (O.live_of_wr hj1))] at hM
            have e := s.inj j i M L hj1 hl hM hL hbk
            subst e
            exact roB_wr hro hj1).1
          exact ⟨o0, hk.trans o4, o3⟩
        · obtain ⟨o, o1, o2⟩ := s1.rel i L (by rw [e]; exact hl) (hle' _ _ hL)
          rw [e] at o2
          exact ⟨o, o1, OR_back hle' o3 o2⟩
      have hx2 : Ext ρ0 h0 w0 ρ h w'' := hx.trans ⟨Ren.le.refl _, x1'.size, x1'.os, x1'.tape, x1'.output, fun q hq hw => ⟨(x1'.kept q hq fun i L hi hL => by
        have h1 := hwr.1 hi
        have hL : ρ1 i = some L := hL
        rw [hsame1 i (low (O.live_of_wr h1))] at hL
        exact hw i L h1 hL).1, hw⟩, fun _ _ hh => ⟨hh, rfl⟩⟩
      refine ihb (b - r) (by omega) a'' w'' (by omega) hI2 hx2 (fun i => ?_) hn1 (DR_back hle' hd' hd1)
      by_cases ci : i < nt ∧ memN i mods = false
      · rcases ior_cases (allN_spec f4 i ci.1) with h1 | h1
        · rw [ci.2] at h1; cases h1
        · have h4 := t1 i
          rw [sameV_eq h1] at h4
          exact (VR_back hle' _).1 _ _ (ht' i) h4
      · have e : gt V.nil i tm0 = .nil := by rw [hcp i, if_neg ci, gt_leaf]
        rw [e]
        simp only [VR]
  simp only [CR] at hF4
  obtain ⟨y, ys, hy1, hy2, _⟩ := hF4
  obtain ⟨nn, hnn, rfl⟩ : ∃ n, LR ρ l0 n ∧ y = .int .i64 n := by
    simp only [VR, OV] at hy2
    rcases hy2 with (⟨h1, _⟩ | ⟨_, n, h1, h2⟩ | ⟨h1, _⟩ | ⟨h1, _⟩) | ⟨h1, _⟩ <;> first | omega | exact ⟨n, h1, h2⟩
  have hb := hrg ρ nn hnn
  have e5' : (0 : Int) ≤ lo := e5
  have e6' : hi ≤ (hiB : Int) := e6
  obtain ⟨b, rfl⟩ := Int.eq_ofNat_of_zero_le (show 0 ≤ nn by omega)
  refine main b a w (by omega) ⟨fun i L hne hl hL => s.rel i L hl hL, arrF, fzF, ys, hoF1, hF1, hF2 rfl, hF3, hy1⟩ x (fun i => ?_) hn hd
  by_cases ci : i < nt ∧ memN i mods = false
  · rw [hcp i, if_pos ci]; exact ht i
  · rw [hcp i, if_neg ci, gt_leaf]; simp only [VR]
def execI (P : Program) (ng : Nat) (hk : Nat → Option (V → T O → Nat → KV → Bool)) (lk : IHint) (n : Nat) : Code → Nat → T V → V → V → T O → Nat → KX → Bool :=
  Nat.rec (motive := fun _ => Code → Nat → T V → V → V → T O → Nat → KX → Bool) (fun _ _ _ _ _ _ _ _ => false)
    (fun _ ih c nt tm D U h nx k => Code.rec (motive := fun _ => Program → Nat → HK → IHint → EX → Nat → T V → V → V → T O → Nat → KX → Bool)
      (fun _ _ _ _ _ _ tm D U h nx k => k .n tm D U h nx)
      (fun _ ops dr P ng hk _ ih nt tm D U h nx k => Bool.rec (regK P ng (callX P hk ih) nt ops (fun v tm D U h nx => k (.pk v) tm D U h nx) ops.toList tm D U h nx (fun tm D U h nx => k .n tm D U h nx))
        (coinK (coinOf P nt ops) tm (fun tm => k .n tm D U h nx) (runP (drawP P ops (Nat.succ ops.size) ⟨0, 0, 0, .leaf, .leaf⟩) P ng (callX P hk ih) nt ops (fun v h nx => k (.pk v) .leaf D U h nx) (fun tm h nx => k .n tm D U h nx) tm h nx)) dr)
      (fun a b _ _ _ _ _ _ ih nt tm D U h nx k => ih a nt tm D U h nx fun x tm D U h nx => X.rec (motive := fun _ => Bool) (ih b nt tm D U h nx k) (fun id => k (.x id) tm D U h nx) (k .r tm D U h nx) (fun v => k (.pk v) tm D U h nx) x)
      (fun c a b _ _ _ ng _ _ ih nt tm D U h nx k => vBf (ev ng tm c) fun q => Bool.rec (ih b nt tm D U h nx k) (ih a nt tm D U h nx k) q)
      (fun id c _ _ _ _ _ ih nt tm D U h nx k => ih c nt tm D U h nx fun x tm D U h nx => X.rec (motive := fun _ => Bool) (k .n tm D U h nx) (fun id' => Bool.rec (k (.x id') tm D U h nx) (k .n tm D U h nx) (Nat.beq id' id)) (k .r tm D U h nx) (fun v => k (.pk v) tm D U h nx) x)
      (fun c _ _ _ _ lk ih nt tm D U h nx k => (fun d => ikOf lk nt (rid c) d fun u fo r mods => invK ih c nt u fo r mods tm D U h nx k d)
        (ih c nt tm D U h nx fun x tm D U h nx => X.rec (motive := fun _ => Bool) (ih (.loop c) nt tm D U h nx k) (fun id => k (.x id) tm D U h nx) (k .r tm D U h nx) (fun v => k (.pk v) tm D U h nx) x))
      (fun _ _ _ _ _ _ _ _ _ _ _ _ _ _ _ _ _ _ => false)
      (fun id _ _ _ _ _ _ tm D U h nx k => k (.x id) tm D U h nx)
      (fun c _ _ _ _ _ ih nt tm D U h nx k => ih c nt tm D U h nx k)
      (fun _ _ _ _ _ _ _ tm D U h nx k => k .n tm D U h nx)
      (fun _ _ _ _ _ _ _ _ _ _ _ _ _ => false)
      (fun _ _ _ _ _ _ tm D U h nx k => k .r tm D U h nx)
      (fun _ _ _ _ _ _ _ _ _ _ _ _ _ => false) c P ng hk lk ih nt tm D U h nx k) n
def runI (P : Program) (ng : Nat) (hk : Nat → Option (V → T O → Nat → KV → Bool)) (lk : IHint) (n : Nat) : CK := callX P hk (execI P ng hk lk n)
variable {hk : Nat → Option (V → T O → Nat → KV → Bool)} {lk : IHint}
theorem execI_step (hm : P.follows .mixedOrders = true) {n : Nat} (ih : EXok P ng (execI P ng hk lk n)) (hck : CKok P ng (callX P hk (execI P ng hk lk n))) : EXok P ng (execI P ng hk lk (n + 1)) := by
  intro c nt tm D U h nx k he dk c0 cs0 ρ0 h0 w0 Q hq ρ a cs w s x g t hn hd hu
  cases c <;> try exact Bool.noConfusion he
  case skip => exact ⟨.skip (hq ρ .n tm D U h nx a cs w he s x g t hn hd hu), by simp⟩
  case exit id => exact ⟨.exit (hq ρ (.x id) tm D U h nx a cs w he s x g t hn hd hu), by simp⟩
  case label l => exact ⟨.label (hq ρ .n tm D U h nx a cs w he s x g t hn hd hu), by simp⟩
  case ret => exact ⟨.ret (hq ρ .r tm D U h nx a cs w he s x g t hn hd hu), by simp⟩
  case region id o dr =>
    refine ⟨?_, by simp⟩
    cases dr with
    | false =>
      have he : regK P ng (callX P hk (execI P ng hk lk n)) nt o (fun v tm D U h nx => k (.pk v) tm D U h nx) o.toList tm D U h nx (fun tm D U h nx => k .n tm D U h nx) = true := he
      have := regK_sound hck hq o.toList 0 tm D U h nx a cs w ρ (fun q => by simp) he s x g t hn hd hu
      refine opsG.region ?_
      rw [List.range_eq_range']
      simpa using this
    | true =>
      have he : coinK (coinOf P nt o) tm (fun tm => k .n tm D U h nx) (rp P ng (callX P hk (execI P ng hk lk n)) nt o (fun v h nx => k (.pk v) .leaf D U h nx) (fun tm h nx => k .n tm D U h nx) (drawP P o (Nat.succ o.size) ⟨0, 0, 0, .leaf, .leaf⟩) tm h nx) = true := he
      cases hcoin : coinOf P nt o with
      | some p =>
        obtain ⟨d0, d1, b1, b2⟩ := p
        rw [hcoin] at he
        have he : stK V.nil V.nil d0 tm (fun tm => ite1 (stK V.nil (.b b1) d1 tm fun tm => k .n tm D U h nx) (stK V.nil (.b b2) d1 tm fun tm => k .n tm D U h nx)) = true := he
        rw [stK_eq] at he
        obtain ⟨he1, he2⟩ := ite1_spec he
        rw [stK_eq] at he1 he2
        refine .of_wp (coin_sound hm hcoin s t hn (fun b a' w' hb s' x' t' hn' hd' => ?_))
        have hkb : k .n (st V.nil (.b b) d1 (st V.nil V.nil d0 tm)) D U h nx = true := by rcases hb with rfl | rfl <;> assumption
        exact hq ρ .n _ D U h nx a' cs w' hkb s' (x.trans x') g t' hn' (by rw [hd']; exact hd) hu
      | none =>
      rw [hcoin] at he
      have he : rp P ng (callX P hk (execI P ng hk lk n)) nt o (fun v h nx => k (.pk v) .leaf D U h nx) (fun tm h nx => k .n tm D U h nx) (drawP P o (Nat.succ o.size) ⟨0, 0, 0, .leaf, .leaf⟩) tm h nx = true := he
      rw [drawP_run] at he
      have he : drawK P ng (callX P hk (execI P ng hk lk n)) nt o (fun v h nx => k (.pk v) .leaf D U h nx) (fun tm h nx => k .n tm D U h nx) (Nat.succ o.size) ⟨0, 0, 0, .leaf, .leaf⟩ tm h nx = true := he
      refine .of_wp (drawK_sound hm hck he s g t hn (fun ρ' tm' h' nx' a' w' hk2 s' x' g' t' hn' hd' => ?_) (fun ρ' y h' nx' v a' w' hk2 hv s' x' g' hn' hd' => ?_))
      · exact hq ρ' .n tm' D U h' nx' a' cs w' hk2 s' (x.trans x') g' t' hn' (by rw [hd']; exact hd.mono x'.le) (hu.mono x'.le)
      · exact hq ρ' (.pk y) .leaf D U h' nx' a' cs w' hk2 s' (x.trans x') g' (fun q => by rw [gt_leaf]; simp [VR]) hn' (by rw [hd']; exact hd.mono x'.le) (hu.mono x'.le) v hv
  case seq c1 c2 =>
    refine ⟨.seq (ih c1 nt tm D U h nx _ he dk c0 cs0 ρ0 h0 w0 _ (fun ρ z tm D U h nx a cs w hk s x g t hn hd hu => ?_) ρ a cs w s x g t hn hd hu).1, by simp⟩
    cases z with
    | n => exact (ih c2 nt tm D U h nx k hk dk c0 cs0 ρ0 h0 w0 Q hq ρ a cs w s x g t hn hd hu).1
    | x id => exact hq ρ (.x id) tm D U h nx a cs w hk s x g t hn hd hu
    | r => exact hq ρ .r tm D U h nx a cs w hk s x g t hn hd hu
    | pk v => exact hq ρ (.pk v) tm D U h nx a cs w hk s x g t hn hd hu
  case scope c1 =>
    refine ⟨.scope (ih c1 nt tm D U h nx k he dk c0 cs0 ρ0 h0 w0 _ (fun ρ z tm D U h nx a cs w hk s x g t hn hd hu => ?_) ρ a cs w s x g t hn hd hu).1, by simp⟩
    have := hq ρ z tm D U h nx a cs w hk s x g t hn hd hu
    cases z <;> exact this
  case block id c1 =>
    refine ⟨.block (ih c1 nt tm D U h nx _ he dk c0 cs0 ρ0 h0 w0 _ (fun ρ z tm D U h nx a cs w hk s x g t hn hd hu => ?_) ρ a cs w s x g t hn hd hu).1, by simp⟩
    cases z with
    | n => exact hq ρ .n tm D U h nx a cs w hk s x g t hn hd hu
    | x id' =>
      have hk : (Bool.rec (k (.x id') tm D U h nx) (k .n tm D U h nx) (Nat.beq id' id) : Bool) = true := hk
      show if id' = id then _ else _
      cases e : Nat.beq id' id with
      | true => rw [e] at hk; rw [if_pos (beq_spec e)]; exact hq ρ .n tm D U h nx a cs w hk s x g t hn hd hu
      | false => rw [e] at hk; rw [if_neg (Nat.ne_of_beq_eq_false e)]; exact hq ρ (.x id') tm D U h nx a cs w hk s x g t hn hd hu
    | r => exact hq ρ .r tm D U h nx a cs w hk s x g t hn hd hu
    | pk v => exact hq ρ (.pk v) tm D U h nx a cs w hk s x g t hn hd hu
  case loop c1 =>
    have plain : (execI P ng hk lk n c1 nt tm D U h nx fun x tm D U h nx => X.rec (motive := fun _ => Bool) (execI P ng hk lk n (.loop c1) nt tm D U h nx k) (fun id => k (.x id) tm D U h nx) (k .r tm D U h nx) (fun v => k (.pk v) tm D U h nx) x) = true → WL P dk c1 Q a cs w := fun he => by
      refine .round (ih c1 nt tm D U h nx _ he dk c0 cs0 ρ0 h0 w0 _ (fun ρ z tm D U h nx a cs w hk s x g t hn hd hu => ?_) ρ a cs w s x g t hn hd hu).1
      cases z with
      | n => exact (ih (.loop c1) nt tm D U h nx k hk dk c0 cs0 ρ0 h0 w0 Q hq ρ a cs w s x g t hn hd hu).2 c1 rfl
      | x id => exact hq ρ (.x id) tm D U h nx a cs w hk s x g t hn hd hu
      | r => exact hq ρ .r tm D U h nx a cs w hk s x g t hn hd hu
      | pk v => exact hq ρ (.pk v) tm D U h nx a cs w hk s x g t hn hd hu
    have key : WL P dk c1 Q a cs w := by
      have he : (fun d => ikOf lk nt (rid c1) d fun u fo r mods => invK (execI P ng hk lk n) c1 nt u fo r mods tm D U h nx k d)
        (execI P ng hk lk n c1 nt tm D U h nx fun x tm D U h nx => X.rec (motive := fun _ => Bool) (execI P ng hk lk n (.loop c1) nt tm D U h nx k) (fun id => k (.x id) tm D U h nx) (k .r tm D U h nx) (fun v => k (.pk v) tm D U h nx) x) = true := he
      rcases ikOf_cases (nt := nt) (r := rid c1) (d := (execI P ng hk lk n c1 nt tm D U h nx fun x tm D U h nx => X.rec (motive := fun _ => Bool) (execI P ng hk lk n (.loop c1) nt tm D U h nx k) (fun id => k (.x id) tm D U h nx) (k .r tm D U h nx) (fun v => k (.pk v) tm D U h nx) x)) (k := fun u fo r mods => invK (execI P ng hk lk n) c1 nt u fo r mods tm D U h nx k (execI P ng hk lk n c1 nt tm D U h nx fun x tm D U h nx => X.rec (motive := fun _ => Bool) (execI P ng hk lk n (.loop c1) nt tm D U h nx k) (fun id => k (.x id) tm D U h nx) (k .r tm D U h nx) (fun v => k (.pk v) tm D U h nx) x)) lk with e | ⟨u, fo, r, mods, e⟩
      · exact plain (e.symm.trans he)
      · rcases ior_cases (show ior (invR (execI P ng hk lk n) c1 nt u fo r mods tm D U h nx k) (execI P ng hk lk n c1 nt tm D U h nx fun x tm D U h nx => X.rec (motive := fun _ => Bool) (execI P ng hk lk n (.loop c1) nt tm D U h nx k) (fun id => k (.x id) tm D U h nx) (k .r tm D U h nx) (fun v => k (.pk v) tm D U h nx) x) = true from e.symm.trans he) with h1 | h1
        · exact inv_sound ih h1 hq s x g t hn hd hu
        · exact plain h1
    exact ⟨key.loop, fun c' e => by cases e; exact key⟩
  case cond c1 c2 c3 =>
    obtain ⟨q, hv, he2⟩ := vBf_spec (show vBf (ev ng tm c1) (fun q => Bool.rec (execI P ng hk lk n c3 nt tm D U h nx k) (execI P ng hk lk n c2 nt tm D U h nx k) q) = true from he) (ev_rel g t c1)
    refine ⟨.cond hv ?_, by simp⟩
    cases q with
    | true => exact (ih c2 nt tm D U h nx k he2 dk c0 cs0 ρ0 h0 w0 Q hq ρ a cs w s x g t hn hd hu).1
    | false => exact (ih c3 nt tm D U h nx k he2 dk c0 cs0 ρ0 h0 w0 Q hq ρ a cs w s x g t hn hd hu).1
theorem execI_sound (hm : P.follows .mixedOrders = true) (hn : NameOK P) (hh : HKok P ng hk) : ∀ n, EXok P ng (execI P ng hk lk n)
  | 0 => fun _c _nt _tm _D _U _h _nx _k he => Bool.noConfusion he
  | n + 1 => execI_step hm (execI_sound hm hn hh n) (call_step hn hh (execI_sound hm hn hh n))
theorem runI_sound (hm : P.follows .mixedOrders = true) (hn : NameOK P) (hh : HKok P ng hk) (n : Nat) : CKok P ng (runI P ng hk lk n) :=
  call_step hn hh (execI_sound hm hn hh n)
end
end Go.Mx
namespace Go.Mx
noncomputable section
variable {P : Program} {ng : Nat} {ρ : Ren}
def HasSaid (P : Program) (g : Nat) : Prop := ∀ (b o : Nat) (arr : Array Value) (ty : TypeId) (fz : Nat × Nat) (w : World) (c : Nat) (m : Nat → Nat), w.heap[b]? = some (.cells arr ty fz) → c < 256 → (∀ i, i < 4 → arr[o + i]? = some (.int .u64 (m i : Int)) ∧ m i ≤ 18446744073709551615) →
  Calls P g #[.pointer (some ⟨b, o, none⟩), .int .u8 (c : Int)] w fun e w' => ∃ t : Bool, e = .returned (.bool t) ∧ w' = w
def hkHas (e : HookF) : HookF := fun args h nx K => ior (e args h nx K) (arg0 args fun p r => arg0 r fun x r2 => ite1 (sameV r2 .nil) <| ite1 (rngK x fun kd _ hi _ => ite1 (keq kd .u8) <| Nat.ble hi 255) <|
  vP p fun id off => oC (gt O.none id h) fun l _ _ => nthK l off fun z0 => ite1 (is64 z0) <| nthK l (off + 1) fun z1 => ite1 (is64 z1) <| nthK l (off + 2) fun z2 => ite1 (is64 z2) <| nthK l (off + 3) fun z3 => ite1 (is64 z3) <|
    ite1 (K (.b true) h nx) (K (.b false) h nx))
theorem hkHas_ok (hn : NameOK P) {g : Nat} {fn : Func} {cd : Code} (hf : P.funcs[g]? = some fn) (hb : fn.body = some cd) {e : HookF} (he : HookOk P ng g e) (hC : HasSaid P g) : HookOk P ng g (hkHas e) := by
  intro args h nx K Kp hk ρ w vs s hg hvs
  have hk0 := ior_cases hk
  clear hk
  rcases hk0 with hk | hk
  · exact he _ h nx K Kp hk ρ w vs s hg hvs
  replace hk := arg0_spec hk
  obtain ⟨p, r, rfl, hk⟩ := hk
  replace hk := arg0_spec hk
  obtain ⟨x, r2, rfl, hk⟩ := hk
  replace hk := ite1_spec hk
  obtain ⟨e0, hk⟩ := hk
  have e0 := sameV_eq e0
  subst e0
  replace hk := ite1_spec hk
  obtain ⟨hc, hk⟩ := hk
  obtain ⟨kd, lo, hi, ii, hc2, hr⟩ := rngK_spec hc
  obtain ⟨e1, e2⟩ := ite1_spec hc2
  have e1 := keq_eq e1
  subst e1
  have e2 := Nat.le_of_ble_eq_true e2
  simp only [VRs] at hvs
  obtain ⟨v0, _, rfl, hp, v1, _, rfl, h1, rfl⟩ := hvs
  obtain ⟨n1, rfl, hin⟩ := hr ρ _ h1
  have hlt : n1 < 256 := by have := hin.2.1; omega
  replace hk := vP_spec hk
  obtain ⟨id, off, rfl, hk⟩ := hk
  replace hk := oC_spec hk
  obtain ⟨l, ty, wr, ho, hk⟩ := hk
  replace hk := nthK_spec hk
  obtain ⟨z0, hk, t0⟩ := hk
  replace hk := ite1_spec hk
  obtain ⟨u0, hk⟩ := hk
  replace hk := nthK_spec hk
  obtain ⟨z1, hk, t1⟩ := hk
  replace hk := ite1_spec hk
  obtain ⟨u1, hk⟩ := hk
  replace hk := nthK_spec hk
  obtain ⟨z2, hk, t2⟩ := hk
  replace hk := ite1_spec hk
  obtain ⟨u2, hk⟩ := hk
  replace hk := nthK_spec hk
  obtain ⟨z3, hk, t3⟩ := hk
  replace hk := ite1_spec hk
  obtain ⟨u3, hk⟩ := hk
  obtain ⟨kt, kf⟩ := ite1_spec hk
  obtain ⟨L, arr, fz, hL, rfl, hh, hsz, hfz, hbs, hcr⟩ := s.at ho hp
  obtain ⟨y0, k0, r0⟩ := t0 ρ _ hcr
  obtain ⟨y1, k1, r1⟩ := t1 ρ _ hcr
  obtain ⟨y2, k2, r2⟩ := t2 ρ _ hcr
  obtain ⟨y3, k3, r3⟩ := t3 ρ _ hcr
  obtain ⟨m0, rfl, b0⟩ := is64_spec u0 r0
  obtain ⟨m1, rfl, b1⟩ := is64_spec u1 r1
  obtain ⟨m2, rfl, b2⟩ := is64_spec u2 r2
  obtain ⟨m3, rfl, b3⟩ := is64_spec u3 r3
  simp only [List.getElem?_drop, Array.getElem?_toList] at k0 k1 k2 k3
  let m : Nat → Nat := fun i => if i = 0 then m0 else if i = 1 then m1 else if i = 2 then m2 else m3
  have hm : ∀ i, i < 4 → arr[L.base + off + i]? = some (.int .u64 (m i : Int)) ∧ m i ≤ 18446744073709551615 := by
    intro i hi
    match i, hi with
    | 0, _ => exact ⟨by rw [show L.base + off + 0 = L.base + off by omega]; exact k0, b0⟩
    | 1, _ => exact ⟨by rw [show L.base + off + 1 = L.base + (off + 1) by omega]; exact k1, b1⟩
    | 2, _ => exact ⟨by rw [show L.base + off + 2 = L.base + (off + 2) by omega]; exact k2, b2⟩
    | 3, _ => exact ⟨by rw [show L.base + off + 3 = L.base + (off + 3) by omega]; exact k3, b3⟩
  have hcall := hC L.blk (L.base + off) arr ty fz w n1 m hh hlt hm
  intro o a next Q g1 _
  show o.upon P a next Q ((callFunc g #[.pointer (some ⟨L.blk, L.base + off, none⟩), .int .u8 (n1 : Int)]).run P w)
  rw [callFunc_enter hn hf hb, Oper.upon_enter]
  refine hcall.mono fun e w' ⟨t, he1, hw⟩ => ?_
  subst he1
  subst hw
  cases t with
  | true => exact g1 _ (.b true) _ nx _ _ (VRb _ _) s (Ext.refl _ _ _) kt
  | false => exact g1 _ (.b false) _ nx _ _ (VRb _ _) s (Ext.refl _ _ _) kf
end
end Go.Mx
