/-
  A part of a small executor of the model, proved sound (23 of 29). No condition.
-/
import Derived.Test.YtpodnhoafbbkkaaGreatDoorXMxK
import Derived.Test.YtpodnhoafbbkkaaGreatDoorXMx36
import Derived.Test.YtpodnhoafbbkkaaGreatDoorXMxAA
namespace Go.Mx
noncomputable section
variable {P : Program} {ng : Nat}
theorem VR_back {ρ ρ' : Ren} (hle : Ren.le ρ ρ') : ∀ x : V, (∀ v0 v, VR ρ x v0 → VR ρ' x v → VR ρ x v) ∧ (∀ vs0 vs, VRs ρ x vs0 → VRs ρ' x vs → VRs ρ x vs) := by
  have same : ∀ {i : Nat} {L L' : Loc}, ρ i = some L → ρ' i = some L' → L' = L := fun h h' => by
    have := hle _ _ h
    rw [h'] at this
    exact Option.some.inj this
  intro x
  induction x with
  | nil => exact ⟨fun v0 v _ _ => by simp [VR], fun vs0 vs _ h' => by simpa [VRs] using h'⟩
  | cons x l ihx ihl =>
    refine ⟨fun v0 v h => by simp [VR] at h, fun vs0 vs h h' => ?_⟩
    simp only [VRs] at h h' ⊢
    obtain ⟨y0, ys0, rfl, a1, a2⟩ := h
    obtain ⟨y, ys, rfl, b1, b2⟩ := h'
    exact ⟨y, ys, rfl, ihx.1 _ _ a1 b1, ihl.2 _ _ a2 b2⟩
  | b x => exact ⟨fun v0 v _ h' => by simpa [VR] using h', fun vs0 vs h => by simp [VRs] at h⟩
  | i k n => exact ⟨fun v0 v _ h' => by simpa [VR] using h', fun vs0 vs h => by simp [VRs] at h⟩
  | s l => exact ⟨fun v0 v _ h' => by simpa [VR] using h', fun vs0 vs h => by simp [VRs] at h⟩
  | p id off =>
    refine ⟨fun v0 v h h' => ?_, fun vs0 vs h => by simp [VRs] at h⟩
    simp only [VR] at h h' ⊢
    obtain ⟨L0, a1, _⟩ := h
    obtain ⟨L, b1, b2⟩ := h'
    have := same a1 b1
    subst this
    exact ⟨_, a1, b2⟩
  | pn => exact ⟨fun v0 v _ h' => by simpa [VR] using h', fun vs0 vs h => by simp [VRs] at h⟩
  | sl id off len sz =>
    refine ⟨fun v0 v h h' => ?_, fun vs0 vs h => by simp [VRs] at h⟩
    simp only [VR] at h h' ⊢
    obtain ⟨L0, _, a1, _⟩ := h
    obtain ⟨L, cap, b1, b2⟩ := h'
    have := same a1 b1
    subst this
    exact ⟨_, cap, a1, b2⟩
  | sn => exact ⟨fun v0 v _ h' => by simpa [VR] using h', fun vs0 vs h => by simp [VRs] at h⟩
  | se => exact ⟨fun v0 v _ h' => by simpa [VR] using h', fun vs0 vs h => by simp [VRs] at h⟩
  | s0 => exact ⟨fun v0 v _ h' => by simpa [VR] using h', fun vs0 vs h => by simp [VRs] at h⟩
  | m id =>
    refine ⟨fun v0 v h h' => ?_, fun vs0 vs h => by simp [VRs] at h⟩
    simp only [VR] at h h' ⊢
    obtain ⟨L0, a1, _⟩ := h
    obtain ⟨L, b1, b2⟩ := h'
    have := same a1 b1
    subst this
    exact ⟨_, a1, b2⟩
  | mn => exact ⟨fun v0 v _ h' => by simpa [VR] using h', fun vs0 vs h => by simp [VRs] at h⟩
  | f g c ih =>
    refine ⟨fun v0 v h h' => ?_, fun vs0 vs h => by simp [VRs] at h⟩
    simp only [VR] at h h' ⊢
    obtain ⟨vs0, a1, _⟩ := h
    obtain ⟨vs, b1, b2⟩ := h'
    exact ⟨vs, ih.2 _ _ a1 b1, b2⟩
  | fn => exact ⟨fun v0 v _ h' => by simpa [VR] using h', fun vs0 vs h => by simp [VRs] at h⟩
  | e t x ih =>
    refine ⟨fun v0 v h h' => ?_, fun vs0 vs h => by simp [VRs] at h⟩
    simp only [VR] at h h' ⊢
    obtain ⟨y0, a1, _⟩ := h
    obtain ⟨y, b1, b2⟩ := h'
    exact ⟨y, ih.1 _ _ a1 b1, b2⟩
  | en => exact ⟨fun v0 v _ h' => by simpa [VR] using h', fun vs0 vs h => by simp [VRs] at h⟩
  | a l ih =>
    refine ⟨fun v0 v h h' => ?_, fun vs0 vs h => by simp [VRs] at h⟩
    simp only [VR] at h h' ⊢
    obtain ⟨vs0, a1, _⟩ := h
    obtain ⟨vs, b1, b2⟩ := h'
    exact ⟨vs, ih.2 _ _ a1 b1, b2⟩
  | t l ih =>
    refine ⟨fun v0 v h h' => ?_, fun vs0 vs h => by simp [VRs] at h⟩
    simp only [VR] at h h' ⊢
    obtain ⟨vs0, a1, _⟩ := h
    obtain ⟨vs, b1, b2⟩ := h'
    exact ⟨vs, ih.2 _ _ a1 b1, b2⟩
  | x a k lo hi =>
    refine ⟨fun v0 v h h' => ?_, fun vs0 vs h => by simp [VRs] at h⟩
    simp only [VR] at h h' ⊢
    obtain ⟨L0, a1, _⟩ := h
    obtain ⟨L, b1, b2⟩ := h'
    have := same a1 b1
    subst this
    exact ⟨_, a1, b2⟩
  | w l ih =>
    refine ⟨fun v0 v h h' => ?_, fun vs0 vs h => by simp [VRs] at h⟩
    simp only [VR] at h h' ⊢
    obtain ⟨b0, _, a1⟩ := h
    obtain ⟨b, b2, b1⟩ := h'
    exact ⟨b, b2, ih.2 _ _ a1 b1⟩
  | y l a lo hi ih =>
    refine ⟨fun v0 v h h' => ?_, fun vs0 vs h => by simp [VRs] at h⟩
    simp only [VR] at h h' ⊢
    obtain ⟨b0, L0, n0, _, a1, _, _, _, a2⟩ := h
    obtain ⟨b, L, n, b1, b2, b3, b4, b5, b6⟩ := h'
    have := same a1 b2
    subst this
    exact ⟨b, _, n, b1, a1, b3, b4, b5, ih.2 _ _ a2 b6⟩
  | o t l a lo hi ih =>
    refine ⟨fun v0 v h h' => ?_, fun vs0 vs h => by simp [VRs] at h⟩
    simp only [VR] at h h' ⊢
    rcases h' with h' | ⟨e, vs, b1, b2⟩
    · rcases h with h | ⟨e, vs0, a1, _⟩
      · left
        unfold OV at h h' ⊢
        rcases h' with ⟨e1, b, g1, g2⟩ | ⟨e1, n, g1, g2⟩ | ⟨e1, L, n, cap, g1, g2, g3⟩ | ⟨e1, x, g1, g2⟩
        · rcases h with ⟨_, b0, q1, q2⟩ | ⟨e2, _⟩ | ⟨e2, _⟩ | ⟨e2, _⟩ <;> first | omega | skip
          exact .inl ⟨e1, b, g1, by have := (q2.mono hle).fn g2; rw [← this]; exact q2⟩
        · rcases h with ⟨e2, _⟩ | ⟨_, n0, q1, q2⟩ | ⟨e2, _⟩ | ⟨e2, _⟩ <;> first | omega | skip
          exact .inr (.inl ⟨e1, n, by have := (q1.mono hle).fn g1; rw [← this]; exact q1, g2⟩)
        · rcases h with ⟨e2, _⟩ | ⟨e2, _⟩ | ⟨_, L0, n0, cap0, q1, q2, _⟩ | ⟨e2, _⟩ <;> first | omega | skip
          have := same q1 g1
          subst this
          have := (q2.mono hle).fn g2
          exact .inr (.inr (.inl ⟨e1, _, n, cap, q1, by rw [← this]; exact q2, g3⟩))
        · rcases h with ⟨e2, _⟩ | ⟨e2, _⟩ | ⟨e2, _⟩ | ⟨_, x0, q1, q2⟩ <;> first | omega | skip
          refine .inr (.inr (.inr ⟨e1, x, g1, ?_⟩))
          rcases g2 with g2 | ⟨n, g2, g3⟩
          · exact .inl g2
          · rcases q2 with q2 | ⟨n0, q2, _⟩
            · exact .inl q2
            · exact .inr ⟨n, by have := (q2.mono hle).fn g2; rw [← this]; exact q2, g3⟩
      · unfold OV at h'
        rcases h' with ⟨e1, _⟩ | ⟨e1, _⟩ | ⟨e1, _⟩ | ⟨e1, _⟩ <;> omega
    · rcases h with h | ⟨_, vs0, a1, _⟩
      · unfold OV at h
        rcases h with ⟨e1, _⟩ | ⟨e1, _⟩ | ⟨e1, _⟩ | ⟨e1, _⟩ <;> omega
      · exact .inr ⟨e, vs, ih.2 _ _ a1 b1, b2⟩
abbrev LH := List (Nat × Nat × Nat × Nat × Nat × List Nat × Nat × Nat)
def lkOf (lk : LH) (nt r : Nat) (d : Bool) (k : Nat → Nat → Nat → List Nat → Nat → Nat → Bool) : Bool :=
  List.rec (motive := fun _ => Bool) d (fun p _ ih => Bool.rec ih (k p.2.2.1 p.2.2.2.1 p.2.2.2.2.1 p.2.2.2.2.2.1 p.2.2.2.2.2.2.1 p.2.2.2.2.2.2.2) (ite1 (Nat.beq nt p.1) (Nat.beq r p.2.1))) lk
theorem lkOf_cases {nt r : Nat} {d : Bool} {k : Nat → Nat → Nat → List Nat → Nat → Nat → Bool} : ∀ lk : LH, lkOf lk nt r d k = d ∨ ∃ u q t mods lo hi, lkOf lk nt r d k = k u q t mods lo hi
  | [] => .inl rfl
  | p :: lk => by
    show (Bool.rec (lkOf lk nt r d k) (k p.2.2.1 p.2.2.2.1 p.2.2.2.2.1 p.2.2.2.2.2.1 p.2.2.2.2.2.2.1 p.2.2.2.2.2.2.2) (ite1 (Nat.beq nt p.1) (Nat.beq r p.2.1)) : Bool) = d ∨ ∃ u q t mods lo hi, (Bool.rec (lkOf lk nt r d k) (k p.2.2.1 p.2.2.2.1 p.2.2.2.2.1 p.2.2.2.2.2.1 p.2.2.2.2.2.2.1 p.2.2.2.2.2.2.2) (ite1 (Nat.beq nt p.1) (Nat.beq r p.2.1)) : Bool) = k u q t mods lo hi
    cases ite1 (Nat.beq nt p.1) (Nat.beq r p.2.1) with
    | false => exact lkOf_cases lk
    | true => exact .inr ⟨_, _, _, _, _, _, rfl⟩
def rid (c : Code) : Nat := Code.rec (motive := fun _ => Nat) 0 (fun id _ _ => id) (fun _ _ a _ => a) (fun _ _ _ a _ => a) (fun _ _ a => a) (fun _ a => a) (fun _ _ _ _ _ _ => 0) (fun _ => 0) (fun _ a => a) (fun _ => 0) (fun _ => 0) 0 (fun _ => 0) c
def cpN (mods : List Nat) (tm : T V) (n : Nat) : T V → (T V → Bool) → Bool := Nat.rec (motive := fun _ => T V → (T V → Bool) → Bool) (fun b k => k b) (fun i ih b k => Bool.rec (stK V.nil (gt V.nil i tm) i b fun b => ih b k) (ih b k) (memN i mods)) n
theorem cpN_spec {mods : List Nat} {tm : T V} : ∀ {n : Nat} {b : T V} {k : T V → Bool}, cpN mods tm n b k = true → ∃ b', k b' = true ∧ ∀ i, gt V.nil i b' = if i < n ∧ memN i mods = false then gt V.nil i tm else gt V.nil i b := by
  intro n
  induction n with
  | zero => intro b k hk; exact ⟨b, hk, fun i => by rw [if_neg (by omega)]⟩
  | succ n ih =>
    intro b k hk
    have hk : (Bool.rec (stK V.nil (gt V.nil n tm) n b fun b => cpN mods tm n b k) (cpN mods tm n b k) (memN n mods) : Bool) = true := hk
    cases e : memN n mods with
    | true =>
      rw [e] at hk
      obtain ⟨b', h1, h2⟩ := ih hk
      refine ⟨b', h1, fun i => ?_⟩
      rw [h2 i]
      by_cases c : i < n ∧ memN i mods = false
      · rw [if_pos c, if_pos ⟨by omega, c.2⟩]
      · rw [if_neg c, if_neg]
        rintro ⟨c1, c2⟩
        by_cases ei : i = n
        · subst ei; rw [e] at c2; cases c2
        · exact c ⟨by omega, c2⟩
    | false =>
      rw [e] at hk
      have hk : stK V.nil (gt V.nil n tm) n b (fun b => cpN mods tm n b k) = true := hk
      rw [stK_eq] at hk
      obtain ⟨b', h1, h2⟩ := ih hk
      refine ⟨b', h1, fun i => ?_⟩
      rw [h2 i]
      by_cases ei : i = n
      · subst ei
        rw [if_neg (by omega), if_pos ⟨by omega, e⟩, gt_st_same]
      · rw [gt_st_ne _ _ (Ne.symm ei)]
        by_cases c : i < n ∧ memN i mods = false
        · rw [if_pos c, if_pos ⟨by omega, c.2⟩]
        · rw [if_neg c, if_neg]
          rintro ⟨c1, c2⟩
          exact c ⟨by omega, c2⟩
def anyP (a : Nat) : V := .o 1 (.m 0) a 0 4611686018427387904
def txtB (n lo hi : Nat) : V := .o 0 (.cons (anyP n) (.cons (.x (Nat.succ n) .u8 lo hi) (.cons (anyP (Nat.succ (Nat.succ n))) .nil))) 0 0 0
def cntB (n : Nat) : V := .o 2 (.cons (anyP n) .nil) 3 0 0
def noD (D : V) : Bool := chain true (fun _ _ _ => false) D
def nextB (nt t : Nat) (mods : List Nat) (n : Nat) (tmB : T V) : KX := fun x tm' D' U' _ _ => X.rec (motive := fun _ => Bool)
  (ite1 (noD D') <| ite1 (sameV U' (.b false)) <| ite1 (linK (gt V.nil t tm') fun kd l => ite1 (Nat.beq kd 3) <| addLK (Int.negSucc 0) (.cons (anyP n) .nil) l fun d => cstK d (fun c => ieq c (Int.ofNat 1)) false) <|
    allN nt fun i => ior (Nat.beq i t) (ior (memN i mods) (sameV (gt V.nil i tm') (gt V.nil i tmB)))) (fun _ => false) false (fun _ => false) x
def ropD (v : V) (k : V → Bool) (d : Bool) : Bool := V.rec (motive := fun _ => Bool) (d) (fun _ _ _ _ => d) (fun _ => d) (fun _ _ => d) (fun _ => d) (fun _ _ => d) (d) (fun _ _ _ _ => d) (d) (d) (d) (fun _ => d) (d) (fun _ _ _ => d) (d) (fun _ _ _ => d) (d) (fun _ _ => d) (fun _ _ => d) (fun _ _ _ _ => d) (fun _ _ => d) (fun _ _ _ _ _ => d) (fun t l _ _ _ _ => Bool.rec d (k l) (Nat.beq t 0)) v
theorem ropD_spec {v : V} {k : V → Bool} {d : Bool} (h : ropD v k d = true) : d = true ∨ ∃ l x y z, v = .o 0 l x y z ∧ k l = true := by
  cases v <;> first | exact .inl h | skip
  case o t l x y z =>
    have h : (Bool.rec d (k l) (Nat.beq t 0) : Bool) = true := h
    cases e : Nat.beq t 0 with
    | false => rw [e] at h; exact .inl h
    | true => rw [e] at h; have e := Nat.eq_of_beq_eq_true e; subst e; exact .inr ⟨_, _, _, _, rfl, h⟩
def pieceD (v : V) (k : Nat → Bool) (d : Bool) : Bool := V.rec (motive := fun _ => Bool) (d) (fun _ _ _ _ => d) (fun _ => d) (fun _ _ => d) (fun _ => d) (fun _ _ => d) (d) (fun _ _ _ _ => d) (d) (d) (d) (fun _ => d) (d) (fun _ _ _ => d) (d) (fun _ _ _ => d) (d) (fun _ _ => d) (fun _ _ => d) (fun _ _ _ _ => d) (fun _ _ => d) (fun _ _ _ _ _ => d) (fun t l _ _ _ _ => Bool.rec d (k (mskV l)) (Nat.beq t 1)) v
theorem pieceD_spec {v : V} {k : Nat → Bool} {d : Bool} (h : pieceD v k d = true) : d = true ∨ ∃ l x y z, v = .o 1 l x y z ∧ k (mskV l) = true := by
  cases v <;> first | exact .inl h | skip
  case o t l x y z =>
    have h : (Bool.rec d (k (mskV l)) (Nat.beq t 1) : Bool) = true := h
    cases e : Nat.beq t 1 with
    | false => rw [e] at h; exact .inl h
    | true => rw [e] at h; have e := Nat.eq_of_beq_eq_true e; subst e; exact .inr ⟨_, _, _, _, rfl, h⟩
def ruleL (ih : EX) (c : Code) (nt u t : Nat) (mods : List Nat) (lo hi : Nat) (tm : T V) (D U : V) (h : T O) (nx : Nat) (k : KX) (l S y : V) (kd m : Nat) : Bool :=
    ite1 (Nat.beq kd 3) <| ite1 (noD D) <| ite1 (sameV U (.b false)) <| ite1 (allN 256 fun q => ior (tbN m q) (ite1 (Nat.ble lo q) (Nat.ble q hi))) <| ite1 (inot (memN u mods)) <| ite1 (inot (Nat.beq u t)) <| ite1 (Nat.blt u nt) <|
    atMost l 4611686018427387904 fun _ => cpN mods tm nt .leaf fun tm0 =>
    ite1 (stK V.nil (txtB nx lo hi) u tm0 fun tm1 => stK V.nil (cntB nx) t tm1 fun tmB => ih c nt tmB .nil (.b false) .leaf (Nat.add nx 3) (nextB nt t mods nx tmB)) <|
    lenE y S fun S2 => mkR 3 S2 fun s2 => stK V.nil s2 t tm0 fun tm2 => ih (.loop c) nt tm2 .nil (.b false) h nx k
def scanL (ih : EX) (c : Code) (nt u t : Nat) (mods : List Nat) (lo hi : Nat) (tm : T V) (D U : V) (h : T O) (nx : Nat) (k : KX) (d : Bool) : Bool :=
  ropD (gt V.nil u tm) (fun l => linK (gt V.nil t tm) fun kd S => splS S fun n ls => dropL l n ls (fun r => chain d (fun y _ _ => pieceD y (fun m => ruleL ih c nt u t mods lo hi tm D U h nx k l S y kd m) d) r) d) d
theorem noD_spec {ρ : Ren} {D : V} {ds : List Deferred} (hk : noD D = true) (hd : DR ρ D ds) : D = .nil ∧ ds = [] := by
  cases D <;> first | (simp only [DR] at hd; done) | skip
  case nil => simp only [DR] at hd; exact ⟨rfl, hd⟩
  case cons x l => exact Bool.noConfusion hk
theorem ior_cases {a b : Bool} (h : ior a b = true) : a = true ∨ b = true := by
  cases a
  · exact .inr h
  · exact .inl rfl
theorem inot_cases {a : Bool} (h : inot a = true) : a = false := by
  cases a
  · rfl
  · exact Bool.noConfusion h
theorem scan_sound {ex : EX} (ih : EXok P ng ex) {c : Code} {nt u t : Nat} {mods : List Nat} {lo hi : Nat} {tm : T V} {D U : V} {h : T O} {nx : Nat} {k : KX} {d : Bool} (hk : scanL ex c nt u t mods lo hi tm D U h nx k d = true)
    {dk : Bool} {c0 : Frame} {cs0 : List Frame} {ρ0 : Ren} {h0 : T O} {w0 : World} {Q : Exit → Act → List Frame → World → Prop} (hq : QOK ng nt dk c0 cs0 ρ0 h0 w0 k Q)
    {ρ : Ren} {a : Act} {cs : List Frame} {w : World} (s : St ρ h nx w) (x : Ext ρ0 h0 w0 ρ h w) (g : RG ng ρ) (ht : TR ρ tm a) (hn : nt ≤ a.tmps.size) (hd : DR ρ D a.defers) (hu : UR ρ dk U c0 cs0 cs) : d = true ∨ WL P dk c Q a cs w := by
  replace hk := ropD_spec hk
  rcases hk with hk | ⟨l, x1, x2, x3, hR, hk⟩
  · exact .inl hk
  have hu0 := ht u
  rw [hR] at hu0
  obtain ⟨b, hb, hrr⟩ := rope_of rfl hu0
  replace hk := linK_spec hk
  obtain ⟨kd, S, hk, hS⟩ := hk
  obtain ⟨n0, hSn, hvt⟩ := hS ρ _ (ht t)
  replace hk := splS_spec hk (LR_isC hSn)
  obtain ⟨n, ls, hk, hc, hnl⟩ := hk
  replace hk := dropL_spec hk (RR_isC hrr) hc
  rcases hk with hk | ⟨r, hk, _, hr⟩
  · exact .inl hk
  obtain ⟨uu, g1, g2⟩ := hnl ρ n0 hSn
  obtain ⟨j, q0, q1, q2⟩ := hr ρ _ uu hrr g1
  have ej : n0 = (j : Int) := by omega
  subst ej
  obtain h5 | ⟨y, r', rfl, h5⟩ : d = true ∨ ∃ y r', r = .cons y r' ∧ pieceD y (fun m => ruleL ex c nt u t mods lo hi tm D U h nx k l S y kd m) d = true := by
    cases r <;> first | exact .inl hk | exact .inr ⟨_, _, rfl, hk⟩
  · exact .inl h5
  clear hk
  replace h5 := pieceD_spec h5
  rcases h5 with hk | ⟨lm, pa, plo, phi, rfl, hk⟩
  · exact .inl hk
  right
  unfold ruleL at hk
  replace hk := ite1_spec hk
  obtain ⟨e1, hk⟩ := hk
  have e1 := beq_spec e1
  subst e1
  replace hk := ite1_spec hk
  obtain ⟨e2, hk⟩ := hk
  obtain ⟨rfl, hdn⟩ := noD_spec e2 hd
  replace hk := ite1_spec hk
  obtain ⟨e3, hk⟩ := hk
  have e3 := sameV_eq e3
  subst e3
  replace hk := ite1_spec hk
  obtain ⟨e4, hk⟩ := hk
  replace hk := ite1_spec hk
  obtain ⟨e5, hk⟩ := hk
  have e5 := inot_cases e5
  replace hk := ite1_spec hk
  obtain ⟨e6, hk⟩ := hk
  have e6 := Nat.ne_of_beq_eq_false (inot_cases e6)
  replace hk := ite1_spec hk
  obtain ⟨e7, hk⟩ := hk
  have e7 := Nat.blt_eq.mp e7
  replace hk := atMost_spec hk
  obtain ⟨_, hk, hmost⟩ := hk
  have hlen := (hmost ρ _ hrr).2
  replace hk := cpN_spec hk
  obtain ⟨tm0, hk, hcp⟩ := hk
  replace hk := ite1_spec hk
  obtain ⟨hB, hk⟩ := hk
  rw [stK_eq, stK_eq] at hB
  replace hk := lenE_spec hk (LR_isC hSn)
  obtain ⟨S2, hk, _, hS2⟩ := hk
  replace hk := mkR_spec hk
  obtain ⟨s2, hk, hs2⟩ := hk
  rw [stK_eq] at hk
  cases dk with
  | true =>
    obtain ⟨v, _, hum⟩ := hu
    simp only [UM] at hum
  | false =>
  obtain ⟨_, rfl⟩ := hu
  simp only [RR] at q2
  obtain ⟨sy, s3, hpr, _, hsplit⟩ := q2
  have hpr0 := hpr
  simp only [PR] at hpr0
  obtain ⟨_, Ly, _, _, _, _, hmask⟩ := hpr0.resolve_right fun ⟨z, _⟩ => by omega
  have hcls : ∀ q ∈ sy, lo ≤ q.toNat ∧ q.toNat ≤ hi := fun q hq => by
    have h1 := allN_spec e4 q.toNat (UInt8.toNat_lt q)
    rcases ior_cases h1 with h2 | h2
    · rw [hmask q hq] at h2; cases h2
    · obtain ⟨h3, h4⟩ := ite1_spec h2
      exact ⟨Nat.ble_eq.mp h3, Nat.ble_eq.mp h4⟩
  have main : ∀ (dd m : Nat) (a' : Act) (w' : World), m + dd = sy.length → St ρ h nx w' → Ext ρ0 h0 w0 ρ h w' →
      (∀ i, i < nt → i ≠ t → memN i mods = false → VR ρ (gt V.nil i tm) (a'.tmps.getD i undef)) → a'.tmps.getD t undef = .int .i64 ((j + m : Nat) : Int) → nt ≤ a'.tmps.size → a'.defers = [] → WL P false c Q a' cs w' := by
    intro dd
    induction dd with
    | zero =>
      intro m a' w' hm s' x' hsl htt hn' hd'
      refine (ih (.loop c) nt _ .nil (.b false) h nx k hk false c0 cs ρ0 h0 w0 Q hq ρ a' cs w' s' x' g (fun i => ?_) hn' (by simp only [DR]; exact hd') ⟨rfl, rfl⟩).2 c rfl
      by_cases ei : t = i
      · subst ei
        rw [gt_st_same, htt]
        have h1 := (hs2 ρ _ (hS2 ρ _ sy hSn hpr)).1
        have h2 : ((j : Int) + sy.length) = ((j + m : Nat) : Int) := by omega
        rw [h2] at h1
        exact h1
      · rw [gt_st_ne _ _ ei, hcp i]
        by_cases ci : i < nt ∧ memN i mods = false
        · rw [if_pos ci]; exact hsl i ci.1 (Ne.symm ei) ci.2
        · rw [if_neg ci, gt_leaf]; simp only [VR]
    | succ dd ihd =>
      intro m a' w' hm s' x' hsl htt hn' hd'
      have hlt : m < sy.length := by omega
      obtain ⟨ch, hch⟩ : ∃ ch, sy[m]? = some ch := ⟨sy[m], List.getElem?_eq_getElem hlt⟩
      have hat : b.data.toList[j + m]? = some ch := by
        have h1 : (b.data.toList.drop j)[m]? = some ch := by rw [hsplit, List.getElem?_append_left hlt]; exact hch
        rwa [List.getElem?_drop] at h1
      have hpl : j + m < b.data.toList.length := (List.getElem?_eq_some_iff.1 hat).1
      have hcut : b.data.toList = b.data.toList.take (j + m) ++ ([ch] ++ b.data.toList.drop (j + m + 1)) := by
        have h1 := List.drop_eq_getElem_cons hpl
        have h2 : b.data.toList[j + m] = ch := (List.getElem?_eq_some_iff.1 hat).2
        rw [h2] at h1
        have h3 := (List.take_append_drop (j + m) b.data.toList).symm
        rw [h1] at h3
        exact h3
      let ρB : Ren := fun i => if i = nx then some ⟨0, enc (b.data.toList.take (j + m)), 0⟩ else if i = nx + 1 then some ⟨0, ch.toNat, 0⟩ else if i = nx + 2 then some ⟨0, enc (b.data.toList.drop (j + m + 1)), 0⟩ else ρ i
      have r0 : ρB nx = some ⟨0, enc (b.data.toList.take (j + m)), 0⟩ := by simp [ρB]
      have r1 : ρB (nx + 1) = some ⟨0, ch.toNat, 0⟩ := by simp [ρB]
      have r2 : ρB (nx + 2) = some ⟨0, enc (b.data.toList.drop (j + m + 1)), 0⟩ := by simp [ρB]
      have hle : Ren.le ρ ρB := fun i L hi => by
        have hlt : i < nx := Nat.lt_of_not_le fun hge => by rw [s.fresh i hge] at hi; cases hi
        simp only [ρB]
        rw [if_neg (by omega), if_neg (by omega), if_neg (by omega)]
        exact hi
      have htake : (b.data.toList.take (j + m)).length = j + m := by rw [List.length_take]; omega
      have hdrop : (b.data.toList.drop (j + m + 1)).length ≤ 4611686018427387904 := by rw [List.length_drop]; omega
      have none0 : ∀ q : UInt8, tbN 0 q.toNat = false := fun q => by
        simp only [tbN]
        have : Nat.shiftRight 0 q.toNat = 0 := Nat.zero_shiftRight _
        rw [this]
        rfl
      have p0 : PR ρB (anyP nx) (b.data.toList.take (j + m)) := by
        simp only [anyP, PR]
        exact .inl ⟨trivial, _, r0, rfl, Nat.zero_le _, by rw [htake]; omega, fun q _ => none0 q⟩
      have p2 : PR ρB (anyP (nx + 2)) (b.data.toList.drop (j + m + 1)) := by
        simp only [anyP, PR]
        exact .inl ⟨trivial, _, r2, rfl, Nat.zero_le _, hdrop, fun q _ => none0 q⟩
      have pc : PR ρB (.x (nx + 1) .u8 lo hi) [ch] := by
        simp only [PR]
        have := hcls ch (List.mem_of_getElem? hch)
        exact ⟨trivial, ch, _, rfl, r1, this.1, this.2, rfl⟩
      have rB : RR ρB (.cons (anyP nx) (.cons (.x (nx + 1) .u8 lo hi) (.cons (anyP (nx + 2)) .nil))) b.data.toList := by
        simp only [RR]
        exact ⟨_, _, p0, ⟨_, _, pc, ⟨_, _, p2, rfl, (List.append_nil _).symm⟩, rfl⟩, hcut⟩
      have sB : St ρB .leaf (nx + 3) w' := by
        refine ⟨fun id L hi => ?_, fun i j L M hi => ?_, fun i hi => ?_, fun i _ hi => ?_⟩
        · rw [gt_leaf] at hi; exact hi.elim
        · rw [gt_leaf] at hi; exact hi.elim
        · simp only [ρB]
          rw [if_neg (by omega), if_neg (by omega), if_neg (by omega)]
          exact s.fresh i (by omega)
        · rw [gt_leaf] at hi; exact hi.elim
      have htxt := hsl u e7 e6 e5
      rw [hR] at htxt
      obtain ⟨b', hb', hrr'⟩ := rope_of rfl htxt
      have hbb : b'.data.toList = b.data.toList := hrr'.fn hrr
      have lB : LR ρB (.cons (anyP nx) .nil) ((j + m : Nat) : Int) := by
        simp only [LR]
        refine ⟨_, 0, ?_, rfl, (Int.add_zero _).symm⟩
        have := PR_MR (y := anyP nx) rfl p0
        rwa [htake] at this
      refine WL.round (ih c nt _ .nil (.b false) .leaf (Nat.add nx 3) _ hB false c0 cs ρB .leaf w' _ (fun ρ' z tm' D' U' h' nx' a'' cs' w'' hkz s1 x1' g1' t1 hn1 hd1 hu1 => ?_) ρB a' cs w' sB (Ext.refl _ _ _) (g.mono hle) (fun i => ?_) hn' (by simp only [DR]; exact hd') ⟨rfl, rfl⟩).1
      · cases z <;> first | exact Bool.noConfusion hkz | skip
        replace hkz := ite1_spec hkz
        obtain ⟨f1, hkz⟩ := hkz
        obtain ⟨_, hd2⟩ := noD_spec f1 hd1
        replace hkz := ite1_spec hkz
        obtain ⟨f2, hkz⟩ := hkz
        obtain ⟨f3, f4⟩ := ite1_spec hkz
        obtain ⟨_, rfl⟩ := hu1
        have kept : ∀ q, q < w'.heap.size → w''.heap[q]? = w'.heap[q]? := fun q hq => (x1'.kept q hq fun id L hw => by rw [gt_leaf] at hw; exact hw.elim).1
        have s2' : St ρ h nx w'' := by
          refine ⟨fun id L hi hL => ?_, s'.inj, s'.fresh, s'.dead⟩
          obtain ⟨o, o1, o2⟩ := s'.rel id L hi hL
          exact ⟨o, by rw [kept L.blk (Array.getElem?_eq_some_iff.1 o1).1]; exact o1, o2⟩
        have x2' : Ext ρ0 h0 w0 ρ h w'' := x'.trans ⟨Ren.le.refl _, x1'.size, x1'.os, x1'.tape, x1'.output, fun q hq hw => ⟨kept q hq, hw⟩, fun _ _ hh => ⟨hh, rfl⟩⟩
        refine ihd (m + 1) a'' w'' (by omega) s2' x2' (fun i hi hit him => ?_) ?_ hn1 hd2
        · have h1 := allN_spec f4 i hi
          rcases ior_cases h1 with h2 | h2
          · exact absurd (Nat.eq_of_beq_eq_true h2) hit
          rcases ior_cases h2 with h2 | h2
          · rw [him] at h2; cases h2
          have h3 := sameV_eq h2
          have h4 := t1 i
          rw [h3, gt_st_ne _ _ (Ne.symm hit)] at h4
          by_cases ei : u = i
          · subst ei
            rw [gt_st_same] at h4
            obtain ⟨b2, hb2, hr2⟩ := rope_of rfl h4
            have e9 : b2.data.toList = b.data.toList := hr2.fn (rB.mono x1'.le)
            rw [hR, hb2]
            exact VR_rope (by rw [e9]; exact hrr)
          · rw [gt_st_ne _ _ ei, hcp i, if_pos ⟨hi, him⟩] at h4
            exact (VR_back (hle.trans x1'.le) _).1 _ _ (hsl i hi hit him) h4
        · obtain ⟨kd2, l2, f5, hl2⟩ := linK_spec f3
          obtain ⟨f6, f7⟩ := ite1_spec f5
          have f6 := beq_spec f6
          subst f6
          obtain ⟨nn, hnn, hvv⟩ := hl2 ρ' _ (t1 t)
          obtain ⟨dd2, f8, _, hdd⟩ := addLK_spec f7 (LR_isC hnn)
          have hdn := hdd ρ' nn _ hnn (lB.mono x1'.le)
          rcases cstK_spec f8 with ⟨cc, hcc, hc2⟩ | hcc
          · have h5 := hc2 ρ' _ hdn
            rw [ieq_eq] at hcc
            have hcc : cc = 1 := by simpa using hcc
            have z : (Int.negSucc 0) * ((j + m : Nat) : Int) = -((j + m : Nat) : Int) := by
              have : (Int.negSucc 0 : Int) = -1 := rfl
              rw [this]; omega
            rw [z] at h5
            rw [hvv]
            have h6 : nn = ((j + (m + 1) : Nat) : Int) := by omega
            rw [h6]
            rfl
          · exact Bool.noConfusion hcc
      · by_cases ei : t = i
        · subst ei
          rw [gt_st_same, htt]
          exact VR_lin lB
        · rw [gt_st_ne _ _ ei]
          by_cases eu : u = i
          · subst eu
            rw [gt_st_same, hb']
            exact VR_rope (by rw [hbb]; exact rB)
          · rw [gt_st_ne _ _ eu, hcp i]
            by_cases ci : i < nt ∧ memN i mods = false
            · rw [if_pos ci]; exact (hsl i ci.1 (Ne.symm ei) ci.2).mono hle
            · rw [if_neg ci, gt_leaf]; simp only [VR]
  exact main sy.length 0 a w (by omega) s x (fun i _ _ _ => ht i) (by rw [hvt]; rfl) hn hdn
def slK (v : V) (k : Nat → Nat → Nat → Nat → Bool) : Bool := V.rec (motive := fun _ => Bool) (false) (fun _ _ _ _ => false) (fun _ => false) (fun _ _ => false) (fun _ => false) (fun _ _ => false) (false) (fun id off len sz => k id off len sz) (false) (false) (false) (fun _ => false) (false) (fun _ _ _ => false) (false) (fun _ _ _ => false) (false) (fun _ _ => false) (fun _ _ => false) (fun _ _ _ _ => false) (fun _ _ => false) (fun _ _ _ _ _ => false) (fun _ _ _ _ _ _ => false) v
theorem slK_spec {v : V} {k : Nat → Nat → Nat → Nat → Bool} (hk : slK v k = true) : ∃ id off len sz, v = .sl id off len sz ∧ k id off len sz = true := by
  cases v <;> first | exact Bool.noConfusion hk | exact ⟨_, _, _, _, rfl, hk⟩
def padV (n : Nat) (r : V) : V := Nat.rec (motive := fun _ => V) r (fun _ ih => .cons .nil ih) n
theorem padV_CR {ρ : Ren} {x : V} : ∀ {n : Nat} {vs : List Value} {v : Value}, vs[n]? = some v → VR ρ x v → CR ρ (padV n (.cons x .nil)) vs := by
  intro n
  induction n with
  | zero =>
    intro vs v hv hx
    cases vs with
    | nil => cases hv
    | cons a as =>
      have : a = v := by simpa using hv
      subst this
      show CR ρ (.cons x .nil) (a :: as)
      simp only [CR]
      exact ⟨_, _, rfl, hx, trivial⟩
  | succ n ih =>
    intro vs v hv hx
    cases vs with
    | nil => cases hv
    | cons a as =>
      show CR ρ (.cons .nil (padV n (.cons x .nil))) (a :: as)
      simp only [CR]
      exact ⟨_, _, rfl, by simp only [VR], ih (by simpa using hv) hx⟩
def ruleL2 (ih : EX) (c : Code) (nt id ty pos t : Nat) (mods : List Nat) (lo hi : Nat) (tm : T V) (D U : V) (h : T O) (nx : Nat) (k : KX) (l S y : V) (kd m : Nat) : Bool :=
    ite1 (Nat.beq kd 3) <| ite1 (noD D) <| ite1 (sameV U (.b false)) <| ite1 (allN 256 fun q => ior (tbN m q) (ite1 (Nat.ble lo q) (Nat.ble q hi))) <|
    atMost l 4611686018427387904 fun _ => cpN mods tm nt .leaf fun tm0 =>
    ite1 (stK O.none (.c (padV pos (.cons (txtB nx lo hi) .nil)) ty false) id .leaf fun hB => stK V.nil (cntB nx) t tm0 fun tmB => ih c nt tmB .nil (.b false) hB (Nat.add nx 3) (nextB nt t mods nx tmB)) <|
    lenE y S fun S2 => mkR 3 S2 fun s2 => stK V.nil s2 t tm0 fun tm2 => ih (.loop c) nt tm2 .nil (.b false) h nx k
def scanL2 (ih : EX) (c : Code) (nt u q t : Nat) (mods : List Nat) (lo hi : Nat) (tm : T V) (D U : V) (h : T O) (nx : Nat) (k : KX) (d : Bool) : Bool :=
  slK (gt V.nil u tm) fun id off _ sz => vN (gt V.nil q tm) fun jj => oC (gt O.none id h) fun cs ty _ => nthK cs (Nat.add off (Nat.mul jj sz)) fun xc =>
  ropD xc (fun l => linK (gt V.nil t tm) fun kd S => splS S fun n ls => dropL l n ls (fun r => chain d (fun y _ _ => pieceD y (fun m => ruleL2 ih c nt id ty (Nat.add off (Nat.mul jj sz)) t mods lo hi tm D U h nx k l S y kd m) d) r) d) d
theorem scan_sound2 {ex : EX} (ih : EXok P ng ex) {c : Code} {nt u q t : Nat} {mods : List Nat} {lo hi : Nat} {tm : T V} {D U : V} {h : T O} {nx : Nat} {k : KX} {d : Bool} (hk : scanL2 ex c nt u q t mods lo hi tm D U h nx k d = true)
    {dk : Bool} {c0 : Frame} {cs0 : List Frame} {ρ0 : Ren} {h0 : T O} {w0 : World} {Q : Exit → Act → List Frame → World → Prop} (hq : QOK ng nt dk c0 cs0 ρ0 h0 w0 k Q)
    {ρ : Ren} {a : Act} {cs : List Frame} {w : World} (s : St ρ h nx w) (x : Ext ρ0 h0 w0 ρ h w) (g : RG ng ρ) (ht : TR ρ tm a) (hn : nt ≤ a.tmps.size) (hd : DR ρ D a.defers) (hu : UR ρ dk U c0 cs0 cs) : d = true ∨ WL P dk c Q a cs w := by
  replace hk := slK_spec hk
  obtain ⟨id, off, len, sz, hU, hk⟩ := hk
  replace hk := vN_spec hk
  obtain ⟨kq, jj, hQ, hk⟩ := hk
  replace hk := oC_spec hk
  obtain ⟨cs0', ty, wr, ho, hk⟩ := hk
  replace hk := nthK_spec hk
  obtain ⟨xc, hk, hnth⟩ := hk
  replace hk := ropD_spec hk
  rcases hk with hk | ⟨l, x1, x2, x3, hR, hk⟩
  · exact .inl hk
  subst hR
  have hu0 := ht u
  rw [hU] at hu0
  simp only [VR] at hu0
  obtain ⟨LU, capU, hLU, _⟩ := hu0
  obtain ⟨oU, hoU, arrU, fzU, hoU2, qU2, qU3, qU4, qU5⟩ := s.relC ho hLU
  obtain ⟨vc, hvc1, hvc2⟩ := hnth ρ _ qU5
  obtain ⟨b, rfl, hrr⟩ := rope_of rfl hvc2
  replace hk := linK_spec hk
  obtain ⟨kd, S, hk, hS⟩ := hk
  obtain ⟨n0, hSn, hvt⟩ := hS ρ _ (ht t)
  replace hk := splS_spec hk (LR_isC hSn)
  obtain ⟨n, ls, hk, hc, hnl⟩ := hk
  replace hk := dropL_spec hk (RR_isC hrr) hc
  rcases hk with hk | ⟨r, hk, _, hr⟩
  · exact .inl hk
  obtain ⟨uu, g1, g2⟩ := hnl ρ n0 hSn
  obtain ⟨j, q0, q1, q2⟩ := hr ρ _ uu hrr g1
  have ej : n0 = (j : Int) := by omega
  subst ej
  obtain h5 | ⟨y, r', rfl, h5⟩ : d = true ∨ ∃ y r', r = .cons y r' ∧ pieceD y (fun m => ruleL2 ex c nt id ty (Nat.add off (Nat.mul jj sz)) t mods lo hi tm D U h nx k l S y kd m) d = true := by
    cases r <;> first | exact .inl hk | exact .inr ⟨_, _, rfl, hk⟩
  · exact .inl h5
  clear hk
  replace h5 := pieceD_spec h5
  rcases h5 with hk | ⟨lm, pa, plo, phi, rfl, hk⟩
  · exact .inl hk
  right
  unfold ruleL2 at hk
  replace hk := ite1_spec hk
  obtain ⟨e1, hk⟩ := hk
  have e1 := beq_spec e1
  subst e1
  replace hk := ite1_spec hk
  obtain ⟨e2, hk⟩ := hk
  obtain ⟨rfl, hdn⟩ := noD_spec e2 hd
  replace hk := ite1_spec hk
  obtain ⟨e3, hk⟩ := hk
  have e3 := sameV_eq e3
  subst e3
  replace hk := ite1_spec hk
  obtain ⟨e4, hk⟩ := hk
  replace hk := atMost_spec hk
  obtain ⟨_, hk, hmost⟩ := hk
  have hlen := (hmost ρ _ hrr).2
  replace hk := cpN_spec hk
  obtain ⟨tm0, hk, hcp⟩ := hk
  replace hk := ite1_spec hk
  obtain ⟨hB, hk⟩ := hk
  rw [stK_eq, stK_eq] at hB
  replace hk := lenE_spec hk (LR_isC hSn)
  obtain ⟨S2, hk, _, hS2⟩ := hk
  replace hk := mkR_spec hk
  obtain ⟨s2, hk, hs2⟩ := hk
  rw [stK_eq] at hk
  cases dk with
  | true =>
    obtain ⟨v, _, hum⟩ := hu
    simp only [UM] at hum
  | false =>
  obtain ⟨_, rfl⟩ := hu
  simp only [RR] at q2
  obtain ⟨sy, s3, hpr, _, hsplit⟩ := q2
  have hpr0 := hpr
  simp only [PR] at hpr0
  obtain ⟨_, Ly, _, _, _, _, hmask⟩ := hpr0.resolve_right fun ⟨z, _⟩ => by omega
  have hcls : ∀ q ∈ sy, lo ≤ q.toNat ∧ q.toNat ≤ hi := fun q hq => by
    have h1 := allN_spec e4 q.toNat (UInt8.toNat_lt q)
    rcases ior_cases h1 with h2 | h2
    · rw [hmask q hq] at h2; cases h2
    · obtain ⟨h3, h4⟩ := ite1_spec h2
      exact ⟨Nat.ble_eq.mp h3, Nat.ble_eq.mp h4⟩
  have main : ∀ (dd m : Nat) (a' : Act) (w' : World), m + dd = sy.length → St ρ h nx w' → Ext ρ0 h0 w0 ρ h w' →
      (∀ i, i < nt → i ≠ t → memN i mods = false → VR ρ (gt V.nil i tm) (a'.tmps.getD i undef)) → a'.tmps.getD t undef = .int .i64 ((j + m : Nat) : Int) → nt ≤ a'.tmps.size → a'.defers = [] → WL P false c Q a' cs w' := by
    intro dd
    induction dd with
    | zero =>
      intro m a' w' hm s' x' hsl htt hn' hd'
      refine (ih (.loop c) nt _ .nil (.b false) h nx k hk false c0 cs ρ0 h0 w0 Q hq ρ a' cs w' s' x' g (fun i => ?_) hn' (by simp only [DR]; exact hd') ⟨rfl, rfl⟩).2 c rfl
      by_cases ei : t = i
      · subst ei
        rw [gt_st_same, htt]
        have h1 := (hs2 ρ _ (hS2 ρ _ sy hSn hpr)).1
        have h2 : ((j : Int) + sy.length) = ((j + m : Nat) : Int) := by omega
        rw [h2] at h1
        exact h1
      · rw [gt_st_ne _ _ ei, hcp i]
        by_cases ci : i < nt ∧ memN i mods = false
        · rw [if_pos ci]; exact hsl i ci.1 (Ne.symm ei) ci.2
        · rw [if_neg ci, gt_leaf]; simp only [VR]
    | succ dd ihd =>
      intro m a' w' hm s' x' hsl htt hn' hd'
      have hlt : m < sy.length := by omega
      obtain ⟨ch, hch⟩ : ∃ ch, sy[m]? = some ch := ⟨sy[m], List.getElem?_eq_getElem hlt⟩
      have hat : b.data.toList[j + m]? = some ch := by
        have h1 : (b.data.toList.drop j)[m]? = some ch := by rw [hsplit, List.getElem?_append_left hlt]; exact hch
        rwa [List.getElem?_drop] at h1
      have hpl : j + m < b.data.toList.length := (List.getElem?_eq_some_iff.1 hat).1
      have hcut : b.data.toList = b.data.toList.take (j + m) ++ ([ch] ++ b.data.toList.drop (j + m + 1)) := by
        have h1 := List.drop_eq_getElem_cons hpl
        have h2 : b.data.toList[j + m] = ch := (List.getElem?_eq_some_iff.1 hat).2
        rw [h2] at h1
        have h3 := (List.take_append_drop (j + m) b.data.toList).symm
        rw [h1] at h3
        exact h3
      let ρB : Ren := fun i => if i = nx then some ⟨0, enc (b.data.toList.take (j + m)), 0⟩ else if i = nx + 1 then some ⟨0, ch.toNat, 0⟩ else if i = nx + 2 then some ⟨0, enc (b.data.toList.drop (j + m + 1)), 0⟩ else ρ i
      have r0 : ρB nx = some ⟨0, enc (b.data.toList.take (j + m)), 0⟩ := by simp [ρB]
      have r1 : ρB (nx + 1) = some ⟨0, ch.toNat, 0⟩ := by simp [ρB]
      have r2 : ρB (nx + 2) = some ⟨0, enc (b.data.toList.drop (j + m + 1)), 0⟩ := by simp [ρB]
      have hle : Ren.le ρ ρB := fun i L hi => by
        have hlt : i < nx := Nat.lt_of_not_le fun hge => by rw [s.fresh i hge] at hi; cases hi
        simp only [ρB]
        rw [if_neg (by omega), if_neg (by omega), if_neg (by omega)]
        exact hi
      have htake : (b.data.toList.take (j + m)).length = j + m := by rw [List.length_take]; omega
      have hdrop : (b.data.toList.drop (j + m + 1)).length ≤ 4611686018427387904 := by rw [List.length_drop]; omega
      have none0 : ∀ q : UInt8, tbN 0 q.toNat = false := fun q => by
        simp only [tbN]
        have : Nat.shiftRight 0 q.toNat = 0 := Nat.zero_shiftRight _
        rw [this]
        rfl
      have p0 : PR ρB (anyP nx) (b.data.toList.take (j + m)) := by
        simp only [anyP, PR]
        exact .inl ⟨trivial, _, r0, rfl, Nat.zero_le _, by rw [htake]; omega, fun q _ => none0 q⟩
      have p2 : PR ρB (anyP (nx + 2)) (b.data.toList.drop (j + m + 1)) := by
        simp only [anyP, PR]
        exact .inl ⟨trivial, _, r2, rfl, Nat.zero_le _, hdrop, fun q _ => none0 q⟩
      have pc : PR ρB (.x (nx + 1) .u8 lo hi) [ch] := by
        simp only [PR]
        have := hcls ch (List.mem_of_getElem? hch)
        exact ⟨trivial, ch, _, rfl, r1, this.1, this.2, rfl⟩
      have rB : RR ρB (.cons (anyP nx) (.cons (.x (nx + 1) .u8 lo hi) (.cons (anyP (nx + 2)) .nil))) b.data.toList := by
        simp only [RR]
        exact ⟨_, _, p0, ⟨_, _, pc, ⟨_, _, p2, rfl, (List.append_nil _).symm⟩, rfl⟩, hcut⟩
      obtain ⟨oV, hoV, arrV, fzV, hoV2, qV2, _, qV4, qV5⟩ := s'.relC ho hLU
      obtain ⟨vc', hvc1', hvc2'⟩ := hnth ρ _ qV5
      obtain ⟨b', rfl, hrr'⟩ := rope_of rfl hvc2'
      have hbb : b'.data.toList = b.data.toList := hrr'.fn hrr
      have hidx : id < nx := Nat.lt_of_not_le fun hge => by rw [s.fresh id hge] at hLU; cases hLU
      have hBat : ∀ i, gt O.none i (st O.none (.c (padV (Nat.add off (Nat.mul jj sz)) (.cons (txtB nx lo hi) .nil)) ty false) id .leaf) = if i = id then .c (padV (Nat.add off (Nat.mul jj sz)) (.cons (txtB nx lo hi) .nil)) ty false else O.none := fun i => by
        by_cases e : i = id
        · subst e; rw [gt_st_same, if_pos rfl]
        · rw [gt_st_ne _ _ (Ne.symm e), if_neg e, gt_leaf]
      have hBw : ∀ i, ¬ (gt O.none i (st O.none (.c (padV (Nat.add off (Nat.mul jj sz)) (.cons (txtB nx lo hi) .nil)) ty false) id .leaf)).wr := fun i hi => by
        rw [hBat i] at hi
        by_cases e : i = id
        · rw [if_pos e] at hi; exact Bool.noConfusion (show false = true from hi)
        · rw [if_neg e] at hi; exact hi.elim
      have hBl : ∀ i, (gt O.none i (st O.none (.c (padV (Nat.add off (Nat.mul jj sz)) (.cons (txtB nx lo hi) .nil)) ty false) id .leaf)).live → i = id := fun i hi => by
        rw [hBat i] at hi
        by_cases e : i = id
        · exact e
        · rw [if_neg e] at hi; exact hi.elim
      have sB : St ρB (st O.none (.c (padV (Nat.add off (Nat.mul jj sz)) (.cons (txtB nx lo hi) .nil)) ty false) id .leaf) (nx + 3) w' := by
        refine ⟨fun i L hi hL => ?_, fun i j L M hi => (hBw i hi).elim, fun i hi => ?_, fun i hi hlv => ?_⟩
        · have ei := hBl i hi
          subst ei
          rw [hle _ _ hLU] at hL
          have := Option.some.inj hL
          subst this
          refine ⟨oV, hoV, ?_⟩
          rw [hBat i, if_pos rfl]
          refine ⟨arrV, fzV, hoV2, qV2, (fun hf => by cases hf), qV4, ?_⟩
          exact padV_CR hvc1' (VR_rope (by rw [hbb]; exact rB))
        · simp only [ρB]
          rw [if_neg (by omega), if_neg (by omega), if_neg (by omega)]
          exact s.fresh i (by omega)
        · have := hBl i hlv
          omega
      have lB : LR ρB (.cons (anyP nx) .nil) ((j + m : Nat) : Int) := by
        simp only [LR]
        refine ⟨_, 0, ?_, rfl, (Int.add_zero _).symm⟩
        have := PR_MR (y := anyP nx) rfl p0
        rwa [htake] at this
      refine WL.round (ih c nt _ .nil (.b false) _ (Nat.add nx 3) _ hB false c0 cs ρB _ w' _ (fun ρ' z tm' D' U' h' nx' a'' cs' w'' hkz s1 x1' g1' t1 hn1 hd1 hu1 => ?_) ρB a' cs w' sB (Ext.refl _ _ _) (g.mono hle) (fun i => ?_) hn' (by simp only [DR]; exact hd') ⟨rfl, rfl⟩).1
      · cases z <;> first | exact Bool.noConfusion hkz | skip
        replace hkz := ite1_spec hkz
        obtain ⟨f1, hkz⟩ := hkz
        obtain ⟨_, hd2⟩ := noD_spec f1 hd1
        replace hkz := ite1_spec hkz
        obtain ⟨f2, hkz⟩ := hkz
        obtain ⟨f3, f4⟩ := ite1_spec hkz
        obtain ⟨_, rfl⟩ := hu1
        have kept : ∀ q, q < w'.heap.size → w''.heap[q]? = w'.heap[q]? := fun q hq => (x1'.kept q hq fun i L hw => (hBw i hw).elim).1
        have s2' : St ρ h nx w'' := by
          refine ⟨fun id L hi hL => ?_, s'.inj, s'.fresh, s'.dead⟩
          obtain ⟨o, o1, o2⟩ := s'.rel id L hi hL
          exact ⟨o, by rw [kept L.blk (Array.getElem?_eq_some_iff.1 o1).1]; exact o1, o2⟩
        have x2' : Ext ρ0 h0 w0 ρ h w'' := x'.trans ⟨Ren.le.refl _, x1'.size, x1'.os, x1'.tape, x1'.output, fun q hq hw => ⟨kept q hq, hw⟩, fun _ _ hh => ⟨hh, rfl⟩⟩
        refine ihd (m + 1) a'' w'' (by omega) s2' x2' (fun i hi hit him => ?_) ?_ hn1 hd2
        · have h1 := allN_spec f4 i hi
          rcases ior_cases h1 with h2 | h2
          · exact absurd (Nat.eq_of_beq_eq_true h2) hit
          rcases ior_cases h2 with h2 | h2
          · rw [him] at h2; cases h2
          have h3 := sameV_eq h2
          have h4 := t1 i
          rw [h3, gt_st_ne _ _ (Ne.symm hit)] at h4
          rw [hcp i, if_pos ⟨hi, him⟩] at h4
          exact (VR_back (hle.trans x1'.le) _).1 _ _ (hsl i hi hit him) h4
        · obtain ⟨kd2, l2, f5, hl2⟩ := linK_spec f3
          obtain ⟨f6, f7⟩ := ite1_spec f5
          have f6 := beq_spec f6
          subst f6
          obtain ⟨nn, hnn, hvv⟩ := hl2 ρ' _ (t1 t)
          obtain ⟨dd2, f8, _, hdd⟩ := addLK_spec f7 (LR_isC hnn)
          have hdn := hdd ρ' nn _ hnn (lB.mono x1'.le)
          rcases cstK_spec f8 with ⟨cc, hcc, hc2⟩ | hcc
          · have h5 := hc2 ρ' _ hdn
            rw [ieq_eq] at hcc
            have hcc : cc = 1 := by simpa using hcc
            have z : (Int.negSucc 0) * ((j + m : Nat) : Int) = -((j + m : Nat) : Int) := by
              have : (Int.negSucc 0 : Int) = -1 := rfl
              rw [this]; omega
            rw [z] at h5
            rw [hvv]
            have h6 : nn = ((j + (m + 1) : Nat) : Int) := by omega
            rw [h6]
            rfl
          · exact Bool.noConfusion hcc
      · by_cases ei : t = i
        · subst ei
          rw [gt_st_same, htt]
          exact VR_lin lB
        · rw [gt_st_ne _ _ ei]
          rw [hcp i]
          by_cases ci : i < nt ∧ memN i mods = false
          · rw [if_pos ci]; exact (hsl i ci.1 (Ne.symm ei) ci.2).mono hle
          · rw [if_neg ci, gt_leaf]; simp only [VR]
  exact main sy.length 0 a w (by omega) s x (fun i _ _ _ => ht i) (by rw [hvt]; rfl) hn hdn
def execL (P : Program) (ng : Nat) (hk : Nat → Option (V → T O → Nat → KV → Bool)) (lk : LH) (n : Nat) : Code → Nat → T V → V → V → T O → Nat → KX → Bool :=
  Nat.rec (motive := fun _ => Code → Nat → T V → V → V → T O → Nat → KX → Bool) (fun _ _ _ _ _ _ _ _ => false)
    (fun _ ih c nt tm D U h nx k => Code.rec (motive := fun _ => Program → Nat → HK → LH → EX → Nat → T V → V → V → T O → Nat → KX → Bool)
      (fun _ _ _ _ _ _ tm D U h nx k => k .n tm D U h nx)
      (fun _ ops dr P ng hk _ ih nt tm D U h nx k => Bool.rec (regK P ng (callX P hk ih) nt ops (fun v tm D U h nx => k (.pk v) tm D U h nx) ops.toList tm D U h nx (fun tm D U h nx => k .n tm D U h nx))
        (coinK (coinOf P nt ops) tm (fun tm => k .n tm D U h nx) (runP (drawP P ops (Nat.succ ops.size) ⟨0, 0, 0, .leaf, .leaf⟩) P ng (callX P hk ih) nt ops (fun v h nx => k (.pk v) .leaf D U h nx) (fun tm h nx => k .n tm D U h nx) tm h nx)) dr)
      (fun a b _ _ _ _ _ _ ih nt tm D U h nx k => ih a nt tm D U h nx fun x tm D U h nx => X.rec (motive := fun _ => Bool) (ih b nt tm D U h nx k) (fun id => k (.x id) tm D U h nx) (k .r tm D U h nx) (fun v => k (.pk v) tm D U h nx) x)
      (fun c a b _ _ _ ng _ _ ih nt tm D U h nx k => vBf (ev ng tm c) fun q => Bool.rec (ih b nt tm D U h nx k) (ih a nt tm D U h nx k) q)
      (fun id c _ _ _ _ _ ih nt tm D U h nx k => ih c nt tm D U h nx fun x tm D U h nx => X.rec (motive := fun _ => Bool) (k .n tm D U h nx) (fun id' => Bool.rec (k (.x id') tm D U h nx) (k .n tm D U h nx) (Nat.beq id' id)) (k .r tm D U h nx) (fun v => k (.pk v) tm D U h nx) x)
      (fun c _ _ _ _ lk ih nt tm D U h nx k => (fun d => lkOf lk nt (rid c) d fun u q t mods lo hi => Nat.rec (motive := fun _ => Bool) (scanL ih c nt u t mods lo hi tm D U h nx k d) (fun q _ => scanL2 ih c nt u q t mods lo hi tm D U h nx k d) q)
        (ih c nt tm D U h nx fun x tm D U h nx => X.rec (motive := fun _ => Bool) (ih (.loop c) nt tm D U h nx k) (fun id => k (.x id) tm D U h nx) (k .r tm D U h nx) (fun v => k (.pk v) tm D U h nx) x))
      (fun _ _ _ _ _ _ _ _ _ _ _ _ _ _ _ _ _ _ => false)
      (fun id _ _ _ _ _ _ tm D U h nx k => k (.x id) tm D U h nx)
      (fun c _ _ _ _ _ ih nt tm D U h nx k => ih c nt tm D U h nx k)
      (fun _ _ _ _ _ _ _ tm D U h nx k => k .n tm D U h nx)
      (fun _ _ _ _ _ _ _ _ _ _ _ _ _ => false)
      (fun _ _ _ _ _ _ tm D U h nx k => k .r tm D U h nx)
      (fun _ _ _ _ _ _ _ _ _ _ _ _ _ => false) c P ng hk lk ih nt tm D U h nx k) n
def runL (P : Program) (ng : Nat) (hk : Nat → Option (V → T O → Nat → KV → Bool)) (lk : LH) (n : Nat) : CK := callX P hk (execL P ng hk lk n)
variable {hk : Nat → Option (V → T O → Nat → KV → Bool)} {lk : LH}
theorem execL_step (hm : P.follows .mixedOrders = true) {n : Nat} (ih : EXok P ng (execL P ng hk lk n)) (hck : CKok P ng (callX P hk (execL P ng hk lk n))) : EXok P ng (execL P ng hk lk (n + 1)) := by
  intro c nt tm D U h nx k he dk c0 cs0 ρ0 h0 w0 Q hq ρ a cs w s x g t hn hd hu
  cases c <;> try exact Bool.noConfusion he
  case skip => exact ⟨.skip (hq ρ .n tm D U h nx a cs w he s x g t hn hd hu), by simp⟩
  case exit id => exact ⟨.exit (hq ρ (.x id) tm D U h nx a cs w he s x g t hn hd hu), by simp⟩
  case label l => exact ⟨.label (hq ρ .n tm D U h nx a cs w he s x g t hn hd hu), by simp⟩
  case ret => exact ⟨.ret (hq ρ .r tm D U h nx a cs w he s x g t hn hd hu), by simp⟩
  case region id o dr =>
    refine ⟨?_, by simp⟩
    cases dr with
    | false =>
      have he : regK P ng (callX P hk (execL P ng hk lk n)) nt o (fun v tm D U h nx => k (.pk v) tm D U h nx) o.toList tm D U h nx (fun tm D U h nx => k .n tm D U h nx) = true := he
      have := regK_sound hck hq o.toList 0 tm D U h nx a cs w ρ (fun q => by simp) he s x g t hn hd hu
      refine opsG.region ?_
      rw [List.range_eq_range']
      simpa using this
    | true =>
      have he : coinK (coinOf P nt o) tm (fun tm => k .n tm D U h nx) (rp P ng (callX P hk (execL P ng hk lk n)) nt o (fun v h nx => k (.pk v) .leaf D U h nx) (fun tm h nx => k .n tm D U h nx) (drawP P o (Nat.succ o.size) ⟨0, 0, 0, .leaf, .leaf⟩) tm h nx) = true := he
      cases hcoin : coinOf P nt o with
      | some p =>
        obtain ⟨d0, d1, b1, b2⟩ := p
        rw [hcoin] at he
        have he : stK V.nil V.nil d0 tm (fun tm => ite1 (stK V.nil (.b b1) d1 tm fun tm => k .n tm D U h nx) (stK V.nil (.b b2) d1 tm fun tm => k .n tm D U h nx)) = true := he
        rw [stK_eq] at he
        obtain ⟨he1, he2⟩ := ite1_spec he
        rw [stK_eq] at he1 he2
        refine .of_wp (coin_sound hm hcoin s t hn (fun b a' w' hb s' x' t' hn' hd' => ?_))
        have hkb : k .n (st V.nil (.b b) d1 (st V.nil V.nil d0 tm)) D U h nx = true := by rcases hb with rfl | rfl <;> assumption
        exact hq ρ .n _ D U h nx a' cs w' hkb s' (x.trans x') g t' hn' (by rw [hd']; exact hd) hu
      | none =>
      rw [hcoin] at he
      have he : rp P ng (callX P hk (execL P ng hk lk n)) nt o (fun v h nx => k (.pk v) .leaf D U h nx) (fun tm h nx => k .n tm D U h nx) (drawP P o (Nat.succ o.size) ⟨0, 0, 0, .leaf, .leaf⟩) tm h nx = true := he
      rw [drawP_run] at he
      have he : drawK P ng (callX P hk (execL P ng hk lk n)) nt o (fun v h nx => k (.pk v) .leaf D U h nx) (fun tm h nx => k .n tm D U h nx) (Nat.succ o.size) ⟨0, 0, 0, .leaf, .leaf⟩ tm h nx = true := he
      refine .of_wp (drawK_sound hm hck he s g t hn (fun ρ' tm' h' nx' a' w' hk2 s' x' g' t' hn' hd' => ?_) (fun ρ' y h' nx' v a' w' hk2 hv s' x' g' hn' hd' => ?_))
      · exact hq ρ' .n tm' D U h' nx' a' cs w' hk2 s' (x.trans x') g' t' hn' (by rw [hd']; exact hd.mono x'.le) (hu.mono x'.le)
      · exact hq ρ' (.pk y) .leaf D U h' nx' a' cs w' hk2 s' (x.trans x') g' (fun q => by rw [gt_leaf]; simp [VR]) hn' (by rw [hd']; exact hd.mono x'.le) (hu.mono x'.le) v hv
  case seq c1 c2 =>
    refine ⟨.seq (ih c1 nt tm D U h nx _ he dk c0 cs0 ρ0 h0 w0 _ (fun ρ z tm D U h nx a cs w hk s x g t hn hd hu => ?_) ρ a cs w s x g t hn hd hu).1, by simp⟩
    cases z with
    | n => exact (ih c2 nt tm D U h nx k hk dk c0 cs0 ρ0 h0 w0 Q hq ρ a cs w s x g t hn hd hu).1
    | x id => exact hq ρ (.x id) tm D U h nx a cs w hk s x g t hn hd hu
    | r => exact hq ρ .r tm D U h nx a cs w hk s x g t hn hd hu
    | pk v => exact hq ρ (.pk v) tm D U h nx a cs w hk s x g t hn hd hu
  case scope c1 =>
    refine ⟨.scope (ih c1 nt tm D U h nx k he dk c0 cs0 ρ0 h0 w0 _ (fun ρ z tm D U h nx a cs w hk s x g t hn hd hu => ?_) ρ a cs w s x g t hn hd hu).1, by simp⟩
    have := hq ρ z tm D U h nx a cs w hk s x g t hn hd hu
    cases z <;> exact this
  case block id c1 =>
    refine ⟨.block (ih c1 nt tm D U h nx _ he dk c0 cs0 ρ0 h0 w0 _ (fun ρ z tm D U h nx a cs w hk s x g t hn hd hu => ?_) ρ a cs w s x g t hn hd hu).1, by simp⟩
    cases z with
    | n => exact hq ρ .n tm D U h nx a cs w hk s x g t hn hd hu
    | x id' =>
      have hk : (Bool.rec (k (.x id') tm D U h nx) (k .n tm D U h nx) (Nat.beq id' id) : Bool) = true := hk
      show if id' = id then _ else _
      cases e : Nat.beq id' id with
      | true => rw [e] at hk; rw [if_pos (beq_spec e)]; exact hq ρ .n tm D U h nx a cs w hk s x g t hn hd hu
      | false => rw [e] at hk; rw [if_neg (Nat.ne_of_beq_eq_false e)]; exact hq ρ (.x id') tm D U h nx a cs w hk s x g t hn hd hu
    | r => exact hq ρ .r tm D U h nx a cs w hk s x g t hn hd hu
    | pk v => exact hq ρ (.pk v) tm D U h nx a cs w hk s x g t hn hd hu
  case loop c1 =>
    have plain : (execL P ng hk lk n c1 nt tm D U h nx fun x tm D U h nx => X.rec (motive := fun _ => Bool) (execL P ng hk lk n (.loop c1) nt tm D U h nx k) (fun id => k (.x id) tm D U h nx) (k .r tm D U h nx) (fun v => k (.pk v) tm D U h nx) x) = true → WL P dk c1 Q a cs w := fun he => by
      refine .round (ih c1 nt tm D U h nx _ he dk c0 cs0 ρ0 h0 w0 _ (fun ρ z tm D U h nx a cs w hk s x g t hn hd hu => ?_) ρ a cs w s x g t hn hd hu).1
      cases z with
      | n => exact (ih (.loop c1) nt tm D U h nx k hk dk c0 cs0 ρ0 h0 w0 Q hq ρ a cs w s x g t hn hd hu).2 c1 rfl
      | x id => exact hq ρ (.x id) tm D U h nx a cs w hk s x g t hn hd hu
      | r => exact hq ρ .r tm D U h nx a cs w hk s x g t hn hd hu
      | pk v => exact hq ρ (.pk v) tm D U h nx a cs w hk s x g t hn hd hu
    have key : WL P dk c1 Q a cs w := by
      have he : (fun d => lkOf lk nt (rid c1) d fun u q t mods lo hi => Nat.rec (motive := fun _ => Bool) (scanL (execL P ng hk lk n) c1 nt u t mods lo hi tm D U h nx k d) (fun q _ => scanL2 (execL P ng hk lk n) c1 nt u q t mods lo hi tm D U h nx k d) q)
        (execL P ng hk lk n c1 nt tm D U h nx fun x tm D U h nx => X.rec (motive := fun _ => Bool) (execL P ng hk lk n (.loop c1) nt tm D U h nx k) (fun id => k (.x id) tm D U h nx) (k .r tm D U h nx) (fun v => k (.pk v) tm D U h nx) x) = true := he
      rcases lkOf_cases (nt := nt) (r := rid c1) (d := (execL P ng hk lk n c1 nt tm D U h nx fun x tm D U h nx => X.rec (motive := fun _ => Bool) (execL P ng hk lk n (.loop c1) nt tm D U h nx k) (fun id => k (.x id) tm D U h nx) (k .r tm D U h nx) (fun v => k (.pk v) tm D U h nx) x))
        (k := fun u q t mods lo hi => Nat.rec (motive := fun _ => Bool) (scanL (execL P ng hk lk n) c1 nt u t mods lo hi tm D U h nx k (execL P ng hk lk n c1 nt tm D U h nx fun x tm D U h nx => X.rec (motive := fun _ => Bool) (execL P ng hk lk n (.loop c1) nt tm D U h nx k) (fun id => k (.x id) tm D U h nx) (k .r tm D U h nx) (fun v => k (.pk v) tm D U h nx) x)) (fun q _ => scanL2 (execL P ng hk lk n) c1 nt u q t mods lo hi tm D U h nx k (execL P ng hk lk n c1 nt tm D U h nx fun x tm D U h nx => X.rec (motive := fun _ => Bool) (execL P ng hk lk n (.loop c1) nt tm D U h nx k) (fun id => k (.x id) tm D U h nx) (k .r tm D U h nx) (fun v => k (.pk v) tm D U h nx) x)) q) lk with e | ⟨u, q, tt, mods, lo, hi, e⟩
      · exact plain (e.symm.trans he)
      · have he2 := e.symm.trans he
        cases q with
        | zero =>
          rcases scan_sound ih he2 hq s x g t hn hd hu with h1 | h1
          · exact plain h1
          · exact h1
        | succ q =>
          rcases scan_sound2 ih (q := q) he2 hq s x g t hn hd hu with h1 | h1
          · exact plain h1
          · exact h1
    exact ⟨key.loop, fun c' e => by cases e; exact key⟩
  case cond c1 c2 c3 =>
    obtain ⟨q, hv, he2⟩ := vBf_spec (show vBf (ev ng tm c1) (fun q => Bool.rec (execL P ng hk lk n c3 nt tm D U h nx k) (execL P ng hk lk n c2 nt tm D U h nx k) q) = true from he) (ev_rel g t c1)
    refine ⟨.cond hv ?_, by simp⟩
    cases q with
    | true => exact (ih c2 nt tm D U h nx k he2 dk c0 cs0 ρ0 h0 w0 Q hq ρ a cs w s x g t hn hd hu).1
    | false => exact (ih c3 nt tm D U h nx k he2 dk c0 cs0 ρ0 h0 w0 Q hq ρ a cs w s x g t hn hd hu).1
theorem execL_sound (hm : P.follows .mixedOrders = true) (hn : NameOK P) (hh : HKok P ng hk) : ∀ n, EXok P ng (execL P ng hk lk n)
  | 0 => fun _c _nt _tm _D _U _h _nx _k he => Bool.noConfusion he
  | n + 1 => execL_step hm (execL_sound hm hn hh n) (call_step hn hh (execL_sound hm hn hh n))
theorem runL_sound (hm : P.follows .mixedOrders = true) (hn : NameOK P) (hh : HKok P ng hk) (n : Nat) : CKok P ng (runL P ng hk lk n) :=
  call_step hn hh (execL_sound hm hn hh n)
end
end Go.Mx
namespace Go.Mx
open Instr Builtin
noncomputable section
variable {P : Program} {ρ : Ren} {h : T O} {nx : Nat} {w : World} {ng : Nat}
theorem smallRun {R : CK} (hR : CKok P ng R) {g : Nat} {l : List (Nat × V)} {A : V} {vs : List Value} {ob : List (Nat × O)} {N : Nat} {K1 : KV} (hl : inT ng l = true) (s : St ρ h nx w) (hg : RG ng ρ)
    (htab : ∀ p ∈ l, ∃ ty wr, asC (gt O.none p.1 h) = .c p.2 ty wr) {ρb : Ren} (hN : ng ≤ N) (hρb : ∀ i L, ρb i = some L → ng ≤ i ∧ i < N)
    (hob : ∀ i, (gt O.none i (putO ob .leaf)).live → ng ≤ i ∧ i < N ∧ ∀ L, ρb i = some L → ∃ o, w.heap[L.blk]? = some o ∧ OR ρb L (gt O.none i (putO ob .leaf)) o)
    (hinj : ∀ i L, (gt O.none i (putO ob .leaf)).wr → ρb i = some L → (∀ j M, (gt O.none j (putO ob .leaf)).live → ρb j = some M → L.blk = M.blk → i = j) ∧ ∀ p ∈ l, ∀ M, ρ p.1 = some M → L.blk ≠ M.blk)
    (hv : VRs ρb A vs) (hrun : ∀ τ : Nat → Nat, mkTK τ l (putO ob .leaf) (fun h0 => R g A h0 N K1 (fun _ _ _ => false)) = true) :
    ∃ (ρs : Ren) (h0 : T O), Ren.le ρb ρs ∧ (∀ i, (gt O.none i h0).wr → (gt O.none i (putO ob .leaf)).wr) ∧ (∀ i, ng ≤ i → ρs i = ρb i) ∧ St ρs h0 N w ∧ RG ng ρs ∧ UponOK P ((callFunc g ⟨vs⟩).run P w) ρs h0 w K1 (fun _ _ _ => false) := by
  let τ : Nat → Nat := fun i => match asC (gt O.none i h) with
    | .c _ ty _ => ty
    | _ => 0
  have hrun := hrun τ
  rw [mkTK_eq] at hrun
  let ρr : Ren := fun i => if i < ng then ρ i else ρb i
  have hin := inT_spec hl
  have at0 := mkT_at τ l (putO ob (.leaf : T O))
  have hle : Ren.le ρb ρr := fun i L e => by
    have := (hρb i L e).1
    have h1 : ¬ i < ng := by omega
    simp only [ρr, h1, if_false]
    exact e
  have live0 : ∀ i, (gt O.none i (mkTb τ l (putO ob .leaf))).live → (∃ p ∈ l, p.1 = i ∧ gt O.none i (mkTb τ l (putO ob .leaf)) = tabO p.2 (τ i)) ∨ ((gt O.none i (putO ob .leaf)).live ∧ gt O.none i (mkTb τ l (putO ob .leaf)) = gt O.none i (putO ob .leaf)) := fun i hi => by
    rcases at0 i with h1 | ⟨_, h2⟩
    · exact .inl h1
    · rw [h2] at hi; exact .inr ⟨hi, h2⟩
  have wr0 : ∀ i, (gt O.none i (mkTb τ l (putO ob .leaf))).wr → (gt O.none i (putO ob .leaf)).wr := fun i hi => by
    rcases live0 i (O.live_of_wr hi) with ⟨p, _, _, e⟩ | ⟨_, e⟩
    · rw [e] at hi
      exact Bool.noConfusion (show false = true from hi)
    · rw [e] at hi; exact hi
  have al : ∀ {i : Nat} {L : Loc}, ng ≤ i → ρr i = some L → ρb i = some L := fun {i L} h e => by
    have h1 : ¬ i < ng := by omega
    simpa only [ρr, h1, if_false] using e
  have bl : ∀ {i : Nat} {L : Loc}, i < ng → ρr i = some L → ρ i = some L := fun {i L} h e => by
    simpa only [ρr, h, if_true] using e
  have sr : St ρr (mkTb τ l (putO ob .leaf)) N w := by
    refine ⟨fun id L hi hL => ?_, fun i j L M hi hj hL hM hb => ?_, fun i hi => ?_, fun i hi hl' => ?_⟩
    · rcases live0 id hi with ⟨p, hp, rfl, e⟩ | ⟨h1, e⟩
      · have hL' := bl (hin p hp).1 hL
        obtain ⟨ty, wr, ho⟩ := htab p hp
        obtain ⟨o, h1, h2⟩ := s.relC ho hL'
        refine ⟨o, h1, ?_⟩
        have et : τ p.1 = ty := by simp only [τ, ho]
        rw [e, et]
        obtain ⟨arr, fz, q1, q2, q3, q4, q5⟩ := h2
        exact ⟨arr, fz, q1, q2, (fun hf => by cases hf), q4, plain_CR (hin p hp).2 q5⟩
      · obtain ⟨q1, _, q4⟩ := hob id h1
        obtain ⟨o, g1, g2⟩ := q4 L (al q1 hL)
        exact ⟨o, g1, by rw [e]; exact g2.mono hle⟩
    · have hi := wr0 i hi
      have hib := hob i (O.live_of_wr hi)
      obtain ⟨k1, k2⟩ := hinj i L hi (al hib.1 hL)
      rcases live0 j hj with ⟨p, hp, rfl, _⟩ | ⟨h1, _⟩
      · exact absurd hb (k2 p hp M (bl (hin p hp).1 hM))
      · exact k1 j M h1 (al (hob j h1).1 hM) hb
    · have h1 : ¬ i < ng := by omega
      show (if i < ng then ρ i else ρb i) = none
      rw [if_neg h1]
      cases e : ρb i with
      | none => rfl
      | some L => have := (hρb i L e).2; omega
    · rcases live0 i hl' with ⟨p, hp, rfl, _⟩ | ⟨h1, _⟩
      · have := (hin p hp).1
        omega
      · have := (hob i h1).2.1
        omega
  have gr : RG ng ρr := fun i hi => by
    obtain ⟨L, h1, h2, h3⟩ := hg i hi
    exact ⟨L, by simpa [ρr, hi] using h1, h2, h3⟩
  exact ⟨ρr, _, hle, wr0, fun i hi => by have h1 : ¬ i < ng := by omega
                                         simp only [ρr, h1, if_false], sr, gr, hR g A _ N K1 _ hrun ρr w vs sr gr (hv.mono hle)⟩
theorem ro_back {ρs ρ' : Ren} {h0 h' : T O} {w' : World} (s : St ρ h nx w) (hx : Ext ρs h0 w ρ' h' w') (nowr : ∀ i, ¬ (gt O.none i h0).wr) : St ρ h nx w' ∧ Ext ρ h w ρ h w' := by
  have kept : ∀ b, b < w.heap.size → w'.heap[b]? = w.heap[b]? := fun b hb => (hx.kept b hb fun id L hw _ => (nowr id hw).elim).1
  refine ⟨⟨fun id L hi hL => ?_, s.inj, s.fresh, s.dead⟩, ⟨Ren.le.refl _, hx.size, hx.os, hx.tape, hx.output, fun b hb hk => ⟨kept b hb, hk⟩, fun _ _ k => ⟨k, rfl⟩⟩⟩
  obtain ⟨o, g1, g2⟩ := s.rel id L hi hL
  exact ⟨o, by rw [kept L.blk (Array.getElem?_eq_some_iff.1 g1).1]; exact g1, g2⟩
def mskIn (lo hi M : Nat) : Bool := allN 256 fun q => ior (tbN M q) (ite1 (Nat.ble lo q) (Nat.ble q hi))
theorem mskIn_spec {lo hi M : Nat} (hk : mskIn lo hi M = true) (c : UInt8) (hc : tbN M c.toNat = false) : lo ≤ c.toNat ∧ c.toNat ≤ hi := by
  rcases ior_cases (allN_spec hk c.toNat (UInt8.toNat_lt c)) with h | h
  · rw [hc] at h; cases h
  · obtain ⟨h1, h2⟩ := ite1_spec h
    exact ⟨Nat.ble_eq.mp h1, Nat.ble_eq.mp h2⟩
def byIn (lo hi M : Nat) (y : V) : Bool := V.rec (motive := fun _ => Bool) (false) (fun _ _ _ _ => false) (fun _ => false) (fun _ n => ite1 (ile (Int.ofNat lo) n) (ile n (Int.ofNat hi))) (fun _ => false) (fun _ _ => false) (false) (fun _ _ _ _ => false) (false) (false) (false) (fun _ => false) (false) (fun _ _ _ => false) (false) (fun _ _ _ => false) (false) (fun _ _ => false) (fun _ _ => false)
  (fun _ _ l u => ite1 (Nat.ble lo l) (Nat.ble u hi)) (fun _ _ => false) (fun _ _ _ _ _ => false) (fun t l _ pl _ _ => ite1 (Nat.beq t 1) <| ite1 (Nat.beq (mskV l) M) <| Nat.ble 1 pl) y
theorem byIn_spec {lo hi M : Nat} (hM : mskIn lo hi M = true) {y : V} {s : List UInt8} (hk : byIn lo hi M y = true) (hs : PR ρ y s) : ∃ c r, s = c :: r ∧ lo ≤ c.toNat ∧ c.toNat ≤ hi := by
  cases y <;> first | exact Bool.noConfusion hk | skip
  case i kd n =>
    obtain ⟨h1, h2⟩ := ite1_spec (show ite1 (ile (Int.ofNat lo) n) (ile n (Int.ofNat hi)) = true from hk)
    have h1 := ile_spec h1
    have h2 := ile_spec h2
    simp only [PR] at hs
    obtain ⟨_, c, rfl, rfl⟩ := hs
    have z1 : Int.ofNat lo = (lo : Int) := rfl
    have z2 : Int.ofNat hi = (hi : Int) := rfl
    exact ⟨c, [], rfl, by omega, by omega⟩
  case x a kd l u =>
    obtain ⟨h1, h2⟩ := ite1_spec (show ite1 (Nat.ble lo l) (Nat.ble u hi) = true from hk)
    have h1 := Nat.ble_eq.mp h1
    have h2 := Nat.ble_eq.mp h2
    simp only [PR] at hs
    obtain ⟨_, c, L, rfl, _, q1, q2, q3⟩ := hs
    exact ⟨c, [], rfl, by omega, by omega⟩
  case o t l a pl ph =>
    replace hk := ite1_spec (show ite1 (Nat.beq t 1) (ite1 (Nat.beq (mskV l) M) <| Nat.ble 1 pl) = true from hk)
    obtain ⟨h1, hk⟩ := hk
    obtain ⟨h2, h3⟩ := ite1_spec hk
    have h1 := beq_spec h1
    have h2 := beq_spec h2
    have h3 := Nat.ble_eq.mp h3
    simp only [PR] at hs
    rcases hs with ⟨_, L, _, _, q1, _, q2⟩ | ⟨z, _⟩
    · cases s with
      | nil => simp at q1; omega
      | cons c r =>
        have := mskIn_spec hM c (by rw [← h2]; exact q2 c (List.mem_cons_self ..))
        exact ⟨c, r, rfl, this.1, this.2⟩
    · omega
def peekB (lo hi M : Nat) (sV iV : V) : Bool := ropK sV fun R => linK iV fun kd S => ite1 (Nat.beq kd 3) <| atMost R 4611686018427387904 fun _ => splS S fun n ls => dropL R n ls (fun r => arg0 r fun y _ => byIn lo hi M y) false
theorem peekB_spec {lo hi M : Nat} (hM : mskIn lo hi M = true) {sV iV : V} (hk : peekB lo hi M sV iV = true) {vs vi : Value} (hs : VR ρ sV vs) (hi' : VR ρ iV vi) :
    ∃ (b : ByteArray) (j : Nat) (c : UInt8), vs = .string b ∧ vi = .int .i64 (j : Int) ∧ b.data.toList[j]? = some c ∧ lo ≤ c.toNat ∧ c.toNat ≤ hi ∧ b.data.toList.length ≤ 4611686018427387904 := by
  replace hk := ropK_spec hk
  obtain ⟨R, hk, hR⟩ := hk
  obtain ⟨b, rfl, hrr⟩ := hR ρ vs hs
  replace hk := linK_spec hk
  obtain ⟨kd, S, hk, hS⟩ := hk
  obtain ⟨n0, hSn, rfl⟩ := hS ρ vi hi'
  replace hk := ite1_spec hk
  obtain ⟨e1, hk⟩ := hk
  have e1 := beq_spec e1
  subst e1
  replace hk := atMost_spec hk
  obtain ⟨_, hk, hmost⟩ := hk
  replace hk := splS_spec hk (LR_isC hSn)
  obtain ⟨n, ls, hk, hc, hnl⟩ := hk
  replace hk := dropL_spec hk (RR_isC hrr) hc
  rcases hk with hk | ⟨r, hk, _, hr⟩
  · exact Bool.noConfusion hk
  obtain ⟨uu, g1, g2⟩ := hnl ρ n0 hSn
  obtain ⟨j, q0, _, q2⟩ := hr ρ _ uu hrr g1
  have ej : n0 = (j : Int) := by omega
  subst ej
  replace hk := arg0_spec hk
  obtain ⟨y, r', rfl, hk⟩ := hk
  simp only [RR] at q2
  obtain ⟨s1, s2, p1, _, p3⟩ := q2
  obtain ⟨c, r, rfl, c1, c2⟩ := byIn_spec hM hk p1
  refine ⟨b, j, c, rfl, rfl, ?_, c1, c2, (hmost ρ _ hrr).2⟩
  have := congrArg (fun l => l[0]?) p3
  simpa using this
theorem cut_at {s : List UInt8} {p : Nat} {c : UInt8} (h : s[p]? = some c) : s = s.take p ++ ([c] ++ s.drop (p + 1)) := by
  have hpl : p < s.length := (List.getElem?_eq_some_iff.1 h).1
  have h1 := List.drop_eq_getElem_cons hpl
  have h2 : s[p] = c := (List.getElem?_eq_some_iff.1 h).2
  rw [h2] at h1
  have h3 := (List.take_append_drop p s).symm
  rw [h1] at h3
  exact h3
theorem anyP_PR {n : Nat} {s : List UInt8} (r : ρ n = some ⟨0, enc s, 0⟩) (hl : s.length ≤ 4611686018427387904) : PR ρ (anyP n) s := by
  simp only [anyP, PR]
  exact .inl ⟨trivial, _, r, rfl, Nat.zero_le _, hl, fun q _ => tbN_zero _⟩
theorem txtB_rel {n lo hi p : Nat} {s : List UInt8} {c : UInt8} (hc : s[p]? = some c) (h1 : lo ≤ c.toNat) (h2 : c.toNat ≤ hi) (hl : s.length ≤ 4611686018427387904)
    (r0 : ρ n = some ⟨0, enc (s.take p), 0⟩) (r1 : ρ (n + 1) = some ⟨0, c.toNat, 0⟩) (r2 : ρ (n + 2) = some ⟨0, enc (s.drop (p + 1)), 0⟩) :
    RR ρ (.cons (anyP n) (.cons (.x (n + 1) .u8 lo hi) (.cons (anyP (n + 2)) .nil))) s ∧ LR ρ (.cons (anyP n) .nil) (p : Int) := by
  have hp : p < s.length := (List.getElem?_eq_some_iff.1 hc).1
  have ht : (s.take p).length = p := by rw [List.length_take]; omega
  have p0 := anyP_PR r0 (by omega)
  have p2 := anyP_PR r2 (by rw [List.length_drop]; omega)
  refine ⟨?_, ?_⟩
  · simp only [RR]
    refine ⟨_, _, p0, ⟨_, _, ?_, ⟨_, _, p2, rfl, (List.append_nil _).symm⟩, rfl⟩, cut_at hc⟩
    simp only [PR]
    exact ⟨trivial, c, _, rfl, r1, h1, h2, rfl⟩
  · simp only [LR]
    refine ⟨_, 0, ?_, rfl, (Int.add_zero _).symm⟩
    have := PR_MR (y := anyP n) rfl p0
    rwa [ht] at this
def peekR (ng : Nat) (L : Loc) (s : List UInt8) (p : Nat) (c : UInt8) : Ren := fun i => if i = ng then some L else if i = ng + 1 then some ⟨0, enc (s.take p), 0⟩ else if i = ng + 2 then some ⟨0, c.toNat, 0⟩ else if i = ng + 3 then some ⟨0, enc (s.drop (p + 1)), 0⟩ else none
theorem peekR_eq (ng : Nat) (L : Loc) (s : List UInt8) (p : Nat) (c : UInt8) (i : Nat) : peekR ng L s p c i = if i = ng then some L else if i = ng + 1 then some ⟨0, enc (s.take p), 0⟩ else if i = ng + 2 then some ⟨0, c.toNat, 0⟩ else if i = ng + 3 then some ⟨0, enc (s.drop (p + 1)), 0⟩ else none := rfl
def peekO (ng lo hi ty : Nat) : List (Nat × O) := [(ng, .c (.cons (txtB (ng + 1) lo hi) (.cons (cntB (ng + 1)) .nil)) ty false)]
theorem peek_run {R : CK} (hR : CKok P ng R) {g : Nat} {l : List (Nat × V)} {ex : V} {id lo hi M : Nat} {K1 : KV} (hl : inT ng l = true) (s : St ρ h nx w) (hg : RG ng ρ) (htab : ∀ p ∈ l, ∃ ty wr, asC (gt O.none p.1 h) = .c p.2 ty wr)
    {sV iV rest : V} {ty : Nat} {wr : Bool} (ho : asC (gt O.none id h) = .c (.cons sV (.cons iV rest)) ty wr) (hM : mskIn lo hi M = true) (hpk : peekB lo hi M sV iV = true)
    {v0 : Value} {vs : List Value} (hv0 : VR ρ (.p id 0) v0) (hex : ∀ ρ', VRs ρ' ex vs)
    (hrun : ∀ (ty : Nat) (τ : Nat → Nat), mkTK τ l (putO (peekO ng lo hi ty) .leaf) (fun h0 => R g (.cons (.p ng 0) ex) h0 (ng + 4) K1 (fun _ _ _ => false)) = true) :
    ∃ (ρs : Ren) (h0 : T O) (c : UInt8), (∀ i, ¬ (gt O.none i h0).wr) ∧ lo ≤ c.toNat ∧ c.toNat ≤ hi ∧ ρs (ng + 2) = some ⟨0, c.toNat, 0⟩ ∧ UponOK P ((callFunc g ⟨v0 :: vs⟩).run P w) ρs h0 w K1 (fun _ _ _ => false) := by
  simp only [VR] at hv0
  obtain ⟨L, hL, rfl⟩ := hv0
  obtain ⟨o, ho1, arr, fz, ho2, q2, q3, q4, q5⟩ := s.relC ho hL
  simp only [CR] at q5
  obtain ⟨x1, xs1, e1, hx1, x2, xs2, e2, hx2, _⟩ := q5
  obtain ⟨b, j, c, rfl, rfl, hc, c1, c2, hlen⟩ := peekB_spec hM hpk hx1 hx2
  have r0 : peekR ng L b.data.toList j c (ng + 1) = some ⟨0, enc (b.data.toList.take j), 0⟩ := by rw [peekR_eq, if_neg (by omega), if_pos (by omega)]
  have r1 : peekR ng L b.data.toList j c (ng + 1 + 1) = some ⟨0, c.toNat, 0⟩ := by rw [peekR_eq, if_neg (by omega), if_neg (by omega), if_pos (by omega)]
  have r2 : peekR ng L b.data.toList j c (ng + 1 + 2) = some ⟨0, enc (b.data.toList.drop (j + 1)), 0⟩ := by rw [peekR_eq, if_neg (by omega), if_neg (by omega), if_neg (by omega), if_pos (by omega)]
  obtain ⟨rr, ll⟩ := txtB_rel (ρ := peekR ng L b.data.toList j c) (n := ng + 1) hc c1 c2 hlen r0 r1 r2
  have hg1 : ∀ i, gt O.none i (putO (peekO ng lo hi ty) .leaf) = if i = ng then .c (.cons (txtB (ng + 1) lo hi) (.cons (cntB (ng + 1)) .nil)) ty false else .none := fun i => by
    show gt O.none i (st O.none _ ng .leaf) = _
    by_cases e : i = ng
    · subst e; rw [gt_st_same, if_pos rfl]
    · rw [gt_st_ne _ _ (Ne.symm e), if_neg e, gt_leaf]
  have hgl : ∀ i, (gt O.none i (putO (peekO ng lo hi ty) .leaf)).live → i = ng := fun i hi => by
    rw [hg1 i] at hi
    by_cases e : i = ng
    · exact e
    · rw [if_neg e] at hi; exact hi.elim
  have hgw : ∀ i, ¬ (gt O.none i (putO (peekO ng lo hi ty) .leaf)).wr := fun i hi => by
    rw [hg1 i] at hi
    by_cases e : i = ng
    · rw [if_pos e] at hi; exact Bool.noConfusion (show false = true from hi)
    · rw [if_neg e] at hi; exact hi.elim
  obtain ⟨ρs, h0, hle, hwr, hsame, _, _, up⟩ := smallRun hR (A := .cons (.p ng 0) ex) (vs := .pointer (some ⟨L.blk, L.base + 0, none⟩) :: vs) (ob := peekO ng lo hi ty) (N := ng + 4) hl s hg htab (ρb := peekR ng L b.data.toList j c) (by omega)
    (fun i M hi => by
      by_cases e : i < ng ∨ ng + 4 ≤ i
      · have : peekR ng L b.data.toList j c i = none := by
          simp only [peekR]
          rw [if_neg (by omega), if_neg (by omega), if_neg (by omega), if_neg (by omega)]
        rw [this] at hi; cases hi
      · omega)
    (fun i hi => by
      have e := hgl i hi
      subst e
      refine ⟨Nat.le_refl _, by omega, fun M hM => ?_⟩
      have hLM : M = L := by
        have : peekR i L b.data.toList j c i = some L := by simp [peekR]
        rw [this] at hM
        exact (Option.some.inj hM).symm
      subst hLM
      refine ⟨o, ho1, ?_⟩
      rw [hg1 i, if_pos rfl]
      refine ⟨arr, fz, ho2, q2, (fun hf => by cases hf), q4, ?_⟩
      simp only [CR]
      refine ⟨_, _, e1, VR_rope rr, _, _, e2, VR_lin ll, trivial⟩)
    (fun i L hi => absurd hi (hgw i))
    (by simp only [VRs]; exact ⟨_, _, rfl, by simp only [VR]; exact ⟨L, by simp [peekR], rfl⟩, hex _⟩) (hrun ty)
  exact ⟨ρs, h0, c, fun i hi => hgw i (hwr i hi), c1, c2, by rw [hsame _ (by omega)]; rw [peekR_eq, if_neg (by omega), if_neg (by omega), if_pos rfl], up⟩
def hkPeek (l : List (Nat × V)) (lo hi M : Nat) (ex v0 : V) (e : HookF) : HookF := fun args h nx K => Bool.rec (e args h nx K) (hasT l h (K v0 h nx))
  (arg0 args fun p r => ite1 (sameV r ex) <| vP p fun id off => ite1 (Nat.beq off 0) <| oC (gt O.none id h) fun c _ _ => arg0 c fun sV c2 => arg0 c2 fun iV _ => peekB lo hi M sV iV)
theorem hkPeek_ok {R : CK} (hR : CKok P ng R) {g : Nat} {l : List (Nat × V)} {lo hi M : Nat} {ex v0 : V} {e : HookF} (he : HookOk P ng g e) (hl : inT ng l = true) (hM : mskIn lo hi M = true)
    (hex : ∀ ρ ρ' vs, VRs ρ ex vs → VRs ρ' ex vs) (hv : ∀ ρ ρ' v, VR ρ v0 v → VR ρ' v0 v)
    (hrun : ∀ (ty : Nat) (τ : Nat → Nat), mkTK τ l (putO (peekO ng lo hi ty) .leaf) (fun h0 => R g (.cons (.p ng 0) ex) h0 (ng + 4) (fun v _ _ => sameV v v0) (fun _ _ _ => false)) = true) : HookOk P ng g (hkPeek l lo hi M ex v0 e) := by
  intro args h nx K Kp hk ρ w vs s hg hvs
  have hk : (Bool.rec (e args h nx K) (hasT l h (K v0 h nx)) (arg0 args fun p r => ite1 (sameV r ex) <| vP p fun id off => ite1 (Nat.beq off 0) <| oC (gt O.none id h) fun c _ _ => arg0 c fun sV c2 => arg0 c2 fun iV _ => peekB lo hi M sV iV) : Bool) = true := hk
  generalize hc : (arg0 args fun p r => ite1 (sameV r ex) <| vP p fun id off => ite1 (Nat.beq off 0) <| oC (gt O.none id h) fun c _ _ => arg0 c fun sV c2 => arg0 c2 fun iV _ => peekB lo hi M sV iV) = q at hk
  cases q with
  | false => exact he args h nx K Kp hk ρ w vs s hg hvs
  | true =>
  obtain ⟨hkk, htab⟩ := hasT_spec (show hasT l h (K v0 h nx) = true from hk)
  replace hc := arg0_spec hc
  obtain ⟨p, r, rfl, hc⟩ := hc
  replace hc := ite1_spec hc
  obtain ⟨e1, hc⟩ := hc
  have e1 := sameV_eq e1
  subst e1
  replace hc := vP_spec hc
  obtain ⟨id, off, rfl, hc⟩ := hc
  replace hc := ite1_spec hc
  obtain ⟨e2, hc⟩ := hc
  have e2 := beq_spec e2
  subst e2
  replace hc := oC_spec hc
  obtain ⟨cs, ty, wr, ho, hc⟩ := hc
  replace hc := arg0_spec hc
  obtain ⟨sV, c2, rfl, hc⟩ := hc
  replace hc := arg0_spec hc
  obtain ⟨iV, c3, rfl, hc⟩ := hc
  simp only [VRs] at hvs
  obtain ⟨v1, vr, rfl, hv1, hv2⟩ := hvs
  obtain ⟨ρs, h0, c, nowr, _, _, _, up⟩ := peek_run hR hl s hg htab ho hM hc hv1 (fun ρ' => hex ρ ρ' _ hv2) hrun
  intro o a next Q h1 _
  refine up o a next Q (fun ρ' y h' nx' v w' hv' _ hx hky => ?_) (fun ρ' y h' nx' v w' _ _ _ hky => Bool.noConfusion hky)
  have hy := sameV_eq (show sameV y v0 = true from hky)
  subst hy
  obtain ⟨g1, g2⟩ := ro_back s hx nowr
  exact h1 ρ y h nx v w' (hv _ _ _ hv') g1 g2 hkk
def hkPeekB (l : List (Nat × V)) (lo hi M : Nat) (ex : V) (e : HookF) : HookF := fun args h nx K => Bool.rec (e args h nx K) (hasT l h (K (.x nx .u8 lo hi) h (Nat.succ nx)))
  (arg0 args fun p r => ite1 (sameV r ex) <| vP p fun id off => ite1 (Nat.beq off 0) <| oC (gt O.none id h) fun c _ _ => arg0 c fun sV c2 => arg0 c2 fun iV _ => peekB lo hi M sV iV)
theorem St.atomN (s : St ρ h nx w) (n : Nat) : St (fun i => if i = nx then some ⟨0, n, 0⟩ else ρ i) h (nx + 1) w ∧ Ext ρ h w (fun i => if i = nx then some ⟨0, n, 0⟩ else ρ i) h w := by
  have hlv : ∀ i, (gt O.none i h).live → i ≠ nx := fun i hi e => s.dead i (by omega) hi
  refine ⟨⟨fun id L hi hL => ?_, fun i j L M hi hj hL hM => ?_, fun i hi => ?_, fun i hi => s.dead i (by omega)⟩, ⟨fun i L e => ?_, Nat.le_refl _, rfl, rfl, rfl, fun b _ hk => ⟨rfl, fun id L hi hL => ?_⟩, fun id hi hn => ⟨?_, rfl⟩⟩⟩
  · have hL : ρ id = some L := by simpa [hlv id hi] using hL
    obtain ⟨o, h1, h2⟩ := s.rel id L hi hL
    refine ⟨o, h1, h2.mono fun i L e => ?_⟩
    have : i ≠ nx := fun e2 => by rw [s.fresh i (by omega)] at e; cases e
    simp only [this, if_false]
    exact e
  · have hL : ρ i = some L := by simpa [hlv i (O.live_of_wr hi)] using hL
    have hM : ρ j = some M := by simpa [hlv j hj] using hM
    exact s.inj i j L M hi hj hL hM
  · have : i ≠ nx := by omega
    simp only [this, if_false]
    exact s.fresh i (by omega)
  · have : i ≠ nx := fun e2 => by rw [s.fresh i (by omega)] at e; cases e
    simp only [this, if_false]
    exact e
  · have hL : ρ id = some L := by simpa [hlv id (O.live_of_wr hi)] using hL
    exact hk id L hi hL
  · simp only [hlv id hi, if_false]
    exact hn
theorem hkPeekB_ok {R : CK} (hR : CKok P ng R) {g : Nat} {l : List (Nat × V)} {lo hi M : Nat} {ex : V} {e : HookF} (he : HookOk P ng g e) (hl : inT ng l = true) (hM : mskIn lo hi M = true)
    (hex : ∀ ρ ρ' vs, VRs ρ ex vs → VRs ρ' ex vs)
    (hrun : ∀ (ty : Nat) (τ : Nat → Nat), mkTK τ l (putO (peekO ng lo hi ty) .leaf) (fun h0 => R g (.cons (.p ng 0) ex) h0 (ng + 4) (fun v _ _ => sameV v (.x (ng + 2) .u8 lo hi)) (fun _ _ _ => false)) = true) : HookOk P ng g (hkPeekB l lo hi M ex e) := by
  intro args h nx K Kp hk ρ w vs s hg hvs
  have hk : (Bool.rec (e args h nx K) (hasT l h (K (.x nx .u8 lo hi) h (Nat.succ nx))) (arg0 args fun p r => ite1 (sameV r ex) <| vP p fun id off => ite1 (Nat.beq off 0) <| oC (gt O.none id h) fun c _ _ => arg0 c fun sV c2 => arg0 c2 fun iV _ => peekB lo hi M sV iV) : Bool) = true := hk
  generalize hc : (arg0 args fun p r => ite1 (sameV r ex) <| vP p fun id off => ite1 (Nat.beq off 0) <| oC (gt O.none id h) fun c _ _ => arg0 c fun sV c2 => arg0 c2 fun iV _ => peekB lo hi M sV iV) = q at hk
  cases q with
  | false => exact he args h nx K Kp hk ρ w vs s hg hvs
  | true =>
  obtain ⟨hkk, htab⟩ := hasT_spec (show hasT l h (K (.x nx .u8 lo hi) h (Nat.succ nx)) = true from hk)
  replace hc := arg0_spec hc
  obtain ⟨p, r, rfl, hc⟩ := hc
  replace hc := ite1_spec hc
  obtain ⟨e1, hc⟩ := hc
  have e1 := sameV_eq e1
  subst e1
  replace hc := vP_spec hc
  obtain ⟨id, off, rfl, hc⟩ := hc
  replace hc := ite1_spec hc
  obtain ⟨e2, hc⟩ := hc
  have e2 := beq_spec e2
  subst e2
  replace hc := oC_spec hc
  obtain ⟨cs, ty, wr, ho, hc⟩ := hc
  replace hc := arg0_spec hc
  obtain ⟨sV, c2, rfl, hc⟩ := hc
  replace hc := arg0_spec hc
  obtain ⟨iV, c3, rfl, hc⟩ := hc
  simp only [VRs] at hvs
  obtain ⟨v1, vr, rfl, hv1, hv2⟩ := hvs
  obtain ⟨ρs, h0, c, nowr, c1, c2, hat, up⟩ := peek_run hR hl s hg htab ho hM hc hv1 (fun ρ' => hex ρ ρ' _ hv2) hrun
  intro o a next Q h1 _
  refine up o a next Q (fun ρ' y h' nx' v w' hv' _ hx hky => ?_) (fun ρ' y h' nx' v w' _ _ _ hky => Bool.noConfusion hky)
  have hy := sameV_eq (show sameV y _ = true from hky)
  subst hy
  obtain ⟨g1, g2⟩ := ro_back s hx nowr
  obtain ⟨g3, g4⟩ := g1.atomN c.toNat
  simp only [VR] at hv'
  obtain ⟨L, e3, _, _, rfl⟩ := hv'
  have e4 := hx.le _ _ hat
  rw [e3] at e4
  have e4 := Option.some.inj e4
  subst e4
  refine h1 _ (.x nx .u8 lo hi) h (nx + 1) _ w' ?_ g3 (g2.trans g4) hkk
  simp only [VR]
  exact ⟨⟨0, c.toNat, 0⟩, by simp, c1, c2, rfl⟩
def allIn (lo hi M : Nat) (c : V) : Bool := chain true (fun y _ ih => V.rec (motive := fun _ => Bool) (false) (fun _ _ _ _ => false) (fun _ => false) (fun _ n => ite1 (ile (Int.ofNat lo) n) <| ite1 (ile n (Int.ofNat hi)) ih) (fun _ => false) (fun _ _ => false) (false) (fun _ _ _ _ => false) (false) (false) (false) (fun _ => false) (false) (fun _ _ _ => false) (false) (fun _ _ _ => false) (false) (fun _ _ => false) (fun _ _ => false)
  (fun _ _ l u => ite1 (Nat.ble lo l) <| ite1 (Nat.ble u hi) ih) (fun _ _ => false) (fun _ _ _ _ _ => false) (fun t l _ _ _ _ => ite1 (Nat.beq t 1) <| ite1 (Nat.beq (mskV l) M) ih) y) c
theorem allIn_spec {lo hi M : Nat} (hM : mskIn lo hi M = true) : ∀ {c : V} {s : List UInt8}, allIn lo hi M c = true → RR ρ c s → ∀ d ∈ s, lo ≤ d.toNat ∧ d.toNat ≤ hi := by
  intro c
  induction c with
  | nil => intro s _ hs d hd; simp only [RR] at hs; subst hs; cases hd
  | cons y r ihy ih =>
    clear ihy
    intro s hk hs d hd
    simp only [RR] at hs
    obtain ⟨s1, s2, h1, h2, rfl⟩ := hs
    cases y <;> first | exact Bool.noConfusion hk | skip
    case i kd n =>
      replace hk := ite1_spec (show ite1 (ile (Int.ofNat lo) n) (ite1 (ile n (Int.ofNat hi)) (allIn lo hi M r)) = true from hk)
      obtain ⟨e1, hk⟩ := hk
      replace hk := ite1_spec hk
      obtain ⟨e2, hk⟩ := hk
      have e1 := ile_spec e1
      have e2 := ile_spec e2
      simp only [PR] at h1
      obtain ⟨_, c, rfl, rfl⟩ := h1
      have z1 : Int.ofNat lo = (lo : Int) := rfl
      have z2 : Int.ofNat hi = (hi : Int) := rfl
      rcases List.mem_append.1 hd with hd | hd
      · rw [List.mem_singleton] at hd; subst hd; exact ⟨by omega, by omega⟩
      · exact ih hk h2 d hd
    case x a kd l u =>
      replace hk := ite1_spec (show ite1 (Nat.ble lo l) (ite1 (Nat.ble u hi) (allIn lo hi M r)) = true from hk)
      obtain ⟨e1, hk⟩ := hk
      replace hk := ite1_spec hk
      obtain ⟨e2, hk⟩ := hk
      have e1 := Nat.ble_eq.mp e1
      have e2 := Nat.ble_eq.mp e2
      simp only [PR] at h1
      obtain ⟨_, c, L, rfl, _, q1, q2, q3⟩ := h1
      rcases List.mem_append.1 hd with hd | hd
      · rw [List.mem_singleton] at hd; subst hd; exact ⟨by omega, by omega⟩
      · exact ih hk h2 d hd
    case o t l a pl ph =>
      replace hk := ite1_spec (show ite1 (Nat.beq t 1) (ite1 (Nat.beq (mskV l) M) (allIn lo hi M r)) = true from hk)
      obtain ⟨e1, hk⟩ := hk
      replace hk := ite1_spec hk
      obtain ⟨e2, hk⟩ := hk
      have e1 := beq_spec e1
      have e2 := beq_spec e2
      simp only [PR] at h1
      rcases h1 with ⟨_, L, _, _, _, _, q2⟩ | ⟨z, _⟩
      · rcases List.mem_append.1 hd with hd | hd
        · exact mskIn_spec hM d (by rw [← e2]; exact q2 d hd)
        · exact ih hk h2 d hd
      · omega
  | _ => intro s _ hs; simp only [RR] at hs
def wordV (lo hi n ng : Nat) : V := atomsV lo hi n ng .nil
theorem wOk_word (lo hi : Nat) (hh : Nat.ble hi 255 = true) : ∀ n i, wOk (wordV lo hi n i) = true := by
  intro n
  induction n with
  | zero => intro i; rfl
  | succ n ih =>
    intro i
    show (Bool.rec false (wOk (wordV lo hi n (Nat.succ i))) (isB8 (.x i .u8 lo hi)) : Bool) = true
    rw [show isB8 (.x i .u8 lo hi) = true from hh]
    exact ih _
def hkSame (l : List (Nat × V)) (lo hi M B : Nat) (x : Bool) (e : HookF) : HookF := fun args h nx K => arg0 args fun y r => Bool.rec (e args h nx K) (chain (M := Bool) (hasT l h (K (.t (.cons y (.cons (.b x) .nil))) h nx)) (fun _ _ _ => false) r)
  (ropK y fun c => ite1 (allIn lo hi M c) <| atMost c B fun _ => true)
def isSame (W : V) (x : Bool) (v : V) : Bool := vT v fun c => arg0 c fun y r => ropK y fun d => ite1 (sameV d W) <| sameV r (.cons (.b x) .nil)
theorem hkSame_ok {R : CK} (hR : CKok P ng R) {g : Nat} {l : List (Nat × V)} {lo hi M B : Nat} {x : Bool} {e : HookF} (he : HookOk P ng g e) (hl : inT ng l = true) (hM : mskIn lo hi M = true) (hh : Nat.ble hi 255 = true)
    (hrun : ∀ n, n ≤ B → ∀ τ : Nat → Nat, mkTK τ l .leaf (fun h0 => R g (.cons (.w (wordV lo hi n ng)) .nil) h0 (ng + n) (fun v _ _ => isSame (wordV lo hi n ng) x v) (fun _ _ _ => false)) = true) : HookOk P ng g (hkSame l lo hi M B x e) := by
  intro args h nx K Kp hk ρ w vs s hg hvs
  replace hk := arg0_spec hk
  obtain ⟨y, r, rfl, hk⟩ := hk
  generalize hc : (ropK y fun c => ite1 (allIn lo hi M c) <| atMost c B fun _ => true) = q at hk
  cases q with
  | false => exact he _ h nx K Kp hk ρ w vs s hg hvs
  | true =>
  simp only [VRs] at hvs
  obtain ⟨v1, vr, rfl, hv1, hv2⟩ := hvs
  cases r <;> first | (simp only [VRs] at hv2; done) | exact Bool.noConfusion hk | skip
  simp only [VRs] at hv2
  subst hv2
  obtain ⟨hkk, htab⟩ := hasT_spec (show hasT l h (K (.t (.cons y (.cons (.b x) .nil))) h nx) = true from hk)
  replace hc := ropK_spec hc
  obtain ⟨c, hc, hrp⟩ := hc
  obtain ⟨b, rfl, hrr⟩ := hrp ρ v1 hv1
  replace hc := ite1_spec hc
  obtain ⟨e1, hc⟩ := hc
  have hall := allIn_spec hM e1 hrr
  obtain ⟨_, _, hmost⟩ := atMost_spec hc
  have hle := (hmost ρ _ hrr).2
  have hsz : b.size = b.data.toList.length := rfl
  have hw : VR (atomsR ng (b.data.toList.map UInt8.toNat)) (.w (wordV lo hi b.size ng)) (.string b) := VR_word rfl hall (fun j c hj => atomsR_at (by simp [hj]))
  obtain ⟨ρs, h0, hle2, hwr, hsame, _, _, up⟩ := smallRun hR (A := .cons (.w (wordV lo hi b.size ng)) .nil) (vs := [.string b]) (ob := []) (N := ng + b.size) hl s hg htab (ρb := atomsR ng (b.data.toList.map UInt8.toNat)) (by omega)
    (fun i L hi => by
      unfold atomsR at hi
      by_cases e : i < ng
      · rw [if_pos e] at hi; cases hi
      · rw [if_neg e] at hi
        obtain ⟨m, hm, _⟩ := Option.map_eq_some_iff.1 hi
        have := (List.getElem?_eq_some_iff.1 hm).1
        rw [List.length_map, ← hsz] at this
        omega)
    (fun i hi => by rw [show putO [] (.leaf : T O) = .leaf from rfl, gt_leaf] at hi; exact hi.elim)
    (fun i L hi => by rw [show putO [] (.leaf : T O) = .leaf from rfl, gt_leaf] at hi; exact hi.elim)
    (by simp only [VRs]; exact ⟨_, _, rfl, hw, rfl⟩) (hrun b.size (by omega))
  have nowr : ∀ i, ¬ (gt O.none i h0).wr := fun i hi => by
    have := hwr i hi
    rw [show putO [] (.leaf : T O) = .leaf from rfl, gt_leaf] at this
    exact this.elim
  intro o a next Q h1 _
  refine up o a next Q (fun ρ' z h' nx' v w' hv' _ hx hky => ?_) (fun ρ' y h' nx' v w' _ _ _ hky => Bool.noConfusion hky)
  obtain ⟨g1, g2⟩ := ro_back s hx nowr
  replace hky := vT_spec (show isSame (wordV lo hi b.size ng) x z = true from hky)
  obtain ⟨cc, rfl, hky⟩ := hky
  replace hky := arg0_spec hky
  obtain ⟨z1, zr, rfl, hky⟩ := hky
  replace hky := ropK_spec hky
  obtain ⟨d, hky, hd⟩ := hky
  obtain ⟨e3, e4⟩ := ite1_spec hky
  have e3 := sameV_eq e3
  subst e3
  have e4 := sameV_eq e4
  subst e4
  simp only [VR] at hv'
  obtain ⟨vs', hvs', rfl⟩ := hv'
  simp only [VRs] at hvs'
  obtain ⟨a1, as1, rfl, p1, a2, as2, rfl, p2, rfl⟩ := hvs'
  obtain ⟨b2, rfl, hr2⟩ := hd ρ' a1 p1
  have hrw : RR ρ' (wordV lo hi b.size ng) b.data.toList := by
    have h5 := (hw.mono hle2).mono hx.le
    simp only [VR] at h5
    obtain ⟨b3, e5, h8⟩ := h5
    cases e5
    exact wOk_RR (wOk_word lo hi hh b.size ng) h8
  have hbb : b2 = b := by
    have h9 := hr2.fn hrw
    have h10 : bytesV b2 = bytesV b := by unfold bytesV; rw [h9]
    exact bytesV_inj h10
  subst hbb
  refine h1 ρ _ h nx _ w' ?_ g1 g2 hkk
  simp only [VR] at p2 ⊢
  subst p2
  refine ⟨_, ?_, rfl⟩
  simp only [VRs, VR]
  exact ⟨_, _, rfl, hv1, _, _, rfl, rfl, rfl⟩
end
end Go.Mx
