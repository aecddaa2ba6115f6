/-
  A part of a small executor of the model, proved sound (Mx2 of 46). No condition.
-/
import Derived.Test.YtmplmfieipckjaaGreatDoorXMx1
import Derived.Laws.Entries
import Derived.Laws.World
import Derived.Laws.Sem
namespace Go.Mx
noncomputable section
def nthK (l : V) : Nat → (V → Bool) → Bool := chain (M := Nat → (V → Bool) → Bool) (fun _ _ => false)
  (fun x _ ih j k => Nat.rec (motive := fun _ => Bool) (k x) (fun j' _ => ih j' k) j) l
def dropK (l : V) : Nat → (V → Bool) → Bool := chain (M := Nat → (V → Bool) → Bool) (fun j k => Nat.rec (motive := fun _ => Bool) (k .nil) (fun _ _ => false) j)
  (fun x l ih j k => Nat.rec (motive := fun _ => Bool) (k (.cons x l)) (fun j' _ => ih j' k) j) l
def takeK (l : V) : Nat → (V → Bool) → Bool := chain (M := Nat → (V → Bool) → Bool) (fun j k => Nat.rec (motive := fun _ => Bool) (k .nil) (fun _ _ => false) j)
  (fun x _ ih j k => Nat.rec (motive := fun _ => Bool) (k .nil) (fun j' _ => ih j' fun c => k (.cons x c)) j) l
def lenK (l : V) : Nat → (Nat → Bool) → Bool := chain (M := Nat → (Nat → Bool) → Bool) (fun n k => k n) (fun _ _ ih n k => ih (Nat.succ n) k) l
def one (v : V) : Bool := V.rec (motive := fun _ => Bool) false (fun _ _ _ _ => false) (fun _ => true) (fun _ _ => true) (fun _ => true) (fun _ _ => true) true (fun _ _ _ _ => true) true true true (fun _ => true) true
    (fun _ _ _ => true) true (fun _ _ _ => true) true (fun _ _ => false) (fun _ _ => false) v
def putK (l : V) : Nat → V → (V → Bool) → Bool := chain (M := Nat → V → (V → Bool) → Bool)
  (fun j new k => Nat.rec (motive := fun _ => Bool) (chain (k .nil) (fun _ _ _ => false) new) (fun _ _ => false) j)
  (fun x l ih j new k => Nat.rec (motive := fun _ => Bool)
    (chain (k (.cons x l)) (fun y new' _ => Bool.rec false (ih 0 new' fun c => k (.cons y c)) (one y)) new)
    (fun j' _ => ih j' new fun c => k (.cons x c)) j) l
def catK (l : V) : V → (V → Bool) → Bool := chain (M := V → (V → Bool) → Bool) (fun r k => k r) (fun x _ ih r k => ih r fun c => k (.cons x c)) l
def isC : V → Prop
  | .nil => True
  | .cons _ l => isC l
  | _ => False
theorem CR_isC {ρ : Ren} : ∀ {l : V} {vs : List Value}, CR ρ l vs → isC l := by
  intro l
  induction l with
  | nil => intro _ _; trivial
  | cons x l _ ih => intro vs h; simp only [CR] at h; obtain ⟨_, _, _, _, h⟩ := h; exact ih h
  | _ => intro vs h; simp [CR] at h
theorem VRs_isC {ρ : Ren} : ∀ {l : V} {vs : List Value}, VRs ρ l vs → isC l := by
  intro l
  induction l with
  | nil => intro _ _; trivial
  | cons x l _ ih => intro vs h; simp only [VRs] at h; obtain ⟨_, _, _, _, h⟩ := h; exact ih h
  | _ => intro vs h; simp [VRs] at h
theorem VRs.CR {ρ : Ren} : ∀ {l : V} {vs : List Value}, VRs ρ l vs → ∀ r, CR ρ l (vs ++ r) := by
  intro l
  induction l with
  | nil => intro _ _ _; simp [Mx.CR]
  | cons x l _ ih =>
    intro vs h r
    simp only [VRs] at h
    obtain ⟨y, ys, rfl, h1, h2⟩ := h
    simp only [Mx.CR, List.cons_append]
    exact ⟨y, _, rfl, h1, ih h2 r⟩
  | _ => intro vs h; simp [VRs] at h
theorem VRs.CR' {ρ : Ren} {l : V} {vs : List Value} (h : VRs ρ l vs) : Mx.CR ρ l vs := by simpa using h.CR []
theorem nthK_spec {k : V → Bool} : ∀ {l : V} {j : Nat}, nthK l j k = true → ∃ x, k x = true ∧ ∀ ρ vs, CR ρ l vs → ∃ v, vs[j]? = some v ∧ VR ρ x v := by
  intro l
  induction l with
  | nil => intro j h; exact absurd h (by simp [nthK, chain])
  | cons x l _ ih =>
    intro j h
    cases j with
    | zero =>
      refine ⟨x, h, fun ρ vs hv => ?_⟩
      simp only [CR] at hv
      obtain ⟨y, ys, rfl, h1, _⟩ := hv
      exact ⟨y, rfl, h1⟩
    | succ j =>
      obtain ⟨z, hz, hr⟩ := ih (j := j) h
      refine ⟨z, hz, fun ρ vs hv => ?_⟩
      simp only [CR] at hv
      obtain ⟨y, ys, rfl, _, h2⟩ := hv
      exact hr ρ ys h2
  | _ => intro j h; exact absurd h (by simp [nthK, chain])
theorem dropK_spec {k : V → Bool} : ∀ {l : V} {j : Nat}, dropK l j k = true → isC l → ∃ r, k r = true ∧ isC r ∧ ∀ ρ vs, CR ρ l vs → CR ρ r (vs.drop j) ∧ j ≤ vs.length := by
  intro l
  induction l with
  | nil =>
    intro j h _
    cases j with
    | zero => exact ⟨.nil, h, trivial, fun ρ vs _ => ⟨by simp [CR], Nat.zero_le _⟩⟩
    | succ j => exact absurd h (by simp [dropK, chain])
  | cons x l _ ih =>
    intro j h hc
    cases j with
    | zero => exact ⟨.cons x l, h, hc, fun ρ vs hv => ⟨by simpa using hv, Nat.zero_le _⟩⟩
    | succ j =>
      obtain ⟨z, hz, hzc, hr⟩ := ih (j := j) h hc
      refine ⟨z, hz, hzc, fun ρ vs hv => ?_⟩
      simp only [CR] at hv
      obtain ⟨y, ys, rfl, _, h2⟩ := hv
      exact ⟨by simpa using (hr ρ ys h2).1, by have := (hr ρ ys h2).2; simp; omega⟩
  | _ => intro j h hc; exact absurd hc (by simp [isC])
theorem takeK_spec {l : V} : ∀ {k : V → Bool} {j : Nat}, takeK l j k = true → isC l → ∃ r, k r = true ∧ ∀ ρ vs, CR ρ l vs → VRs ρ r (vs.take j) ∧ j ≤ vs.length := by
  induction l with
  | nil =>
    intro k j h _
    cases j with
    | zero => exact ⟨.nil, h, fun ρ vs _ => ⟨by simp [VRs], Nat.zero_le _⟩⟩
    | succ j => exact absurd h (by simp [takeK, chain])
  | cons x l _ ih =>
    intro k j h hc
    cases j with
    | zero => exact ⟨.nil, h, fun ρ vs hv => ⟨by simp [VRs], Nat.zero_le _⟩⟩
    | succ j =>
      obtain ⟨z, hz, hr⟩ := ih (k := fun c => k (.cons x c)) (j := j) h hc
      refine ⟨.cons x z, hz, fun ρ vs hv => ?_⟩
      simp only [CR] at hv
      obtain ⟨y, ys, rfl, h1, h2⟩ := hv
      obtain ⟨h3, h4⟩ := hr ρ ys h2
      refine ⟨?_, by simp; omega⟩
      simp only [VRs, List.take_succ_cons]
      exact ⟨y, _, rfl, h1, h3⟩
  | _ => intro k j h hc; exact absurd hc (by simp [isC])
theorem lenK_spec {k : Nat → Bool} : ∀ {l : V} {n : Nat}, lenK l n k = true → isC l → ∃ m, k (n + m) = true ∧ (∀ ρ vs, VRs ρ l vs → vs.length = m) ∧ (∀ ρ vs, CR ρ l vs → m ≤ vs.length) := by
  intro l
  induction l with
  | nil =>
    intro n h _
    exact ⟨0, h, fun ρ vs hv => by simp only [VRs] at hv; subst hv; rfl, fun _ _ _ => Nat.zero_le _⟩
  | cons x l _ ih =>
    intro n h hc
    obtain ⟨m, hm, h1, h2⟩ := ih (n := n + 1) h hc
    refine ⟨m + 1, by rw [← hm]; congr 1; omega, fun ρ vs hv => ?_, fun ρ vs hv => ?_⟩
    · simp only [VRs] at hv
      obtain ⟨y, ys, rfl, _, h3⟩ := hv
      simp [h1 ρ ys h3]
    · simp only [CR] at hv
      obtain ⟨y, ys, rfl, _, h3⟩ := hv
      have := h2 ρ ys h3
      simp; omega
  | _ => intro n h hc; exact absurd hc (by simp [isC])
theorem one_spec {ρ : Ren} {x : V} {v : Value} (h : one x = true) (hv : VR ρ x v) : v.oneCell' = true := by
  cases x <;> first
    | (simp [one] at h; done)
    | (simp only [VR] at hv; subst hv; rfl)
    | (simp only [VR] at hv; obtain ⟨rfl, _⟩ := hv; rfl)
    | (simp only [VR] at hv; obtain ⟨_, _, rfl⟩ := hv; rfl)
    | (simp only [VR] at hv; obtain ⟨_, rfl⟩ := hv; rfl)
    | (simp only [VR] at hv; obtain ⟨_, _, _, _, _, rfl⟩ := hv; rfl)
def lput (vs : List Value) (j : Nat) (ns : List Value) : List Value := vs.take j ++ ns ++ vs.drop (j + ns.length)
theorem putK_spec {l : V} : ∀ {k : V → Bool} {j : Nat} {new : V}, putK l j new k = true → isC l → isC new →
    ∃ r, k r = true ∧ isC r ∧ (∀ ρ vs ns, CR ρ l vs → VRs ρ new ns → CR ρ r (lput vs j ns) ∧ j + ns.length ≤ vs.length ∧ ∀ v ∈ ns, v.oneCell' = true) ∧
      ∀ ρ vs ns, VRs ρ l vs → VRs ρ new ns → VRs ρ r (lput vs j ns) := by
  induction l with
  | nil =>
    intro k j new h _ hn
    cases j with
    | zero =>
      cases new with
      | nil =>
        refine ⟨.nil, h, trivial, fun ρ vs ns _ hns => ?_, fun ρ vs ns hv hns => ?_⟩
        · simp only [VRs] at hns; subst hns
          exact ⟨by simp [CR], by simp, by simp⟩
        · simp only [VRs] at hns; subst hns
          simpa [lput] using hv
      | cons y new => exact absurd h (by simp [putK, chain])
      | _ => exact absurd hn (by simp [isC])
    | succ j => exact absurd h (by simp [putK, chain])
  | cons x l _ ih =>
    intro k j new h hc hn
    cases j with
    | zero =>
      cases new with
      | nil =>
        refine ⟨.cons x l, h, hc, fun ρ vs ns hv hns => ?_, fun ρ vs ns hv hns => ?_⟩
        · simp only [VRs] at hns; subst hns
          exact ⟨by simpa [lput] using hv, by simp, by simp⟩
        · simp only [VRs] at hns; subst hns
          simpa [lput] using hv
      | cons y new =>
        cases ho : one y with
        | false => exact absurd h (by simp [putK, chain, ho])
        | true =>
          have h' : putK l 0 new (fun c => k (.cons y c)) = true := by
            have : putK (.cons x l) 0 (.cons y new) k = Bool.rec false (putK l 0 new fun c => k (.cons y c)) (one y) := rfl
            rw [this, ho] at h; exact h
          obtain ⟨r, hr, hrc, hrr, hrf⟩ := ih (k := fun c => k (.cons y c)) h' hc hn
          have hput : ∀ (z u : Value) (zs us : List Value), lput (z :: zs) 0 (u :: us) = u :: lput zs 0 us := by intro z u zs us; simp [lput]
          refine ⟨.cons y r, hr, hrc, fun ρ vs ns hv hns => ?_, fun ρ vs ns hv hns => ?_⟩
          · simp only [CR] at hv
            obtain ⟨z, zs, rfl, hz, hzs⟩ := hv
            simp only [VRs] at hns
            obtain ⟨u, us, rfl, hu, hus⟩ := hns
            obtain ⟨g1, g2, g3⟩ := hrr ρ zs us hzs hus
            refine ⟨?_, by simp; omega, ?_⟩
            · rw [hput]
              simp only [CR]
              exact ⟨u, _, rfl, hu, g1⟩
            · intro v hv
              rcases List.mem_cons.1 hv with rfl | hv
              · exact one_spec ho hu
              · exact g3 v hv
          · simp only [VRs] at hv hns
            obtain ⟨z, zs, rfl, hz, hzs⟩ := hv
            obtain ⟨u, us, rfl, hu, hus⟩ := hns
            rw [hput]
            simp only [VRs]
            exact ⟨u, _, rfl, hu, hrf ρ zs us hzs hus⟩
      | _ => exact absurd hn (by simp [isC])
    | succ j =>
      obtain ⟨r, hr, hrc, hrr, hrf⟩ := ih (k := fun c => k (.cons x c)) (j := j) (new := new) h hc hn
      have hput : ∀ (z : Value) (zs ns : List Value), lput (z :: zs) (j + 1) ns = z :: lput zs j ns := by intro z zs ns; simp [lput, Nat.add_right_comm]
      refine ⟨.cons x r, hr, hrc, fun ρ vs ns hv hns => ?_, fun ρ vs ns hv hns => ?_⟩
      · simp only [CR] at hv
        obtain ⟨z, zs, rfl, hz, hzs⟩ := hv
        obtain ⟨g1, g2, g3⟩ := hrr ρ zs ns hzs hns
        refine ⟨?_, by simp; omega, g3⟩
        rw [hput]
        simp only [CR]
        exact ⟨z, _, rfl, hz, g1⟩
      · simp only [VRs] at hv
        obtain ⟨z, zs, rfl, hz, hzs⟩ := hv
        rw [hput]
        simp only [VRs]
        exact ⟨z, _, rfl, hz, hrf ρ zs ns hzs hns⟩
  | _ => intro k j new h hc; exact absurd hc (by simp [isC])
theorem catK_spec {l : V} : ∀ {k : V → Bool} {r : V}, catK l r k = true → isC l →
    ∃ c, k c = true ∧ (isC r → isC c) ∧ (∀ ρ vs ws, VRs ρ l vs → VRs ρ r ws → VRs ρ c (vs ++ ws)) ∧ (∀ ρ vs ws, VRs ρ l vs → CR ρ r ws → CR ρ c (vs ++ ws)) := by
  induction l with
  | nil =>
    intro k r h _
    refine ⟨r, h, id, fun ρ vs ws hv hw => ?_, fun ρ vs ws hv hw => ?_⟩ <;> (simp only [VRs] at hv; subst hv; simpa using hw)
  | cons x l _ ih =>
    intro k r h hc
    obtain ⟨c, hk, h1, h2, h3⟩ := ih (k := fun c => k (.cons x c)) h hc
    refine ⟨.cons x c, hk, h1, fun ρ vs ws hv hw => ?_, fun ρ vs ws hv hw => ?_⟩
    · simp only [VRs] at hv ⊢
      obtain ⟨y, ys, rfl, a, b⟩ := hv
      exact ⟨y, _, rfl, a, h2 ρ _ _ b hw⟩
    · simp only [VRs] at hv
      simp only [CR]
      obtain ⟨y, ys, rfl, a, b⟩ := hv
      exact ⟨y, _, rfl, a, h3 ρ _ _ b hw⟩
  | _ => intro k r h hc; exact absurd hc (by simp [isC])
theorem VRs_isC' {ρ : Ren} {l : V} {vs : List Value} (h : VRs ρ l vs) : isC l := VRs_isC h
end
end Go.Mx
