/-
  A part of a small executor of the model, proved sound (Mx36 of 46). No condition.
-/
import Derived.Test.YtmplmfieipckjaaGreatDoorXMx35
namespace Go.Mx
noncomputable section
variable {P : Program} {ng : Nat} {hk : Nat → Option (V → T O → Nat → KV → Bool)}
def NameOK (P : Program) : Prop := ∀ (f : Nat) (fn : Func) (c : Code), P.funcs[f]? = some fn → fn.body = some c → (fn.name == "runtime.NumGoroutine") = false
def HKok (P : Program) (ng : Nat) (hk : Nat → Option (V → T O → Nat → KV → Bool)) : Prop := ∀ g f, hk g = some f → ∀ args h nx K Kp, f args h nx K = true →
  ∀ ρ w vs, St ρ h nx w → RG ng ρ → VRs ρ args vs → UponOK P ((callFunc g ⟨vs⟩).run P w) ρ h w K Kp
theorem callFunc_enter (hn : NameOK P) {g : Nat} {fn : Func} {c : Code} (hf : P.funcs[g]? = some fn) (hb : fn.body = some c) (args : Array Value) (w : World) :
    (callFunc g args).run P w = .ok (.enter g args) w := by
  have h1 : fn.name ≠ "runtime.NumGoroutine" := by simpa using hn g fn c hf hb
  simp [callFunc, hf, h1, hb]
theorem UM_ne_run {ρ : Ren} {U : V} {u : FrameMode} (h : UM ρ U u) : u ≠ .run := by
  unfold UM at h
  split at h
  · rw [h]; simp
  · obtain ⟨x, _, h2⟩ := h; rw [h2]; simp
  · obtain ⟨x, _, h2⟩ := h; rw [h2]; simp
  · exact h.elim
theorem UM_settle {ρ : Ren} {U : V} {u : FrameMode} (h : UM ρ U u) : UM ρ (settleV U) (settle u) := by
  unfold UM at h
  split at h
  · rw [h]; show UM ρ .nil _; simp [UM, settle]
  · obtain ⟨x, h1, h2⟩ := h; rw [h2]; show UM ρ (.cons _ .nil) _; simp only [UM]; exact ⟨x, h1, by simp [settle]⟩
  · obtain ⟨x, h1, h2⟩ := h; rw [h2]; show UM ρ .nil _; simp [UM, settle]
  · exact h.elim
theorem leave_sound (hn : NameOK P) {ex : Code → Nat → T V → V → V → T O → Nat → KX → Bool} (hex : EXok P ng ex) {fn : Func} {tm : T V} {a : Act} {K Kp : KV} {R : Ending → World → Prop}
    {ρ0 : Ren} {h0 : T O} {w0 : World}
    (h1 : ∀ ρ' x h' nx' v w', VR ρ' x v → St ρ' h' nx' w' → Ext ρ0 h0 w0 ρ' h' w' → K x h' nx' = true → R (.returned v) w')
    (h2 : ∀ ρ' x h' nx' v w', VR ρ' x v → St ρ' h' nx' w' → Ext ρ0 h0 w0 ρ' h' w' → Kp x h' nx' = true → R (.panicked [{ v, recovered := false }]) w') :
    ∀ (D U : V) (h : T O) (nx : Nat) (ρ : Ren) (ds : List Deferred) (u : FrameMode) (w : World), leaveK P ex fn tm K Kp D U h nx = true →
      St ρ h nx w → Ext ρ0 h0 w0 ρ h w → RG ng ρ → TR ρ tm a → DR ρ D ds → UM ρ U u → Leaves P fn a.tmps R ds u w := by
  intro D
  induction D with
  | nil =>
    intro U h nx ρ ds u w hk s x g t hd hu
    simp only [DR] at hd
    subst hd
    have hk2 : (chain (resK P fn.results.toList tm h fun c => tupK c fun v => K v h nx) (fun x r _ => chain (Kp x h nx) (fun _ _ _ => false) r) U) = true := hk
    clear hk
    cases U <;> try (simp only [UM] at hu; done)
    case nil =>
      simp only [UM] at hu
      subst hu
      obtain ⟨c, vs, h3, h4, h5⟩ := resK_sound (P := P) s t fn.results.toList _ hk2
      obtain ⟨y, h6, h7⟩ := tupK_sound h3 h4
      exact ⟨_, results_run h5, h1 ρ y h nx _ w h7 s x h6⟩
    case cons v r =>
      cases r <;> try (simp only [UM] at hu; done)
      case nil =>
        simp only [UM] at hu
        obtain ⟨z, hz, rfl⟩ := hu
        exact h2 ρ v h nx z w hz s x hk2
      case cons y r2 => exact Bool.noConfusion hk2
  | cons d r ihd ih =>
    clear ihd
    intro U h nx ρ ds u w hk s x g t hd hu
    cases d <;> try (simp only [DR] at hd; done)
    case cons f args =>
      cases f <;> try (simp only [DR] at hd; done)
      case f g' cap =>
        simp only [DR] at hd
        obtain ⟨caps, vs, rest, rfl, hc, hv, hr⟩ := hd
        have hk2 : catK args cap (fun all => enterK P ex g' all U h nx fun fn' x tm' D' U' h' nx' =>
            chain (resK P fn'.results.toList tm' h' fun _ => X.rec (motive := fun _ => Bool) (leaveK P ex fn tm K Kp r (settleV U') h' nx') (fun _ => false) (leaveK P ex fn tm K Kp r (settleV U') h' nx') (fun _ => false) x) (fun _ _ _ => false) D') = true := hk
        clear hk
        obtain ⟨all, hk3, _, hall, _⟩ := catK_spec hk2 (VRs_isC hv)
        have hav := hall ρ _ _ hv hc
        obtain ⟨fn', c, tm0, hf, hb, he, ht0, hnt⟩ := enterK_sound hk3 hav
        have e2 : (⟨vs⟩ ++ ⟨caps⟩ : Array Value) = ⟨vs ++ caps⟩ := by apply Array.ext'; simp
        refine leaves_cons (UM_ne_run hu) (f := g') (args := ⟨vs ++ caps⟩) (by simp only [invoke, e2]; exact callFunc_enter hn hf hb _ _) ?_
        refine callsD_of_wpS hf hb (fun c₀ cs hcu => ?_)
        refine WG.wpS ?_
        refine (hex c fn'.ntmps tm0 .nil U h nx _ he true c₀ cs ρ h w _ (fun ρ' z tm' D' U' h' nx' a' cs' w' hk s' x' g'' t' hn' hd' hu' => ?_) ρ (act0 fn' ⟨vs ++ caps⟩) (c₀ :: cs) w s (Ext.refl _ _ _) g ht0 hnt (by simp [act0, DR]) ⟨u, by subst hcu; rfl, hu⟩).1
        obtain ⟨u', rfl, hum⟩ := hu'
        replace hk : chain (resK P fn'.results.toList tm' h' fun _ => X.rec (motive := fun _ => Bool) (leaveK P ex fn tm K Kp r (settleV U') h' nx') (fun _ => false) (leaveK P ex fn tm K Kp r (settleV U') h' nx') (fun _ => false) z) (fun _ _ _ => false) D' = true := hk
        have fin : (z = .n ∨ z = .r) → a'.defers = [] ∧ ∃ u'', ({ c₀ with mode := u' } :: cs : List Frame) = { c₀ with mode := u'' } :: cs ∧ ∃ v, (results fn' a'.tmps).run P w' = .ok v w' ∧ Leaves P fn a.tmps R rest (settle u'') w' := by
          intro hz
          have hD : a'.defers = [] := by
            cases D' <;> try (simp only [DR] at hd'; done)
            case nil => simpa [DR] using hd'
            case cons _ _ => exact Bool.noConfusion hk
          have hk4 : (resK P fn'.results.toList tm' h' fun _ => leaveK P ex fn tm K Kp r (settleV U') h' nx') = true := by
            cases D' <;> try (simp only [DR] at hd'; done)
            case nil => rcases hz with rfl | rfl <;> exact hk
            case cons _ _ => exact Bool.noConfusion hk
          obtain ⟨c', vs', h3, h4, h5⟩ := resK_sound (P := P) s' t' fn'.results.toList _ hk4
          exact ⟨hD, u', rfl, _, results_run h5, ih (settleV U') h' nx' ρ' rest (settle u') w' h3 s' (x.trans x') g'' (t.mono x'.le) (hr.mono x'.le) (UM_settle hum)⟩
        have bad : z ≠ .n → z ≠ .r → False := by
          intro z1 z2
          cases D' <;> try (simp only [DR] at hd'; done)
          case nil =>
            obtain ⟨c', vs', h3, h4, h5⟩ := resK_sound (P := P) s' t' fn'.results.toList _ hk
            cases z with
            | n => exact z1 rfl
            | r => exact z2 rfl
            | x id => exact Bool.noConfusion h3
            | pk v => exact Bool.noConfusion h3
          case cons _ _ => exact Bool.noConfusion hk
        cases z with
        | n => exact fin (.inl rfl)
        | r => exact fin (.inr rfl)
        | x id => exact (bad (by simp) (by simp)).elim
        | pk v => exact (bad (by simp) (by simp)).elim
  | _ => intro U h nx ρ ds u w hk s x g t hd hu; simp only [DR] at hd
theorem call_step (hn : NameOK P) (hh : HKok P ng hk) {ex : Code → Nat → T V → V → V → T O → Nat → KX → Bool} (hex : EXok P ng ex) : CKok P ng (callX P hk ex) := by
  intro g args h nx K Kp hk1 ρ w vs s hg hv
  unfold callX at hk1
  cases e : hk g with
  | some f => rw [e] at hk1; exact hh g f e args h nx K Kp hk1 ρ w vs s hg hv
  | none =>
    rw [e] at hk1
    have hk2 : enterK P ex g args (.b false) h nx (fun fn x tm D _ h nx => X.rec (motive := fun _ => Bool) (leaveK P ex fn tm K Kp D .nil h nx) (fun _ => false) (leaveK P ex fn tm K Kp D .nil h nx) (fun v => leaveK P ex fn tm K Kp D (.cons v .nil) h nx) x) = true := hk1
    obtain ⟨fn, c, tm, hf, hb, he, ht, hnt⟩ := enterK_sound hk2 hv
    intro o a next Q h1 h2
    rw [callFunc_enter hn hf hb, Oper.upon_enter]
    refine calls_of_wp_defers hf hb ?_
    refine WG.wp fun cs => ?_
    refine (hex c fn.ntmps tm .nil (.b false) h nx _ he false default cs ρ h w _ (fun ρ' z tm' D' U' h' nx' a' cs' w' hk s' x' g'' t' hn' hd' hu' => ?_) ρ (act0 fn ⟨vs⟩) cs w s (Ext.refl _ _ _) hg ht hnt (by simp [act0, DR]) ⟨rfl, rfl⟩).1
    obtain ⟨_, rfl⟩ := hu'
    have fin : ∀ U u, leaveK P ex fn tm' K Kp D' U h' nx' = true → UM ρ' U u → Leaves P fn a'.tmps (fun
        | .returned v, w'' => next (a.put o.dst v) w''
        | .panicked chain, w'' => Q (.panic chain) a w''
        | .outgrown, _ => LetsOut Q) a'.defers u w' := fun U u hk hu =>
      leave_sound hn hex (R := fun
        | .returned v, w'' => next (a.put o.dst v) w''
        | .panicked chain, w'' => Q (.panic chain) a w''
        | .outgrown, _ => LetsOut Q) h1 h2 D' U h' nx' ρ' a'.defers u w' hk s' x' g'' t' hd' hu
    cases z with
    | n => exact ⟨rfl, fin .nil .returning hk (by simp [UM])⟩
    | r => exact ⟨rfl, fin .nil .returning hk (by simp [UM])⟩
    | x id => exact Bool.noConfusion hk
    | pk v => exact fun y hy => ⟨rfl, fin (.cons v .nil) _ hk (by simp only [UM]; exact ⟨y, hy, rfl⟩)⟩
theorem exec_sound (hm : P.follows .mixedOrders = true) (hn : NameOK P) (hh : HKok P ng hk) : ∀ n, EXok P ng (exec P ng hk n)
  | 0 => fun _c _nt _tm _D _U _h _nx _k he => Bool.noConfusion he
  | n + 1 => exec_step hm (exec_sound hm hn hh n) (call_step hn hh (exec_sound hm hn hh n))
theorem run_sound (hm : P.follows .mixedOrders = true) (hn : NameOK P) (hh : HKok P ng hk) (n : Nat) : CKok P ng (run P ng hk n) :=
  call_step hn hh (exec_sound hm hn hh n)
end
end Go.Mx
