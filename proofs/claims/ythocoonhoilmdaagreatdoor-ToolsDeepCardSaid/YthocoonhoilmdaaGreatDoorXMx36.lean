/-
  A part of a small executor of the model, proved sound (16 of 28). No condition.
-/
import Derived.Test.YthocoonhoilmdaaGreatDoorXMx33
import Derived.Test.YthocoonhoilmdaaGreatDoorXMxM
namespace Go.Mx
noncomputable section
variable {P : Program} {ng : Nat} {hk : Nat → Option (V → T O → Nat → KV → Bool)}
def EXok (P : Program) (ng : Nat) (ex : Code → Nat → T V → V → V → T O → Nat → KX → Bool) : Prop :=
  ∀ (c : Code) (nt : Nat) (tm : T V) (D U : V) (h : T O) (nx : Nat) (k : KX), ex c nt tm D U h nx k = true →
    ∀ (dk : Bool) (c0 : Frame) (cs0 : List Frame) (ρ0 : Ren) (h0 : T O) (w0 : World) (Q : Exit → Act → List Frame → World → Prop), QOK ng nt dk c0 cs0 ρ0 h0 w0 k Q →
    ∀ (ρ : Ren) (a : Act) (cs : List Frame) (w : World), St ρ h nx w → Ext ρ0 h0 w0 ρ h w → RG ng ρ → TR ρ tm a → nt ≤ a.tmps.size → DR ρ D a.defers → UR ρ dk U c0 cs0 cs →
      WG P dk c Q a cs w ∧ ∀ c', c = .loop c' → WL P dk c' Q a cs w
theorem exec_step (hm : P.follows .mixedOrders = true) {n : Nat} (ih : EXok P ng (exec P ng hk n)) (hck : CKok P ng (callX P hk (exec P ng hk n))) : EXok P ng (exec P ng hk (n + 1)) := by
  intro c nt tm D U h nx k he dk c0 cs0 ρ0 h0 w0 Q hq ρ a cs w s x g t hn hd hu
  cases c <;> try exact Bool.noConfusion he
  case skip => exact ⟨.skip (hq ρ .n tm D U h nx a cs w he s x g t hn hd hu), by simp⟩
  case exit id => exact ⟨.exit (hq ρ (.x id) tm D U h nx a cs w he s x g t hn hd hu), by simp⟩
  case label l => exact ⟨.label (hq ρ .n tm D U h nx a cs w he s x g t hn hd hu), by simp⟩
  case ret => exact ⟨.ret (hq ρ .r tm D U h nx a cs w he s x g t hn hd hu), by simp⟩
  case region id o dr =>
    refine ⟨?_, by simp⟩
    cases dr with
    | false =>
      have he : regK P ng (callX P hk (exec P ng hk n)) nt o (fun v tm D U h nx => k (.pk v) tm D U h nx) o.toList tm D U h nx (fun tm D U h nx => k .n tm D U h nx) = true := he
      have := regK_sound hck hq o.toList 0 tm D U h nx a cs w ρ (fun q => by simp) he s x g t hn hd hu
      refine opsG.region ?_
      rw [List.range_eq_range']
      simpa using this
    | true =>
      have he : coinK (coinOf P nt o) tm (fun tm => k .n tm D U h nx) (rp P ng (callX P hk (exec P ng hk n)) nt o (fun v h nx => k (.pk v) .leaf D U h nx) (fun tm h nx => k .n tm D U h nx) (drawP P o (Nat.succ o.size) ⟨0, 0, 0, .leaf, .leaf⟩) tm h nx) = true := he
      cases hcoin : coinOf P nt o with
      | some p =>
        obtain ⟨d0, d1, b1, b2⟩ := p
        rw [hcoin] at he
        have he : stK V.nil V.nil d0 tm (fun tm => ite1 (stK V.nil (.b b1) d1 tm fun tm => k .n tm D U h nx) (stK V.nil (.b b2) d1 tm fun tm => k .n tm D U h nx)) = true := he
        rw [stK_eq] at he
        obtain ⟨he1, he2⟩ := ite1_spec he
        rw [stK_eq] at he1 he2
        refine .of_wp (coin_sound hm hcoin s t hn (fun b a' w' hb s' x' t' hn' hd' => ?_))
        have hkb : k .n (st V.nil (.b b) d1 (st V.nil V.nil d0 tm)) D U h nx = true := by rcases hb with rfl | rfl <;> assumption
        exact hq ρ .n _ D U h nx a' cs w' hkb s' (x.trans x') g t' hn' (by rw [hd']; exact hd) hu
      | none =>
      rw [hcoin] at he
      have he : rp P ng (callX P hk (exec P ng hk n)) nt o (fun v h nx => k (.pk v) .leaf D U h nx) (fun tm h nx => k .n tm D U h nx) (drawP P o (Nat.succ o.size) ⟨0, 0, 0, .leaf, .leaf⟩) tm h nx = true := he
      rw [drawP_run] at he
      have he : drawK P ng (callX P hk (exec P ng hk n)) nt o (fun v h nx => k (.pk v) .leaf D U h nx) (fun tm h nx => k .n tm D U h nx) (Nat.succ o.size) ⟨0, 0, 0, .leaf, .leaf⟩ tm h nx = true := he
      refine .of_wp (drawK_sound hm hck he s g t hn (fun ρ' tm' h' nx' a' w' hk2 s' x' g' t' hn' hd' => ?_) (fun ρ' y h' nx' v a' w' hk2 hv s' x' g' hn' hd' => ?_))
      · exact hq ρ' .n tm' D U h' nx' a' cs w' hk2 s' (x.trans x') g' t' hn' (by rw [hd']; exact hd.mono x'.le) (hu.mono x'.le)
      · exact hq ρ' (.pk y) .leaf D U h' nx' a' cs w' hk2 s' (x.trans x') g' (fun q => by rw [gt_leaf]; simp [VR]) hn' (by rw [hd']; exact hd.mono x'.le) (hu.mono x'.le) v hv
  case seq c1 c2 =>
    refine ⟨.seq (ih c1 nt tm D U h nx _ he dk c0 cs0 ρ0 h0 w0 _ (fun ρ z tm D U h nx a cs w hk s x g t hn hd hu => ?_) ρ a cs w s x g t hn hd hu).1, by simp⟩
    cases z with
    | n => exact (ih c2 nt tm D U h nx k hk dk c0 cs0 ρ0 h0 w0 Q hq ρ a cs w s x g t hn hd hu).1
    | x id => exact hq ρ (.x id) tm D U h nx a cs w hk s x g t hn hd hu
    | r => exact hq ρ .r tm D U h nx a cs w hk s x g t hn hd hu
    | pk v => exact hq ρ (.pk v) tm D U h nx a cs w hk s x g t hn hd hu
  case scope c1 =>
    refine ⟨.scope (ih c1 nt tm D U h nx k he dk c0 cs0 ρ0 h0 w0 _ (fun ρ z tm D U h nx a cs w hk s x g t hn hd hu => ?_) ρ a cs w s x g t hn hd hu).1, by simp⟩
    have := hq ρ z tm D U h nx a cs w hk s x g t hn hd hu
    cases z <;> exact this
  case block id c1 =>
    refine ⟨.block (ih c1 nt tm D U h nx _ he dk c0 cs0 ρ0 h0 w0 _ (fun ρ z tm D U h nx a cs w hk s x g t hn hd hu => ?_) ρ a cs w s x g t hn hd hu).1, by simp⟩
    cases z with
    | n => exact hq ρ .n tm D U h nx a cs w hk s x g t hn hd hu
    | x id' =>
      have hk : (Bool.rec (k (.x id') tm D U h nx) (k .n tm D U h nx) (Nat.beq id' id) : Bool) = true := hk
      show if id' = id then _ else _
      cases e : Nat.beq id' id with
      | true => rw [e] at hk; rw [if_pos (beq_spec e)]; exact hq ρ .n tm D U h nx a cs w hk s x g t hn hd hu
      | false => rw [e] at hk; rw [if_neg (Nat.ne_of_beq_eq_false e)]; exact hq ρ (.x id') tm D U h nx a cs w hk s x g t hn hd hu
    | r => exact hq ρ .r tm D U h nx a cs w hk s x g t hn hd hu
    | pk v => exact hq ρ (.pk v) tm D U h nx a cs w hk s x g t hn hd hu
  case loop c1 =>
    have key : WL P dk c1 Q a cs w := by
      refine .round (ih c1 nt tm D U h nx _ he dk c0 cs0 ρ0 h0 w0 _ (fun ρ z tm D U h nx a cs w hk s x g t hn hd hu => ?_) ρ a cs w s x g t hn hd hu).1
      cases z with
      | n => exact (ih (.loop c1) nt tm D U h nx k hk dk c0 cs0 ρ0 h0 w0 Q hq ρ a cs w s x g t hn hd hu).2 c1 rfl
      | x id => exact hq ρ (.x id) tm D U h nx a cs w hk s x g t hn hd hu
      | r => exact hq ρ .r tm D U h nx a cs w hk s x g t hn hd hu
      | pk v => exact hq ρ (.pk v) tm D U h nx a cs w hk s x g t hn hd hu
    exact ⟨key.loop, fun c' e => by cases e; exact key⟩
  case cond c1 c2 c3 =>
    obtain ⟨q, hv, he2⟩ := vBf_spec (show vBf (ev ng tm c1) (fun q => Bool.rec (exec P ng hk n c3 nt tm D U h nx k) (exec P ng hk n c2 nt tm D U h nx k) q) = true from he) (ev_rel g t c1)
    refine ⟨.cond hv ?_, by simp⟩
    cases q with
    | true => exact (ih c2 nt tm D U h nx k he2 dk c0 cs0 ρ0 h0 w0 Q hq ρ a cs w s x g t hn hd hu).1
    | false => exact (ih c3 nt tm D U h nx k he2 dk c0 cs0 ρ0 h0 w0 Q hq ρ a cs w s x g t hn hd hu).1
end
end Go.Mx
namespace Go.Mx
open Instr Builtin
noncomputable section
variable {P : Program} {ρ : Ren} {h : T O} {nx : Nat} {w : World} {ng : Nat} {hk : Nat → Option (V → T O → Nat → KV → Bool)}
def resS (tmps : Array Value) : ResultVar → Sem Value
  | .tmp t => pure (tmps.getD t undef)
  | .cell a t => do loadVar t (← asAddr (tmps.getD a undef))
theorem resK_sound {tm : T V} {a : Act} (s : St ρ h nx w) (ht : TR ρ tm a) : ∀ (l : List ResultVar) (K : V → Bool), resK P l tm h K = true →
    ∃ c vs, K c = true ∧ VRs ρ c vs ∧ (l.mapM (resS a.tmps)).run P w = .ok vs w := by
  intro l
  induction l with
  | nil => intro K hk; exact ⟨.nil, [], hk, by simp [VRs], by simp⟩
  | cons r l ih =>
    intro K hk
    cases r with
    | tmp t =>
      obtain ⟨c, vs, h1, h2, h3⟩ := ih (fun c => K (.cons (gt V.nil t tm) c)) hk
      refine ⟨_, a.tmps.getD t undef :: vs, h1, ?_, ?_⟩
      · simp only [VRs]; exact ⟨_, _, rfl, ht t, h2⟩
      · simp only [List.mapM_cons, resS, Sem.run_bind, Sem.run_pure, Result.andThen_ok, h3]
    | cell x t =>
      have hk2 : opLoad P t (gt V.nil x tm) h (fun v => resK P l tm h fun c => K (.cons v c)) = true := hk
      obtain ⟨y, r, h1, h2, h3⟩ := opLoad_sound hk2 s (ht x)
      obtain ⟨id, off, hx, _⟩ := vP_spec hk2
      have hv := ht x
      rw [hx] at hv
      simp only [VR] at hv
      obtain ⟨L, _, he⟩ := hv
      obtain ⟨c, vs, h4, h5, h6⟩ := ih (fun c => K (.cons y c)) h1
      refine ⟨_, r :: vs, h4, ?_, ?_⟩
      · simp only [VRs]; exact ⟨_, _, rfl, h2, h5⟩
      · rw [he] at h3
        simp only [loadAt, sureAddr, Sem.run_bind, Sem.run_pure, Result.andThen_ok] at h3
        simp only [List.mapM_cons, resS, he, asAddr, Sem.run_bind, Sem.run_pure, Result.andThen_ok, h3, h6]
theorem results_run {fn : Func} {tmps : Array Value} {vs : List Value} (h : (fn.results.toList.mapM (resS tmps)).run P w = .ok vs w) :
    (results fn tmps).run P w = .ok (if h : vs.toArray.size = 1 then vs.toArray[0] else .tuple vs.toArray) w := by
  have e : results fn tmps = (do let vs ← fn.results.mapM (resS tmps); pure (if h : vs.size = 1 then vs[0] else .tuple vs)) := by
    unfold results
    congr 1
  rw [e, Array.mapM_eq_mapM_toList]
  simp only [Sem.run_bind, map_eq_pure_bind, h, Result.andThen_ok, Sem.run_pure]
theorem tupK_sound {c : V} {vs : List Value} {K : V → Bool} (hk : tupK c K = true) (hc : VRs ρ c vs) :
    ∃ x, K x = true ∧ VR ρ x (if h : vs.toArray.size = 1 then vs.toArray[0] else .tuple vs.toArray) := by
  cases c <;> try (simp only [VRs] at hc; done)
  case nil =>
    simp only [VRs] at hc
    subst hc
    exact ⟨_, hk, by simp [VR, VRs]⟩
  case cons x r =>
    have hc2 := hc
    simp only [VRs] at hc2
    obtain ⟨y, ys, rfl, h1, h2⟩ := hc2
    cases r <;> try (simp only [VRs] at h2; done)
    case nil =>
      simp only [VRs] at h2
      subst h2
      exact ⟨x, hk, by simpa using h1⟩
    case cons x' r' =>
      have h3 := h2
      simp only [VRs] at h3
      obtain ⟨y', ys', rfl, h4, h5⟩ := h3
      refine ⟨.t (.cons x (.cons x' r')), hk, ?_⟩
      rw [dif_neg (by simp)]
      simp only [VR]
      exact ⟨_, hc, rfl⟩
theorem initK_sound : ∀ (args : V) (vs pre post : List Value) (tm : T V) (K : T V → Bool), VRs ρ args vs →
    (∀ t, VR ρ (gt V.nil t tm) ((pre ++ (vs ++ post)).toArray.getD t undef)) → initK args pre.length tm K = true →
    ∃ tm', K tm' = true ∧ ∀ t, VR ρ (gt V.nil t tm') ((pre ++ (vs ++ post)).toArray.getD t undef) := by
  intro args
  induction args with
  | nil => intro vs pre post tm K _ ht hk; exact ⟨tm, hk, ht⟩
  | cons x r _ ih =>
    intro vs pre post tm K hv ht hk
    simp only [VRs] at hv
    obtain ⟨y, ys, rfl, h1, h2⟩ := hv
    have hk2 : stK V.nil x pre.length tm (fun tm' => initK r (Nat.succ pre.length) tm' K) = true := hk
    rw [stK_eq] at hk2
    have e : pre ++ (y :: ys ++ post) = (pre ++ [y]) ++ (ys ++ post) := by simp
    rw [e] at ht ⊢
    refine ih ys (pre ++ [y]) post _ K h2 (fun t => ?_) (by simpa using hk2)
    by_cases et : pre.length = t
    · subst et
      rw [gt_st_same]
      simpa using h1
    · rw [gt_st_ne _ _ et]
      exact ht t
  | _ => intro vs pre post tm K hv; simp only [VRs] at hv
def act0 (fn : Func) (args : Array Value) : Act := { tmps := args ++ Array.replicate (fn.ntmps - args.size) undef, defers := [] }
theorem enterK_sound {ex : Code → Nat → T V → V → V → T O → Nat → KX → Bool} {g : Nat} {args U : V} {vs : List Value} {k : Func → KX}
    (he : enterK P ex g args U h nx k = true) (hv : VRs ρ args vs) :
    ∃ fn c tm, P.funcs[g]? = some fn ∧ fn.body = some c ∧ ex c fn.ntmps tm .nil U h nx (k fn) = true ∧ TR ρ tm (act0 fn ⟨vs⟩) ∧ fn.ntmps ≤ (act0 fn ⟨vs⟩).tmps.size := by
  unfold enterK at he
  cases hf : P.funcs[g]? with
  | none => rw [hf] at he; exact Bool.noConfusion he
  | some fn =>
    rw [hf] at he
    cases hb : fn.body with
    | none => replace he : (Option.rec (motive := fun _ => Bool) false (fun c => initK args 0 .leaf fun tm => ex c fn.ntmps tm .nil U h nx (k fn)) fn.body) = true := he
              rw [hb] at he; exact Bool.noConfusion he
    | some c =>
      replace he : (Option.rec (motive := fun _ => Bool) false (fun c => initK args 0 .leaf fun tm => ex c fn.ntmps tm .nil U h nx (k fn)) fn.body) = true := he
      rw [hb] at he
      obtain ⟨tm, h1, h2⟩ := initK_sound (ρ := ρ) args vs [] (List.replicate (fn.ntmps - vs.length) undef) .leaf _ hv (fun t => by rw [gt_leaf]; simp only [VR]) he
      refine ⟨fn, c, tm, rfl, hb, h1, fun t => ?_, ?_⟩
      · have := h2 t
        have e : (act0 fn ⟨vs⟩).tmps = ([] ++ (vs ++ List.replicate (fn.ntmps - vs.length) undef)).toArray := by
          apply Array.ext'; simp [act0]
        rw [e]; exact this
      · simp [act0]; omega
end
end Go.Mx
namespace Go.Mx
noncomputable section
variable {P : Program} {ng : Nat} {hk : Nat → Option (V → T O → Nat → KV → Bool)}
def NameOK (P : Program) : Prop := ∀ (f : Nat) (fn : Func) (c : Code), P.funcs[f]? = some fn → fn.body = some c → (fn.name == "runtime.NumGoroutine") = false
def HKok (P : Program) (ng : Nat) (hk : Nat → Option (V → T O → Nat → KV → Bool)) : Prop := ∀ g f, hk g = some f → ∀ args h nx K Kp, f args h nx K = true →
  ∀ ρ w vs, St ρ h nx w → RG ng ρ → VRs ρ args vs → UponOK P ((callFunc g ⟨vs⟩).run P w) ρ h w K Kp
theorem callFunc_enter (hn : NameOK P) {g : Nat} {fn : Func} {c : Code} (hf : P.funcs[g]? = some fn) (hb : fn.body = some c) (args : Array Value) (w : World) :
    (callFunc g args).run P w = .ok (.enter g args) w := by
  have h1 : fn.name ≠ "runtime.NumGoroutine" := by simpa using hn g fn c hf hb
  simp [callFunc, hf, h1, hb]
theorem UM_ne_run {ρ : Ren} {U : V} {u : FrameMode} (h : UM ρ U u) : u ≠ .run := by
  unfold UM at h
  split at h
  · rw [h]; simp
  · obtain ⟨x, ch, _, _, h2⟩ := h; rw [h2]; simp
  · obtain ⟨x, ch, _, _, h2⟩ := h; rw [h2]; simp
  · exact h.elim
theorem drop_all : ∀ {tl : List PanicEntry}, (∀ e ∈ tl, e.goexit = false) → tl.dropWhile (fun e => !e.goexit) = []
  | [], _ => rfl
  | e :: r, h => by
    rw [List.dropWhile_cons, h e (List.mem_cons_self ..)]
    exact drop_all fun x hx => h x (List.mem_cons_of_mem _ hx)
theorem UM_settle {ρ : Ren} {U : V} {u : FrameMode} (h : UM ρ U u) : UM ρ (settleV U) (settle u) := by
  unfold UM at h
  split at h
  · rw [h]; show UM ρ .nil _; simp [UM, settle]
  · obtain ⟨x, ch, h1, h3, h2⟩ := h; rw [h2]; show UM ρ (.cons _ .nil) _; simp only [UM]; obtain ⟨tl, rfl, ht⟩ := h3; exact ⟨x, _, h1, ⟨tl, rfl, ht⟩, by simp [settle]⟩
  · obtain ⟨x, ch, h1, h3, h2⟩ := h; rw [h2]; show UM ρ .nil _; obtain ⟨tl, rfl, ht⟩ := h3; simp only [UM, settle]; rw [show tl.dropWhile (fun e => !e.goexit) = [] from drop_all ht]
  · exact h.elim
theorem UM_raised {ρ : Ren} {U v : V} {u : FrameMode} {y : Value} {ch : List PanicEntry} (h : UM ρ U u) (hy : VR ρ v y) (hc : PanC y false ch) : UM ρ (.cons v .nil) (raised u ch) := by
  simp only [UM]
  unfold UM at h
  split at h
  · rw [h]; exact ⟨y, ch, hy, hc, rfl⟩
  · obtain ⟨x, old, _, h3, h2⟩ := h; rw [h2]; exact ⟨y, _, hy, hc.more h3.all, rfl⟩
  · obtain ⟨x, old, _, h3, h2⟩ := h; rw [h2]; exact ⟨y, _, hy, hc.more h3.all, rfl⟩
  · exact h.elim
theorem leave_sound (hn : NameOK P) {ex : Code → Nat → T V → V → V → T O → Nat → KX → Bool} (hex : EXok P ng ex) {fn : Func} {tm : T V} {a : Act} {K Kp : KV} {R : Ending → World → Prop}
    {ρ0 : Ren} {h0 : T O} {w0 : World}
    (h1 : ∀ ρ' x h' nx' v w', VR ρ' x v → St ρ' h' nx' w' → Ext ρ0 h0 w0 ρ' h' w' → K x h' nx' = true → R (.returned v) w')
    (h2 : ∀ ρ' x h' nx' v w', VR ρ' x v → St ρ' h' nx' w' → Ext ρ0 h0 w0 ρ' h' w' → Kp x h' nx' = true → ∀ ch, PanC v false ch → R (.panicked ch) w') :
    ∀ (D U : V) (h : T O) (nx : Nat) (ρ : Ren) (ds : List Deferred) (u : FrameMode) (w : World), leaveK P ex fn tm K Kp D U h nx = true →
      St ρ h nx w → Ext ρ0 h0 w0 ρ h w → RG ng ρ → TR ρ tm a → DR ρ D ds → UM ρ U u → Leaves P fn a.tmps R ds u w := by
  intro D
  induction D with
  | nil =>
    intro U h nx ρ ds u w hk s x g t hd hu
    simp only [DR] at hd
    subst hd
    have hk2 : (chain (resK P fn.results.toList tm h fun c => tupK c fun v => K v h nx) (fun x r _ => chain (Kp x h nx) (fun _ _ _ => false) r) U) = true := hk
    clear hk
    cases U <;> try (simp only [UM] at hu; done)
    case nil =>
      simp only [UM] at hu
      subst hu
      obtain ⟨c, vs, h3, h4, h5⟩ := resK_sound (P := P) s t fn.results.toList _ hk2
      obtain ⟨y, h6, h7⟩ := tupK_sound h3 h4
      exact ⟨_, results_run h5, h1 ρ y h nx _ w h7 s x h6⟩
    case cons v r =>
      cases r <;> try (simp only [UM] at hu; done)
      case nil =>
        simp only [UM] at hu
        obtain ⟨z, ch, hz, hc, rfl⟩ := hu
        exact h2 ρ v h nx z w hz s x hk2 ch hc
      case cons y r2 => exact Bool.noConfusion hk2
  | cons d r ihd ih =>
    clear ihd
    intro U h nx ρ ds u w hk s x g t hd hu
    cases d <;> try (simp only [DR] at hd; done)
    case cons f args =>
      cases f <;> try (simp only [DR] at hd; done)
      case f g' cap =>
        simp only [DR] at hd
        obtain ⟨caps, vs, rest, rfl, hc, hv, hr⟩ := hd
        have hk2 : catK args cap (fun all => enterK P ex g' all U h nx fun fn' x tm' D' U' h' nx' =>
            chain (X.rec (motive := fun _ => Bool) (resK P fn'.results.toList tm' h' fun _ => leaveK P ex fn tm K Kp r (settleV U') h' nx') (fun _ => false) (resK P fn'.results.toList tm' h' fun _ => leaveK P ex fn tm K Kp r (settleV U') h' nx') (fun v => leaveK P ex fn tm K Kp r (.cons v .nil) h' nx') x) (fun _ _ _ => false) D') = true := hk
        clear hk
        obtain ⟨all, hk3, _, hall, _⟩ := catK_spec hk2 (VRs_isC hv)
        have hav := hall ρ _ _ hv hc
        obtain ⟨fn', c, tm0, hf, hb, he, ht0, hnt⟩ := enterK_sound hk3 hav
        have e2 : (⟨vs⟩ ++ ⟨caps⟩ : Array Value) = ⟨vs ++ caps⟩ := by apply Array.ext'; simp
        refine leaves_cons (UM_ne_run hu) (f := g') (args := ⟨vs ++ caps⟩) (by simp only [invoke, e2]; exact callFunc_enter hn hf hb _ _) ?_
        refine callsD_of_wpS hf hb (fun c₀ cs hcu => ?_)
        refine WG.wpS ?_
        refine (hex c fn'.ntmps tm0 .nil U h nx _ he true c₀ cs ρ h w _ (fun ρ' z tm' D' U' h' nx' a' cs' w' hk s' x' g'' t' hn' hd' hu' => ?_) ρ (act0 fn' ⟨vs ++ caps⟩) (c₀ :: cs) w s (Ext.refl _ _ _) g ht0 hnt (by simp [act0, DR]) ⟨u, by subst hcu; rfl, hu⟩).1
        obtain ⟨u', rfl, hum⟩ := hu'
        replace hk : chain (X.rec (motive := fun _ => Bool) (resK P fn'.results.toList tm' h' fun _ => leaveK P ex fn tm K Kp r (settleV U') h' nx') (fun _ => false) (resK P fn'.results.toList tm' h' fun _ => leaveK P ex fn tm K Kp r (settleV U') h' nx') (fun v => leaveK P ex fn tm K Kp r (.cons v .nil) h' nx') z) (fun _ _ _ => false) D' = true := hk
        have fin : (z = .n ∨ z = .r) → a'.defers = [] ∧ ∃ u'', ({ c₀ with mode := u' } :: cs : List Frame) = { c₀ with mode := u'' } :: cs ∧ ∃ v, (results fn' a'.tmps).run P w' = .ok v w' ∧ Leaves P fn a.tmps R rest (settle u'') w' := by
          intro hz
          have hD : a'.defers = [] := by
            cases D' <;> try (simp only [DR] at hd'; done)
            case nil => simpa [DR] using hd'
            case cons _ _ => exact Bool.noConfusion hk
          have hk4 : (resK P fn'.results.toList tm' h' fun _ => leaveK P ex fn tm K Kp r (settleV U') h' nx') = true := by
            cases D' <;> try (simp only [DR] at hd'; done)
            case nil => rcases hz with rfl | rfl <;> exact hk
            case cons _ _ => exact Bool.noConfusion hk
          obtain ⟨c', vs', h3, h4, h5⟩ := resK_sound (P := P) s' t' fn'.results.toList _ hk4
          exact ⟨hD, u', rfl, _, results_run h5, ih (settleV U') h' nx' ρ' rest (settle u') w' h3 s' (x.trans x') g'' (t.mono x'.le) (hr.mono x'.le) (UM_settle hum)⟩
        have bad : ∀ id, z ≠ .x id := by
          rintro id rfl
          cases D' <;> try (simp only [DR] at hd'; done)
          case nil => exact Bool.noConfusion hk
          case cons _ _ => exact Bool.noConfusion hk
        cases z with
        | n => exact fin (.inl rfl)
        | r => exact fin (.inr rfl)
        | x id => exact (bad id rfl).elim
        | pk v =>
          intro y hy ch hc
          have hD : a'.defers = [] := by
            cases D' <;> try (simp only [DR] at hd'; done)
            case nil => simpa [DR] using hd'
            case cons _ _ => exact Bool.noConfusion hk
          have hk4 : leaveK P ex fn tm K Kp r (.cons v .nil) h' nx' = true := by
            cases D' <;> try (simp only [DR] at hd'; done)
            case nil => exact hk
            case cons _ _ => exact Bool.noConfusion hk
          exact ⟨hD, u', rfl, ih (.cons v .nil) h' nx' ρ' rest (raised u' ch) w' hk4 s' (x.trans x') g'' (t.mono x'.le) (hr.mono x'.le) (UM_raised hum hy hc)⟩
  | _ => intro U h nx ρ ds u w hk s x g t hd hu; simp only [DR] at hd
theorem call_step (hn : NameOK P) (hh : HKok P ng hk) {ex : Code → Nat → T V → V → V → T O → Nat → KX → Bool} (hex : EXok P ng ex) : CKok P ng (callX P hk ex) := by
  intro g args h nx K Kp hk1 ρ w vs s hg hv
  unfold callX at hk1
  cases e : hk g with
  | some f => rw [e] at hk1; exact hh g f e args h nx K Kp hk1 ρ w vs s hg hv
  | none =>
    rw [e] at hk1
    have hk2 : enterK P ex g args (.b false) h nx (fun fn x tm D _ h nx => X.rec (motive := fun _ => Bool) (leaveK P ex fn tm K Kp D .nil h nx) (fun _ => false) (leaveK P ex fn tm K Kp D .nil h nx) (fun v => leaveK P ex fn tm K Kp D (.cons v .nil) h nx) x) = true := hk1
    obtain ⟨fn, c, tm, hf, hb, he, ht, hnt⟩ := enterK_sound hk2 hv
    intro o a next Q h1 h2
    rw [callFunc_enter hn hf hb, Oper.upon_enter]
    refine calls_of_wp_defers hf hb ?_
    refine WG.wp fun cs => ?_
    refine (hex c fn.ntmps tm .nil (.b false) h nx _ he false default cs ρ h w _ (fun ρ' z tm' D' U' h' nx' a' cs' w' hk s' x' g'' t' hn' hd' hu' => ?_) ρ (act0 fn ⟨vs⟩) cs w s (Ext.refl _ _ _) hg ht hnt (by simp [act0, DR]) ⟨rfl, rfl⟩).1
    obtain ⟨_, rfl⟩ := hu'
    have fin : ∀ U u, leaveK P ex fn tm' K Kp D' U h' nx' = true → UM ρ' U u → Leaves P fn a'.tmps (fun
        | .returned v, w'' => next (a.put o.dst v) w''
        | .panicked chain, w'' => Q (.panic chain) a w''
        | .outgrown, _ => LetsOut Q) a'.defers u w' := fun U u hk hu =>
      leave_sound hn hex (R := fun
        | .returned v, w'' => next (a.put o.dst v) w''
        | .panicked chain, w'' => Q (.panic chain) a w''
        | .outgrown, _ => LetsOut Q) h1 h2 D' U h' nx' ρ' a'.defers u w' hk s' x' g'' t' hd' hu
    cases z with
    | n => exact ⟨rfl, fin .nil .returning hk (by simp [UM])⟩
    | r => exact ⟨rfl, fin .nil .returning hk (by simp [UM])⟩
    | x id => exact Bool.noConfusion hk
    | pk v => exact fun y hy ch hc => ⟨rfl, fin (.cons v .nil) _ hk (by simp only [UM]; exact ⟨y, ch, hy, hc, rfl⟩)⟩
theorem exec_sound (hm : P.follows .mixedOrders = true) (hn : NameOK P) (hh : HKok P ng hk) : ∀ n, EXok P ng (exec P ng hk n)
  | 0 => fun _c _nt _tm _D _U _h _nx _k he => Bool.noConfusion he
  | n + 1 => exec_step hm (exec_sound hm hn hh n) (call_step hn hh (exec_sound hm hn hh n))
theorem run_sound (hm : P.follows .mixedOrders = true) (hn : NameOK P) (hh : HKok P ng hk) (n : Nat) : CKok P ng (run P ng hk n) :=
  call_step hn hh (exec_sound hm hn hh n)
end
end Go.Mx
