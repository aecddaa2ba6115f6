/-
  A part of a small executor of the model, proved sound (Mx35 of 46). No condition.
-/
import Derived.Test.YtmplmfieipckjaaGreatDoorXMx34
namespace Go.Mx
open Instr Builtin
noncomputable section
variable {P : Program} {ρ : Ren} {h : T O} {nx : Nat} {w : World} {ng : Nat} {hk : Nat → Option (V → T O → Nat → KV → Bool)}
def resS (tmps : Array Value) : ResultVar → Sem Value
  | .tmp t => pure (tmps.getD t undef)
  | .cell a t => do loadVar t (← asAddr (tmps.getD a undef))
theorem resK_sound {tm : T V} {a : Act} (s : St ρ h nx w) (ht : TR ρ tm a) : ∀ (l : List ResultVar) (K : V → Bool), resK P l tm h K = true →
    ∃ c vs, K c = true ∧ VRs ρ c vs ∧ (l.mapM (resS a.tmps)).run P w = .ok vs w := by
  intro l
  induction l with
  | nil => intro K hk; exact ⟨.nil, [], hk, by simp [VRs], by simp⟩
  | cons r l ih =>
    intro K hk
    cases r with
    | tmp t =>
      obtain ⟨c, vs, h1, h2, h3⟩ := ih (fun c => K (.cons (gt V.nil t tm) c)) hk
      refine ⟨_, a.tmps.getD t undef :: vs, h1, ?_, ?_⟩
      · simp only [VRs]; exact ⟨_, _, rfl, ht t, h2⟩
      · simp only [List.mapM_cons, resS, Sem.run_bind, Sem.run_pure, Result.andThen_ok, h3]
    | cell x t =>
      have hk2 : opLoad P t (gt V.nil x tm) h (fun v => resK P l tm h fun c => K (.cons v c)) = true := hk
      obtain ⟨y, r, h1, h2, h3⟩ := opLoad_sound hk2 s (ht x)
      obtain ⟨id, off, hx, _⟩ := vP_spec hk2
      have hv := ht x
      rw [hx] at hv
      simp only [VR] at hv
      obtain ⟨L, _, he⟩ := hv
      obtain ⟨c, vs, h4, h5, h6⟩ := ih (fun c => K (.cons y c)) h1
      refine ⟨_, r :: vs, h4, ?_, ?_⟩
      · simp only [VRs]; exact ⟨_, _, rfl, h2, h5⟩
      · rw [he] at h3
        simp only [loadAt, sureAddr, Sem.run_bind, Sem.run_pure, Result.andThen_ok] at h3
        simp only [List.mapM_cons, resS, he, asAddr, Sem.run_bind, Sem.run_pure, Result.andThen_ok, h3, h6]
theorem results_run {fn : Func} {tmps : Array Value} {vs : List Value} (h : (fn.results.toList.mapM (resS tmps)).run P w = .ok vs w) :
    (results fn tmps).run P w = .ok (if h : vs.toArray.size = 1 then vs.toArray[0] else .tuple vs.toArray) w := by
  have e : results fn tmps = (do let vs ← fn.results.mapM (resS tmps); pure (if h : vs.size = 1 then vs[0] else .tuple vs)) := by
    unfold results
    congr 1
  rw [e, Array.mapM_eq_mapM_toList]
  simp only [Sem.run_bind, map_eq_pure_bind, h, Result.andThen_ok, Sem.run_pure]
theorem tupK_sound {c : V} {vs : List Value} {K : V → Bool} (hk : tupK c K = true) (hc : VRs ρ c vs) :
    ∃ x, K x = true ∧ VR ρ x (if h : vs.toArray.size = 1 then vs.toArray[0] else .tuple vs.toArray) := by
  cases c <;> try (simp only [VRs] at hc; done)
  case nil =>
    simp only [VRs] at hc
    subst hc
    exact ⟨_, hk, by simp [VR, VRs]⟩
  case cons x r =>
    have hc2 := hc
    simp only [VRs] at hc2
    obtain ⟨y, ys, rfl, h1, h2⟩ := hc2
    cases r <;> try (simp only [VRs] at h2; done)
    case nil =>
      simp only [VRs] at h2
      subst h2
      exact ⟨x, hk, by simpa using h1⟩
    case cons x' r' =>
      have h3 := h2
      simp only [VRs] at h3
      obtain ⟨y', ys', rfl, h4, h5⟩ := h3
      refine ⟨.t (.cons x (.cons x' r')), hk, ?_⟩
      rw [dif_neg (by simp)]
      simp only [VR]
      exact ⟨_, hc, rfl⟩
theorem initK_sound : ∀ (args : V) (vs pre post : List Value) (tm : T V) (K : T V → Bool), VRs ρ args vs →
    (∀ t, VR ρ (gt V.nil t tm) ((pre ++ (vs ++ post)).toArray.getD t undef)) → initK args pre.length tm K = true →
    ∃ tm', K tm' = true ∧ ∀ t, VR ρ (gt V.nil t tm') ((pre ++ (vs ++ post)).toArray.getD t undef) := by
  intro args
  induction args with
  | nil => intro vs pre post tm K _ ht hk; exact ⟨tm, hk, ht⟩
  | cons x r _ ih =>
    intro vs pre post tm K hv ht hk
    simp only [VRs] at hv
    obtain ⟨y, ys, rfl, h1, h2⟩ := hv
    have hk2 : stK V.nil x pre.length tm (fun tm' => initK r (Nat.succ pre.length) tm' K) = true := hk
    rw [stK_eq] at hk2
    have e : pre ++ (y :: ys ++ post) = (pre ++ [y]) ++ (ys ++ post) := by simp
    rw [e] at ht ⊢
    refine ih ys (pre ++ [y]) post _ K h2 (fun t => ?_) (by simpa using hk2)
    by_cases et : pre.length = t
    · subst et
      rw [gt_st_same]
      simpa using h1
    · rw [gt_st_ne _ _ et]
      exact ht t
  | _ => intro vs pre post tm K hv; simp only [VRs] at hv
def act0 (fn : Func) (args : Array Value) : Act := { tmps := args ++ Array.replicate (fn.ntmps - args.size) undef, defers := [] }
theorem enterK_sound {ex : Code → Nat → T V → V → V → T O → Nat → KX → Bool} {g : Nat} {args U : V} {vs : List Value} {k : Func → KX}
    (he : enterK P ex g args U h nx k = true) (hv : VRs ρ args vs) :
    ∃ fn c tm, P.funcs[g]? = some fn ∧ fn.body = some c ∧ ex c fn.ntmps tm .nil U h nx (k fn) = true ∧ TR ρ tm (act0 fn ⟨vs⟩) ∧ fn.ntmps ≤ (act0 fn ⟨vs⟩).tmps.size := by
  unfold enterK at he
  cases hf : P.funcs[g]? with
  | none => rw [hf] at he; exact Bool.noConfusion he
  | some fn =>
    rw [hf] at he
    cases hb : fn.body with
    | none => replace he : (Option.rec (motive := fun _ => Bool) false (fun c => initK args 0 .leaf fun tm => ex c fn.ntmps tm .nil U h nx (k fn)) fn.body) = true := he
              rw [hb] at he; exact Bool.noConfusion he
    | some c =>
      replace he : (Option.rec (motive := fun _ => Bool) false (fun c => initK args 0 .leaf fun tm => ex c fn.ntmps tm .nil U h nx (k fn)) fn.body) = true := he
      rw [hb] at he
      obtain ⟨tm, h1, h2⟩ := initK_sound (ρ := ρ) args vs [] (List.replicate (fn.ntmps - vs.length) undef) .leaf _ hv (fun t => by rw [gt_leaf]; simp only [VR]) he
      refine ⟨fn, c, tm, rfl, hb, h1, fun t => ?_, ?_⟩
      · have := h2 t
        have e : (act0 fn ⟨vs⟩).tmps = ([] ++ (vs ++ List.replicate (fn.ntmps - vs.length) undef)).toArray := by
          apply Array.ext'; simp [act0]
        rw [e]; exact this
      · simp [act0]; omega
end
end Go.Mx
