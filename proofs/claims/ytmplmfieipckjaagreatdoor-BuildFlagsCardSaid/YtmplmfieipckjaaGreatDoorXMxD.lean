/-
  A part of a small executor of the model, proved sound (MxD of 46). No condition.
-/
import Derived.Test.YtmplmfieipckjaaGreatDoorXMx29
namespace Go.Mx
noncomputable section
variable {P : Program} {ng nt : Nat} {ck : CK} {ops : Array Oper} {Kp : KV} {kfin : T V → T O → Nat → Bool}
theorem ite1_false (c : Bool) : ite1 c false = false := by cases c <;> rfl
theorem ite1_and (a b : Bool) (x : Bool) : ite1 a (ite1 b x) = ite1 (ite1 a b) x := by cases a <;> rfl
theorem ite1_and5 (a b c d e x : Bool) : ite1 (ite1 a (ite1 b (ite1 c (ite1 d (ite1 e true))))) x = ite1 a (ite1 b (ite1 c (ite1 d (ite1 e x)))) := by
  cases a <;> cases b <;> cases c <;> cases d <;> cases e <;> rfl
theorem addK_eq {war : Bool} {i : Nat} {o : Oper} {d : DS} {k : DS → Bool} : addK ops war i o d k = ite1 (addC ops war i o d) (k (addD ops i o d)) := by
  obtain ⟨dst, op, ty, pos, after, guard⟩ := o
  obtain ⟨dn, dl, dd, mt, dt⟩ := d
  simp only [addK, forceN_eq, stK_eq, addC, addD, ite1_and5]
theorem addK_fail {war : Bool} {i : Nat} {o : Oper} {d : DS} {k : DS → Bool} (h : addC ops war i o d = false) : addK ops war i o d k = false := by rw [addK_eq, h]; rfl
theorem addK_ok {war : Bool} {i : Nat} {o : Oper} {d : DS} {k : DS → Bool} (h : addC ops war i o d = true) : addK ops war i o d k = k (addD ops i o d) := by rw [addK_eq, h]; rfl
theorem want_ff (tm : T V) (g : Option (Nat × Bool)) : wantK ops tm g false false = false := by
  rcases wantK_cases ops tm g with h | h | h <;> rw [h]
theorem opK_ff {tm : T V} {h : T O} {nx : Nat} {o : Oper} (hc : clsOp P o.op < 2) : opK P ng ck tm o.op h nx (fun _ _ _ => false) (fun _ _ _ => false) = false := by
  cases e : opK P ng ck tm o.op h nx (fun _ _ _ => false) (fun _ _ _ => false) with
  | false => rfl
  | true =>
    rcases Nat.lt_or_ge (clsOp P o.op) 1 with h1 | h1
    · rcases opK_lin (ng := ng) (ck := ck) (tm := tm) (h := h) (show clsOp P o.op = 0 by omega) with g | ⟨y, g⟩
      · exact Bool.noConfusion ((g nx (fun _ _ _ => false)).symm.trans e)
      · exact Bool.noConfusion ((g nx (fun _ _ _ => false)).symm.trans e)
    · obtain ⟨mk, ob, m, _⟩ := opK_makes (show clsOp P o.op = 1 by omega) e
      rw [m.1] at e; cases e
theorem againK_eq {dn M : Nat} {tm : T V} {h : T O} {nx : Nat} {k : Bool} : ∀ (l : List Oper) (i : Nat), againK P ng ck ops sameV dn M tm h nx l i k = againL P ng ck ops tm h nx (agF dn M l i) k := by
  intro l
  induction l with
  | nil => intro i; rfl
  | cons o l ih =>
    intro i
    have e1 : againK P ng ck ops sameV dn M tm h nx (o :: l) i k = (Bool.rec (againK P ng ck ops sameV dn M tm h nx l (Nat.succ i) k)
      (wantK ops tm o.guard (ite1 (Nat.rec (motive := fun _ => Bool) (opK P ng ck tm o.op h nx (fun y _ _ => Option.rec (motive := fun _ => Bool) true (fun t => sameV y (gt V.nil t tm)) o.dst) (fun _ _ _ => false)) (fun _ _ => true) (clsOp P o.op)) <| againK P ng ck ops sameV dn M tm h nx l (Nat.succ i) k) (againK P ng ck ops sameV dn M tm h nx l (Nat.succ i) k))
      (ite1 (tb dn i) <| inot (tb M i)) : Bool) := rfl
    have e2 : agF dn M (o :: l) i = (Bool.rec (agF dn M l (Nat.succ i)) (o :: agF dn M l (Nat.succ i)) (ite1 (tb dn i) <| inot (tb M i)) : List Oper) := rfl
    rw [e1, e2]
    cases (ite1 (tb dn i) <| inot (tb M i)) with
    | false => exact ih _
    | true => rw [ih]; rfl
abbrev rp (P : Program) (ng : Nat) (ck : CK) (nt : Nat) (ops : Array Oper) (Kp : KV) (kfin : T V → T O → Nat → Bool) (p : Plan) (tm : T V) (h : T O) (nx : Nat) : Bool := runP p P ng ck nt ops Kp kfin tm h nx
theorem addP_run {war : Bool} {i : Nat} {o : Oper} {d : DS} {k : DS → Plan} {tm : T V} {h : T O} {nx : Nat} : rp P ng ck nt ops Kp kfin (addP ops war i o d k) tm h nx = ite1 (addC ops war i o d) (rp P ng ck nt ops Kp kfin (k (addD ops i o d)) tm h nx) := by
  unfold addP
  cases addC ops war i o d <;> rfl
theorem putTK_false {dst : Option Nat} {x : V} {tm : T V} : putTK nt dst x tm (fun _ => false) = false := by
  cases e : putTK nt dst x tm (fun _ => false) with
  | false => rfl
  | true => obtain ⟨_, h, _⟩ := putTK_spec e; cases h
theorem passP_run {kP : DS → Plan} {kD : DS → T V → T O → Nat → Bool} (hk : ∀ d tm h nx, rp P ng ck nt ops Kp kfin (kP d) tm h nx = kD d tm h nx) :
    ∀ (l : List Oper) (i : Nat) (d : DS) (tm : T V) (h : T O) (nx : Nat), rp P ng ck nt ops Kp kfin (passP P ops l i d kP) tm h nx = passK P ng ck nt ops l i d tm h nx kD := by
  intro l
  induction l with
  | nil => intro i d tm h nx; exact hk d tm h nx
  | cons o l ih =>
    intro i d tm h nx
    have e1 : passK P ng ck nt ops (o :: l) i d tm h nx kD = procK P ng ck nt ops i o d tm h nx (fun d tm h nx => passK P ng ck nt ops l (Nat.succ i) d tm h nx kD) := rfl
    have e2 : passP P ops (o :: l) i d kP = (Bool.rec
      (Nat.rec (motive := fun _ => Plan) (Option.rec (motive := fun _ => Plan) (passP P ops l (Nat.succ i) d kP) (fun _ => .gd o (passP P ops l (Nat.succ i) d kP) (addP ops false i o d fun d => passP P ops l (Nat.succ i) d kP)) o.guard)
        (fun _ _ => addP ops false i o d fun d => .pur o (passP P ops l (Nat.succ i) d kP)) (Nat.sub 2 (clsOp P o.op)))
      (passP P ops l (Nat.succ i) d kP) (ior (tb d.dn i) (ior (inot (predsIn d.dn i o.after.toList)) (inot (Nat.beq (Nat.land (dstM o.dst) d.dl) 0)))) : Plan) := rfl
    have ihf : ∀ d, (fun tm h nx => rp P ng ck nt ops Kp kfin (passP P ops l (Nat.succ i) d kP) tm h nx) = fun tm h nx => passK P ng ck nt ops l (Nat.succ i) d tm h nx kD := fun d => by
      funext tm h nx; exact ih _ _ _ _ _
    rw [e1, e2]
    unfold procK
    cases (ior (tb d.dn i) (ior (inot (predsIn d.dn i o.after.toList)) (inot (Nat.beq (Nat.land (dstM o.dst) d.dl) 0)))) with
    | true => exact ih _ _ _ _ _
    | false =>
      show rp P ng ck nt ops Kp kfin (Nat.rec (motive := fun _ => Plan) _ _ (Nat.sub 2 (clsOp P o.op))) tm h nx = wantK ops tm o.guard (Nat.rec (motive := fun _ => Bool) _ _ (Nat.sub 2 (clsOp P o.op))) _
      cases hc : Nat.sub 2 (clsOp P o.op) with
      | zero =>
        cases hg : o.guard with
        | none => exact ih _ _ _ _ _
        | some g =>
          show wantK ops tm o.guard (rp P ng ck nt ops Kp kfin (passP P ops l (Nat.succ i) d kP) tm h nx) (putTK nt o.dst undefV tm fun tm => rp P ng ck nt ops Kp kfin (addP ops false i o d fun d => passP P ops l (Nat.succ i) d kP) tm h nx) = _
          rw [hg, ih]
          congr 1
          cases ha : addC ops false i o d with
          | false =>
            rw [addK_fail ha]
            have : (fun tm => rp P ng ck nt ops Kp kfin (addP ops false i o d fun d => passP P ops l (Nat.succ i) d kP) tm h nx) = fun _ => false := by
              funext tm; rw [addP_run, ha]; rfl
            rw [this, putTK_false]
          | true =>
            rw [addK_ok ha]
            congr 1
            funext tm
            rw [addP_run, ha]
            exact ih _ _ _ _ _
      | succ m =>
        show rp P ng ck nt ops Kp kfin (addP ops false i o d fun d => .pur o (passP P ops l (Nat.succ i) d kP)) tm h nx = wantK ops tm o.guard (opK P ng ck tm o.op h nx (fun x h nx => addK ops false i o d fun d => putTK nt o.dst x tm fun tm => passK P ng ck nt ops l (Nat.succ i) d tm h nx kD) (fun _ _ _ => false)) (addK ops false i o d fun d => putTK nt o.dst undefV tm fun tm => passK P ng ck nt ops l (Nat.succ i) d tm h nx kD)
        rw [addP_run]
        cases ha : addC ops false i o d with
        | false =>
          rw [addK_fail ha]
          have : (fun (x : V) (h : T O) (nx : Nat) => addK ops false i o d fun d => putTK nt o.dst x tm fun tm => passK P ng ck nt ops l (Nat.succ i) d tm h nx kD) = fun _ _ _ => false := by
            funext x h nx; exact addK_fail ha
          rw [this, opK_ff (by have : 2 - clsOp P o.op = m + 1 := hc; omega), want_ff]
          rfl
        | true =>
          rw [addK_ok ha]
          have : (fun (x : V) (h : T O) (nx : Nat) => addK ops false i o d fun d => putTK nt o.dst x tm fun tm => passK P ng ck nt ops l (Nat.succ i) d tm h nx kD) = fun x h nx => putTK nt o.dst x tm fun tm => passK P ng ck nt ops l (Nat.succ i) (addD ops i o d) tm h nx kD := by
            funext x h nx; exact addK_ok ha
          rw [this]
          show wantK ops tm o.guard (opK P ng ck tm o.op h nx (fun x h nx => putTK nt o.dst x tm fun tm => rp P ng ck nt ops Kp kfin (passP P ops l (Nat.succ i) (addD ops i o d) kP) tm h nx) (fun _ _ _ => false)) (putTK nt o.dst undefV tm fun tm => rp P ng ck nt ops Kp kfin (passP P ops l (Nat.succ i) (addD ops i o d) kP) tm h nx) = _
          simp only [ih]
theorem sweepP_run {dn : Nat} {tm : T V} {h : T O} {nx : Nat} : ∀ (l : List Oper) (i : Nat) (a b : Plan) (k1 : Nat → Oper → Plan) (k2 : Nat → Oper → Nat → Oper → Plan),
    rp P ng ck nt ops Kp kfin (sweepP dn l i a b k1 k2) tm h nx = sweepK dn l i (rp P ng ck nt ops Kp kfin a tm h nx) (rp P ng ck nt ops Kp kfin b tm h nx) (fun i o => rp P ng ck nt ops Kp kfin (k1 i o) tm h nx) (fun i o j o2 => rp P ng ck nt ops Kp kfin (k2 i o j o2) tm h nx) := by
  intro l
  induction l with
  | nil => intro i a b k1 k2; rfl
  | cons o l ih =>
    intro i a b k1 k2
    have e1 : sweepP dn (o :: l) i a b k1 k2 = (Bool.rec (Bool.rec (sweepP dn l (Nat.succ i) (k1 i o) (k1 i o) (k2 i o) fun _ _ _ _ => .fail) (sweepP dn l (Nat.succ i) b b k1 k2) (lacks dn o.after.toList)) (sweepP dn l (Nat.succ i) a b k1 k2) (tb dn i) : Plan) := rfl
    have e2 : ∀ (x y : Bool) (q1 : Nat → Oper → Bool) (q2 : Nat → Oper → Nat → Oper → Bool), sweepK dn (o :: l) i x y q1 q2 = (Bool.rec (Bool.rec (sweepK dn l (Nat.succ i) (q1 i o) (q1 i o) (q2 i o) fun _ _ _ _ => false) (sweepK dn l (Nat.succ i) y y q1 q2) (lacks dn o.after.toList)) (sweepK dn l (Nat.succ i) x y q1 q2) (tb dn i) : Bool) := fun _ _ _ _ => rfl
    rw [e1, e2]
    cases tb dn i with
    | true => exact ih _ _ _ _ _
    | false =>
      cases lacks dn o.after.toList with
      | true => exact ih _ _ _ _ _
      | false => exact ih _ _ _ _ _
theorem drawP_run : ∀ (s : Nat) (d : DS) (tm : T V) (h : T O) (nx : Nat), rp P ng ck nt ops Kp kfin (drawP P ops s d) tm h nx = drawK P ng ck nt ops Kp kfin s d tm h nx := by
  intro s
  induction s with
  | zero => intro d tm h nx; rfl
  | succ s ih =>
    intro d tm h nx
    refine passP_run (kD := fun d tm h nx => sweepK d.dn ops.toList 0 (kfin tm h nx) false (fun i o => runE P ng ck nt ops i o d tm h nx (drawK P ng ck nt ops Kp kfin s) Kp) (fun i o j o2 => twoK P ng ck ops i o j o2 d tm h nx kfin)) (fun d tm h nx => ?_) ops.toList 0 d tm h nx
    rw [sweepP_run]
    have e : (fun i o => rp P ng ck nt ops Kp kfin (addP ops true i o d fun d' => .eff o (agF d.dn (gt 0 i d'.mt) ops.toList 0) (drawP P ops s d')) tm h nx) = fun i o => runE P ng ck nt ops i o d tm h nx (drawK P ng ck nt ops Kp kfin s) Kp := by
      funext i o
      rw [addP_run]
      unfold runE
      cases ha : addC ops true i o d with
      | false => rw [addK_fail ha, want_ff]; rfl
      | true =>
        rw [addK_ok ha]
        show wantK ops tm o.guard (opK P ng ck tm o.op h nx (fun v h nx => putTK nt o.dst v tm fun tm => againL P ng ck ops tm h nx (agF d.dn (gt 0 i (addD ops i o d).mt) ops.toList 0) (rp P ng ck nt ops Kp kfin (drawP P ops s (addD ops i o d)) tm h nx)) Kp) false = _
        simp only [ih, againK_eq]
    have e2 : (fun i o j o2 => rp P ng ck nt ops Kp kfin (.two i o j o2 d) tm h nx) = fun i o j o2 => twoK P ng ck ops i o j o2 d tm h nx kfin := rfl
    rw [← e]
    rfl
end
end Go.Mx
