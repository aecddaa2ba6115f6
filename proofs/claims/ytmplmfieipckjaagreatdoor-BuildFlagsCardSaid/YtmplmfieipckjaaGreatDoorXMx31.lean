/-
  A part of a small executor of the model, proved sound (Mx31 of 46). No condition.
-/
import Derived.Test.YtmplmfieipckjaaGreatDoorXMx30
namespace Go.Mx
def opsG (P : Program) (dk : Bool) (ops : Array Oper) (Q : Exit → Act → List Frame → World → Prop) (l : List Nat) (a : Act) (cs : List Frame) (w : World) : Prop :=
  match dk with
  | true => wpOpsS P ops Q l a cs w
  | false => wpOps P ops (fun e a w => Q e a cs w) l a w
section
variable {P : Program} {dk : Bool} {ops : Array Oper} {Q : Exit → Act → List Frame → World → Prop} {a : Act} {cs : List Frame} {w : World} {i : Nat} {rest : List Nat} {o : Oper}
theorem opsG.region {id : Nat} (h : opsG P dk ops Q (List.range ops.size) a cs w) : WG P dk (.region id ops false) Q a cs w := by
  cases dk with
  | true => intro b k hb; exact wpS_region h b k (hb rfl).1 (hb rfl).2
  | false => exact .of_wp (wp_region h)
theorem opsG.nil (h : Q .normal a cs w) : opsG P dk ops Q [] a cs w := by cases dk <;> exact h
theorem opsG.run (hi : ops[i]? = some o) (hw : Region.wanted o (yielded ops a.tmps) = true)
    (h : o.upon P a (fun a' w' => opsG P dk ops Q rest a' cs w') (fun e a' w' => Q e a' cs w') ((execOp a.eval o).run P w)) : opsG P dk ops Q (i :: rest) a cs w := by
  cases dk with
  | true =>
    show wpOpsS P ops Q (i :: rest) a cs w
    simp only [wpOpsS, hi, hw, if_true]
    generalize (execOp a.eval o).run P w = r at h
    split
    · exact h.elim
    · exact h
  | false =>
    show wpOps P ops _ (i :: rest) a w
    simp only [wpOps, hi, hw, if_true]
    exact .inl h
theorem opsG.skip (hi : ops[i]? = some o) (hw : Region.wanted o (yielded ops a.tmps) = false) (h : opsG P dk ops Q rest (a.put o.dst undef) cs w) : opsG P dk ops Q (i :: rest) a cs w := by
  cases dk with
  | true =>
    show wpOpsS P ops Q (i :: rest) a cs w
    simp only [wpOpsS, hi, hw, Bool.false_eq_true, if_false]
    exact h
  | false =>
    show wpOps P ops _ (i :: rest) a w
    simp only [wpOps, hi, hw, Bool.false_eq_true, if_false]
    exact h
theorem opsG.recover (hi : ops[i]? = some o) (hw : Region.wanted o (yielded ops a.tmps) = true) {w' : World} (hr : (execOp a.eval o).run P w = .ok .recover w')
    (h1 : ∀ v cs', recoverD cs = some (v, cs') → opsG P true ops Q rest (a.put o.dst v) cs' w') (h2 : recoverD cs = none → opsG P true ops Q rest (a.put o.dst .nilIface) cs w') : opsG P true ops Q (i :: rest) a cs w := by
  show wpOpsS P ops Q (i :: rest) a cs w
  simp only [wpOpsS, hi, hw, if_true, hr]
  split
  · rename_i v cs' h; exact h1 v cs' h
  · rename_i h; exact h2 h
end
end Go.Mx
