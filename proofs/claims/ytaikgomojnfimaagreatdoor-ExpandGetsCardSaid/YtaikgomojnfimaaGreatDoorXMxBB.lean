/-
  A part of a small executor of the model, proved sound (27 of 30). No condition.
-/
import Derived.Test.YtaikgomojnfimaaGreatDoorXMxAL
import Derived.Test.YtaikgomojnfimaaGreatDoorXMx16
namespace Go.Mx
open Instr Builtin RowKit
noncomputable section
variable {P : Program} {ng : Nat}
theorem calls_st (hn : NameOK P) {R : CK} (hR : CKok P ng R) {g : Nat} {fn : Func} {cd : Code} (hf : P.funcs[g]? = some fn) (hb : fn.body = some cd) {args : V} {vs : List Value} {K1 : KV} {ρ : Ren} {h : T O} {nx : Nat} {w : World}
    (s : St ρ h nx w) (gr : RG ng ρ) (hv : VRs ρ args vs) (hrun : R g args h nx K1 (fun _ _ _ => false) = true) :
    Calls P g ⟨vs⟩ w fun e w' => ∃ ρ' y v h' nx', e = .returned v ∧ VR ρ' y v ∧ St ρ' h' nx' w' ∧ K1 y h' nx' = true ∧ Ext ρ h w ρ' h' w' := by
  have up := hR g args h nx K1 (fun _ _ _ => false) hrun ρ w vs s gr hv
  let o : Oper := { (default : Oper) with dst := some 0 }
  let a : Act := { tmps := #[undef], defers := [] }
  have hh := up o a (fun a' w' => ∃ ρ' y v h' nx', a'.tmps[0]? = some v ∧ VR ρ' y v ∧ St ρ' h' nx' w' ∧ K1 y h' nx' = true ∧ Ext ρ h w ρ' h' w') (fun _ _ _ => False) (fun ρ' y h' nx' v w' hv' hs hx hky => ?_) (fun ρ' y h' nx' v w' _ _ _ hky => Bool.noConfusion hky)
  · rw [callFunc_enter hn hf hb, Oper.upon_enter] at hh
    refine hh.mono fun e W' hr => ?_
    cases e with
    | returned v =>
      obtain ⟨ρ', y, v2, h', nx', h1, h2, h3, h4, h5⟩ := hr
      have : v = v2 := by simpa [Act.put, o, a] using h1
      exact ⟨ρ', y, v2, h', nx', by rw [this], h2, h3, h4, h5⟩
    | panicked c => exact hr.elim
    | outgrown => obtain ⟨_, _, hq⟩ := hr; exact hq.elim
  · exact ⟨ρ', y, v, h', nx', by simp [Act.put, o, a], hv', hs, hky, hx⟩
theorem st_leaf (W : World) : ∃ ρ : Ren, St ρ (.leaf : T O) ng W ∧ RG ng ρ := by
  have none0 : ∀ i, ¬ (gt O.none i (.leaf : T O)).live := fun i hi => by rw [gt_leaf] at hi; exact hi
  refine ⟨fun i => if i < ng then some ⟨i, 0, 0⟩ else none, ⟨fun id L hi _ => (none0 id hi).elim, fun i j L M hi _ _ _ _ => (none0 i (O.live_of_wr hi)).elim, fun i hi => ?_, fun i _ => none0 i⟩, fun i hi => ⟨⟨i, 0, 0⟩, by simp [hi], rfl, rfl⟩⟩
  have h1 : ¬ i < ng := by omega
  simp only [h1, if_false]
theorem stays_leaf {ρ ρ' : Ren} {h' : T O} {W W' : World} (x : Ext ρ (.leaf : T O) W ρ' h' W') : Stays W W' :=
  ⟨x.size, x.os, x.tape, x.output, fun b hb => (x.kept b hb fun id L hw _ => absurd (O.live_of_wr hw) (by rw [gt_leaf]; exact fun h => h)).1⟩
def entK (es : E) (k : V → V → E → Bool) : Bool := match es with
  | .cons x v _ r => k x v r
  | .nil => false
theorem entK_spec {es : E} {k : V → V → E → Bool} (h : entK es k = true) : ∃ x v b r, es = .cons x v b r ∧ k x v r = true := by
  cases es <;> first | exact Bool.noConfusion h | exact ⟨_, _, _, _, rfl, h⟩
def entN (es : E) : Bool := match es with
  | .nil => true
  | .cons _ _ _ _ => false
theorem entN_spec {es : E} (h : entN es = true) : es = .nil := by
  cases es <;> first | exact Bool.noConfusion h | rfl
def vSl1 (v : V) (k : Nat → Nat → Bool) : Bool := match v with
  | .sl id off ln _ => ite1 (Nat.beq ln 1) (k id off)
  | _ => false
theorem vSl1_spec {v : V} {k : Nat → Nat → Bool} (h : vSl1 v k = true) : ∃ id off sz, v = .sl id off 1 sz ∧ k id off = true := by
  cases v <;> first | exact Bool.noConfusion h | skip
  obtain ⟨e1, e2⟩ := ite1_spec h
  have e1 := Nat.eq_of_beq_eq_true e1
  subst e1
  exact ⟨_, _, _, rfl, e2⟩
def fsK (id off : Nat) (k : T O → E → Bool) : KV := fun _ h _ => oC (gt O.none id h) fun l _ _ => nthK l off fun m => vM m fun mid => oM (gt O.none mid h) fun es _ => k h es
def fileK (name : List Nat) (b t : Nat) (k : E → Bool) (h : T O) (es : E) : Bool := entK es fun x v r => ite1 (sameV x (.s name)) <| vA v fun l => nthK l 1 fun d => vSl1 d fun did doff => ite1 (sameV l (.cons (.b false) (.cons d (.cons (.i .i64 (Int.ofNat t)) .nil)))) <| oC (gt O.none did h) fun c _ _ => nthK c doff fun y => ite1 (sameV y (.i .u8 (Int.ofNat b))) (k r)
def dirK (name : List Nat) (t : Nat) (k : E → Bool) (es : E) : Bool := entK es fun x v r => ite1 (sameV x (.s name)) <| ite1 (sameV v (.a (.cons (.b true) (.cons .sn (.cons (.i .i64 (Int.ofNat t)) .nil))))) (k r)
theorem cell_of {w : World} {b i : Nat} {arr : Array Value} {ty : TypeId} {fz : Nat × Nat} (hh : w.heap[b]? = some (.cells arr ty fz)) : w.cell? ⟨b, i, none⟩ = arr[i]? := by
  unfold World.cell?
  simp [hh]
theorem fs_out {ρ : Ren} {h : T O} {nx : Nat} {w : World} {id off : Nat} {k : T O → E → Bool} {y : V} {n2 : Nat} (hk : fsK id off k y h n2 = true) (s : St ρ h nx w) {v : Value} (hv : VR ρ (.p id off) v) :
    ∃ fb fo mb es clock E, v = .pointer (some ⟨fb, fo, none⟩) ∧ fb < w.heap.size ∧ w.cell? ⟨fb, fo, none⟩ = some (.map (some mb)) ∧ w.heap[mb]? = some (.map es clock) ∧ ER ρ E es.toList ∧ k h E = true := by
  obtain ⟨l, ty, wr, ho, hk⟩ := oC_spec (show oC (gt O.none id h) _ = true from hk)
  obtain ⟨m, hk, hm⟩ := nthK_spec hk
  obtain ⟨L, arr, fz, hL, rfl, hh, hs, _, hb, hc⟩ := s.at ho hv
  obtain ⟨mv, h1, h2⟩ := hm ρ _ hc
  obtain ⟨mid, rfl, hk⟩ := vM_spec hk
  obtain ⟨E, cl, hoM, hk⟩ := oM_spec hk
  obtain ⟨M, es', hM, rfl, hhm, her⟩ := s.map hoM h2
  rw [List.getElem?_drop, Array.getElem?_toList] at h1
  exact ⟨L.blk, L.base + off, M.blk, es', cl, E, rfl, (Array.getElem?_eq_some_iff.1 hh).1, by rw [cell_of hh]; exact h1, hhm, her, hk⟩
theorem file_out {ρ : Ren} {h : T O} {nx : Nat} {w : World} {name : List Nat} {b t : Nat} {k : E → Bool} {E : E} {l : List MapEntry} (hk : fileK name b t k h E = true) (s : St ρ h nx w) (her : ER ρ E l) :
    ∃ x r E' a cap, l = x :: r ∧ x.key = .string (bs name) ∧ x.val = .agg #[.bool false, .slice (some a) 1 cap, .int .i64 (t : Int)] ∧ a.block < w.heap.size ∧ w.cell? (a.add 0) = some (.int .u8 (b : Int)) ∧ ER ρ E' r ∧ k E' = true := by
  obtain ⟨xk, v, bo, r, hE, hk1⟩ := entK_spec (show entK E _ = true from hk)
  obtain ⟨e1, hk2⟩ := ite1_spec hk1
  have e1' := sameV_eq e1
  obtain ⟨vl, hv, hk3⟩ := vA_spec hk2
  obtain ⟨d, hk4, _⟩ := nthK_spec hk3
  obtain ⟨did, doff, sz, hd, hk5⟩ := vSl1_spec hk4
  obtain ⟨e2, hk6⟩ := ite1_spec hk5
  have e2' := sameV_eq e2
  obtain ⟨c, ty, wr, ho, hk7⟩ := oC_spec hk6
  obtain ⟨y, hk8, hy⟩ := nthK_spec hk7
  obtain ⟨e3, hk9⟩ := ite1_spec hk8
  have e3' := sameV_eq e3
  rw [hE] at her
  rw [e1', hv, e2', hd] at her
  rw [e3'] at hy
  simp only [ER] at her
  obtain ⟨x, xs, rfl, g1, g2, _, g4⟩ := her
  simp only [VR] at g1
  simp only [VR, VRs] at g2
  obtain ⟨vs, ⟨y0, ys, rfl, rfl, y1, ys1, rfl, ⟨L, cap, hL, hc1, hc2, rfl⟩, y2, ys2, rfl, rfl, rfl⟩, gv⟩ := g2
  obtain ⟨o, h2, h3⟩ := s.relC ho hL
  obtain ⟨arr, fz, rfl, _, _, _, h7⟩ := h3
  obtain ⟨yv, h8, h9⟩ := hy ρ _ h7
  simp only [VR] at h9
  subst h9
  rw [List.getElem?_drop, Array.getElem?_toList] at h8
  refine ⟨x, xs, r, _, cap, rfl, g1.1, gv, (Array.getElem?_eq_some_iff.1 h2).1, ?_, g4, hk9⟩
  rw [Addr.add_lit, cell_of h2, Nat.add_zero]
  exact h8
theorem dir_out {ρ : Ren} {name : List Nat} {t : Nat} {k : E → Bool} {E : E} {l : List MapEntry} (hk : dirK name t k E = true) (her : ER ρ E l) :
    ∃ x r E', l = x :: r ∧ x.key = .string (bs name) ∧ x.val = .agg #[.bool true, .slice none 0 0, .int .i64 (t : Int)] ∧ ER ρ E' r ∧ k E' = true := by
  obtain ⟨xk, v, bo, r, hE, hk1⟩ := entK_spec (show entK E _ = true from hk)
  obtain ⟨e1, hk2⟩ := ite1_spec hk1
  have e1' := sameV_eq e1
  obtain ⟨e2, hk3⟩ := ite1_spec hk2
  have e2' := sameV_eq e2
  rw [hE, e1', e2'] at her
  simp only [ER] at her
  obtain ⟨x, xs, rfl, g1, g2, _, g4⟩ := her
  simp only [VR] at g1
  simp only [VR, VRs] at g2
  obtain ⟨vs, ⟨y0, ys, rfl, rfl, y1, ys1, rfl, rfl, y2, ys2, rfl, rfl, rfl⟩, gv⟩ := g2
  exact ⟨x, xs, r, rfl, g1.1, gv, g4, hk3⟩
theorem none_out {ρ : Ren} {E : E} {l : List MapEntry} (hk : entN E = true) (her : ER ρ E l) : l = [] := by
  rw [entN_spec hk] at her
  simpa only [ER] using her
end
end Go.Mx
