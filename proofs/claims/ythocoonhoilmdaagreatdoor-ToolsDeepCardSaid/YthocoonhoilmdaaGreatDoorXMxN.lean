/-
  A part of a small executor of the model, proved sound (19 of 28). No condition.
-/
import Derived.Test.YthocoonhoilmdaaGreatDoorXMxL
import Derived.Lib.IndexAny
import Derived.Carry
namespace Go.Mx
noncomputable section
variable {P : Program} {ρ : Ren} {h : T O} {nx : Nat} {w : World} {ng : Nat}
theorem small_run (hm : P.follows .mixedOrders = true) (hn : NameOK P) {hk : Nat → Option HookF} (hh : HKok P ng hk) {N g : Nat} {args : V} {R : V → Bool} (hrun : run P ng hk N g args .leaf ng (fun v _ _ => R v) (fun _ _ _ => false) = true)
    {vs : List Value} (hv : VRs (fun _ => none) args vs) (gr : RG ng ρ) {o : Oper} {a : Act} {next : Act → World → Prop} {Q : Exit → Act → World → Prop}
    (h1 : ∀ ρ' y v w', R y = true → VR ρ' y v → Stays w w' → next (a.put o.dst v) w') : o.upon P a next Q ((callFunc g ⟨vs⟩).run P w) := by
  let ρr : Ren := fun i => if i < ng then ρ i else none
  have dead : ∀ i, ¬ (gt O.none i (.leaf : T O)).live := fun i hi => by rw [gt_leaf] at hi; exact hi
  have sr : St ρr .leaf ng w := ⟨fun id L hi _ => (dead id hi).elim, fun i j L M hi => (dead i (O.live_of_wr hi)).elim, fun i hi => by
    have : ¬ i < ng := by omega
    simp [ρr, this], fun i _ => dead i⟩
  have gr' : RG ng ρr := fun i hi => by
    obtain ⟨L, e1, e2, e3⟩ := gr i hi
    exact ⟨L, by simpa [ρr, hi] using e1, e2, e3⟩
  have up := run_sound hm hn hh N g args .leaf ng (fun v _ _ => R v) (fun _ _ _ => false) hrun ρr w vs sr gr' (hv.mono (fun i L e => by cases e))
  refine up o a next Q (fun ρ' y h' nx' v w' hv' _ hx hky => ?_) (fun ρ' y h' nx' v w' _ _ _ hky => Bool.noConfusion hky)
  exact h1 ρ' y v w' hky hv' ⟨hx.size, hx.os, hx.tape, hx.output, fun b hb => (hx.kept b hb fun id L hw _ => (dead id (O.live_of_wr hw)).elim).1⟩
def eqB (x : Bool) (v : V) : Bool := vB v fun b => bs_eq b x
theorem eqB_spec {x : Bool} {v : V} (h : eqB x v = true) : v = .b x := by
  obtain ⟨b, rfl, hb⟩ := vB_spec h
  rw [bs_eq_spec] at hb
  rw [eq_of_beq hb]
end
end Go.Mx
namespace Go.Mx
open Go.RowKit
noncomputable section
variable {P : Program} {ρ : Ren} {h : T O} {nx : Nat} {w : World} {ng : Nat}
def inAny (l2 h2 i2 : Nat) (cs : List Nat) (kn ks : Bool) : Bool := List.rec (motive := fun _ => Bool) kn (fun c _ ih => tri l2 h2 i2 c c 0 ih ks false) cs
def wanyK (cs : List Nat) (c : V) : Nat → (Int → Bool) → Bool := chain (M := Nat → (Int → Bool) → Bool) (fun _ k => k (Int.negSucc 0)) (fun x _ ih i k => rngK x fun _ l2 h2 i2 => ite1 (Nat.blt h2 128) <| inAny l2 h2 i2 cs (ih (Nat.succ i) k) (k (Int.ofNat i))) c
def ascB (l : List Nat) : Bool := List.rec (motive := fun _ => Bool) true (fun c _ ih => ite1 (Nat.blt c 128) ih) l
theorem ascB_spec : ∀ {l : List Nat}, ascB l = true → ∀ c ∈ l, c < 128
  | [], _ => by simp
  | c :: l, h => by
    obtain ⟨h1, h2⟩ := ite1_spec (show ite1 (Nat.blt c 128) (ascB l) = true from h)
    intro d hd
    rcases List.mem_cons.1 hd with rfl | hd
    · exact Nat.blt_eq.mp h1
    · exact ascB_spec h2 d hd
theorem inAny_spec {l2 h2 i2 : Nat} {kn ks : Bool} {c : UInt8} (hin : InR ρ l2 h2 i2 c.toNat) : ∀ {cs : List Nat}, (∀ n ∈ cs, n < 256) → inAny l2 h2 i2 cs kn ks = true → ((cs.map UInt8.ofNat).contains c = false ∧ kn = true) ∨ ((cs.map UInt8.ofNat).contains c = true ∧ ks = true)
  | [], _, h => .inl ⟨rfl, h⟩
  | n :: cs, hl, h => by
    have hn := hl n (List.mem_cons_self ..)
    rcases tri_spec (show tri l2 h2 i2 n n 0 (inAny l2 h2 i2 cs kn ks) ks false = true from h) hin (InR.lit ρ n) with ⟨hne, g⟩ | ⟨he, g⟩ | g
    · have e : (c == UInt8.ofNat n) = false := u8_ne hn hne
      rcases inAny_spec hin (fun m hm => hl m (List.mem_cons_of_mem _ hm)) g with ⟨g1, g2⟩ | ⟨g1, g2⟩
      · exact .inl ⟨by rw [List.map_cons, List.contains_cons, e, g1]; rfl, g2⟩
      · exact .inr ⟨by rw [List.map_cons, List.contains_cons, e, g1]; rfl, g2⟩
    · exact .inr ⟨by rw [List.map_cons, List.contains_cons, ← u8_eq he]; simp, g⟩
    · cases g
theorem wanyK_spec {cs : List Nat} (hl : ∀ n ∈ cs, n < 256) : ∀ {c : V} {bl : List UInt8} (i : Nat) {k : Int → Bool}, wanyK cs c i k = true → VRs ρ c (bl.map byteV) →
    (∀ d ∈ bl, d.toNat < 128 ∨ 0 ≤ Lib.indexAny bl (cs.map UInt8.ofNat)) ∧ k (let r := Lib.indexAny bl (cs.map UInt8.ofNat); if r < 0 then -1 else (i : Int) + r) = true := by
  intro c
  induction c with
  | nil =>
    intro bl i k hk hv
    simp only [VRs, List.map_eq_nil_iff] at hv
    subst hv
    exact ⟨by simp, hk⟩
  | cons x l _ ih =>
    intro bl i k hk hv
    simp only [VRs] at hv
    obtain ⟨v, vs, e, h1, h2⟩ := hv
    cases bl with
    | nil => cases e
    | cons d ds =>
      simp only [List.map_cons, List.cons.injEq] at e
      obtain ⟨rfl, rfl⟩ := e
      obtain ⟨kd, l2, h2', i2, hk2, hin⟩ := byte_cell (show (rngK x fun _ l2 h2 i2 => ite1 (Nat.blt h2 128) <| inAny l2 h2 i2 cs (wanyK cs l (Nat.succ i) k) (k (Int.ofNat i))) = true from hk) h1
      obtain ⟨e1, hk3⟩ := ite1_spec hk2
      have e1 := Nat.blt_eq.mp e1
      have hd : d.toNat < 128 := by have := hin.2.1; omega
      have hge := Lib.indexAny_ge (cs.map UInt8.ofNat) ds
      have ei : Lib.indexAny (d :: ds) (cs.map UInt8.ofNat) = if (cs.map UInt8.ofNat).contains d = true then 0 else if Lib.indexAny ds (cs.map UInt8.ofNat) == -1 then -1 else Lib.indexAny ds (cs.map UInt8.ofNat) + 1 := rfl
      rw [ei]
      rcases inAny_spec hin hl hk3 with ⟨hne, g⟩ | ⟨he, g⟩
      · obtain ⟨g1, g2⟩ := ih (i + 1) g h2
        rw [hne]
        generalize Lib.indexAny ds (cs.map UInt8.ofNat) = q at hge g1 g2
        refine ⟨fun b hb => ?_, ?_⟩
        · rcases List.mem_cons.1 hb with rfl | hb
          · exact .inl hd
          · rcases g1 b hb with g3 | g3
            · exact .inl g3
            · refine .inr ?_
              have : ¬ q = -1 := by omega
              simp [this]
              omega
        · by_cases hq : q = -1
          · subst hq; simpa using g2
          · have q1 : ¬ q < 0 := by omega
            have q2 : ¬ q + 1 < 0 := by omega
            simp only [q1, if_false] at g2
            simp only [Bool.false_eq_true, if_false, beq_iff_eq, hq, q2]
            have e3 : ((i + 1 : Nat) : Int) + q = (i : Int) + (q + 1) := by omega
            rwa [e3] at g2
      · rw [he]
        exact ⟨fun b _ => .inr (by simp), by simpa using g⟩
  | _ => intro bl i k hk hv; simp only [VRs] at hv
def asc7 (c : V) : Bool := chain true (fun x _ ih => Bool.rec false ih (rngK x fun _ _ hi _ => Nat.blt hi 128)) c
theorem asc7_spec : ∀ {c : V} {bl : List UInt8}, asc7 c = true → VRs ρ c (bl.map byteV) → ∀ d ∈ bl, d.toNat < 128 := by
  intro c
  induction c with
  | nil =>
    intro bl _ hv
    simp only [VRs, List.map_eq_nil_iff] at hv
    subst hv
    simp
  | cons x l _ ih =>
    intro bl hk hv
    simp only [VRs] at hv
    obtain ⟨v, vs, e, h1, h2⟩ := hv
    cases bl with
    | nil => cases e
    | cons d ds =>
      simp only [List.map_cons, List.cons.injEq] at e
      obtain ⟨rfl, rfl⟩ := e
      have hk' : (Bool.rec false (asc7 l) (rngK x fun _ _ hi _ => Nat.blt hi 128) : Bool) = true := hk
      cases e2 : (rngK x fun _ _ hi _ => Nat.blt hi 128) with
      | false => rw [e2] at hk'; exact Bool.noConfusion hk'
      | true =>
        rw [e2] at hk'
        obtain ⟨kd, lo, hi, i, g1, g2⟩ := byte_cell e2 h1
        have g1 := Nat.blt_eq.mp g1
        intro b hb
        rcases List.mem_cons.1 hb with rfl | hb
        · have := g2.2.1; omega
        · exact ih hk' h2 b hb
  | _ => intro bl hk hv; simp only [VRs] at hv
def hkIndexAny7 : HookF := fun args h nx K => arg0 args fun x r => arg0 r fun y r' => chain (strC x fun c => vS y fun cs => ite1 (ascB cs) <| ite1 (asc7 c) <| slenK cs 0 fun m => ite1 (Nat.ble m 1000) <| lenK c 0 fun n => ite1 (Nat.ble n 1000000) <| wanyK cs c 0 fun j => K (.i .i64 j) h nx) (fun _ _ _ => false) r'
theorem hkIndexAny7_ok (hn : NameOK P) {g : Nat} {fn : Func} {cd : Code} (hf : P.funcs[g]? = some fn) (hb : fn.body = some cd)
    (hc : ∀ (s chars : ByteArray) (w : World), s.size < 4294967281 → chars.size < 4294967281 → (∀ (j : Nat) b, s.data.toList[j]? = some b → b.toNat < 128) → (∀ (j : Nat) b, chars.data.toList[j]? = some b → b.toNat < 128) →
      Calls P g #[.string s, .string chars] w fun e w' => e = .returned (.int .i64 (Lib.indexAny s.data.toList chars.data.toList)) ∧ Below w.heap.size w w') : HookOk P ng g hkIndexAny7 := by
  intro args h nx K Kp hk ρ w vs s _ hv
  obtain ⟨x, r, rfl, hk2⟩ := arg0_spec hk
  obtain ⟨y, r', rfl, hk3⟩ := arg0_spec hk2
  simp only [VRs] at hv
  obtain ⟨v1, l1, rfl, h1, v2, l2, rfl, h2, h3⟩ := hv
  cases r' <;> first | (simp only [VRs] at h3; done) | exact Bool.noConfusion hk3 | skip
  simp only [VRs] at h3
  subst h3
  obtain ⟨c, b, hk4, rfl, hbv⟩ := strC_spec (show strC x (fun c => vS y fun cs => ite1 (ascB cs) <| ite1 (asc7 c) <| slenK cs 0 fun m => ite1 (Nat.ble m 1000) <| lenK c 0 fun n => ite1 (Nat.ble n 1000000) <| wanyK cs c 0 fun j => K (.i .i64 j) h nx) = true from hk3) h1
  obtain ⟨cs, rfl, hk5⟩ := vS_spec (v := y) hk4
  simp only [VR] at h2
  obtain ⟨rfl, hcs⟩ := h2
  obtain ⟨e1, hk6⟩ := ite1_spec hk5
  have e1 := ascB_spec e1
  obtain ⟨e2, hk7⟩ := ite1_spec hk6
  have e2 := asc7_spec (bl := b.data.toList) e2 hbv
  rw [slenK_eq, Nat.zero_add] at hk7
  obtain ⟨e3, hk8⟩ := ite1_spec hk7
  have e3 := Nat.le_of_ble_eq_true e3
  obtain ⟨n, hk9, hlen, _⟩ := lenK_spec hk8 (VRs_isC hbv)
  rw [Nat.zero_add] at hk9
  have hlen := hlen ρ _ hbv
  rw [bytesV_length] at hlen
  obtain ⟨e4, hk10⟩ := ite1_spec hk9
  have e4 := Nat.le_of_ble_eq_true e4
  obtain ⟨_, hk11⟩ := wanyK_spec (ρ := ρ) (bl := b.data.toList) hcs 0 hk10 hbv
  have hcl : (bs cs).data.toList = cs.map UInt8.ofNat := by simp [bs]
  have hge := Lib.indexAny_ge (cs.map UInt8.ofNat) b.data.toList
  refine upon_of_calls hn hf hb (y := .i .i64 (if Lib.indexAny b.data.toList (cs.map UInt8.ofNat) < 0 then -1 else ((0 : Nat) : Int) + Lib.indexAny b.data.toList (cs.map UInt8.ofNat))) ?_ s hk11
  refine (hc b (bs cs) w (by omega) (by rw [bs_size]; omega) (fun j d hj => e2 d (List.mem_of_getElem? hj)) (fun j d hj => ?_)).mono fun e w' ⟨he, hbl⟩ => ⟨_, he, ?_, ?_⟩
  · rw [hcl, List.getElem?_map, Option.map_eq_some_iff] at hj
    obtain ⟨n, hn, rfl⟩ := hj
    have := e1 n (List.mem_of_getElem? hn)
    simp [UInt8.toNat_ofNat']
    omega
  · simp only [VR]
    rw [hcl]
    congr 1
    split <;> omega
  · exact ⟨hbl.size, hbl.os, hbl.tape, hbl.output, hbl.block⟩
end
end Go.Mx
namespace Go.Mx
noncomputable section
variable {P : Program} {ρ : Ren} {h : T O} {nx : Nat} {w : World} {ng : Nat}
theorem St.atom (s : St ρ h nx w) (L : Loc) : St (upd ρ nx L) h (nx + 1) w ∧ Ext ρ h w (upd ρ nx L) h w := by
  have ne : ∀ {id}, (gt O.none id h).live → id ≠ nx := fun hl e => s.dead _ (Nat.le_of_eq e.symm) hl
  refine ⟨⟨fun id M hi hM => ?_, fun i j M N hi hj hM hN => ?_, fun i hi => ?_, fun i hi => s.dead i (by omega)⟩, ⟨upd_le (s.fresh nx (Nat.le_refl _)), Nat.le_refl _, rfl, rfl, rfl, fun b _ k => ⟨rfl, fun id M hi hM => ?_⟩, fun id hl hn => ⟨?_, rfl⟩⟩⟩
  · rw [upd_ne _ _ (ne hi)] at hM
    obtain ⟨o, h1, h2⟩ := s.rel id M hi hM
    exact ⟨o, h1, h2.mono (upd_le (s.fresh nx (Nat.le_refl _)))⟩
  · rw [upd_ne _ _ (ne (O.live_of_wr hi))] at hM
    rw [upd_ne _ _ (ne hj)] at hN
    exact s.inj i j M N hi hj hM hN
  · rw [upd_ne _ _ (by omega)]
    exact s.fresh i (by omega)
  · rw [upd_ne _ _ (ne (O.live_of_wr hi))] at hM
    exact k id M hi hM
  · rw [upd_ne _ _ (ne hl)]
    exact hn
def freeV (i : Nat) : V := .x i .u64 0 18446744073709551615
def single4 (x : V) (nx : Nat) : V := .a (.cons (.b false) (.cons (freeV nx) (.cons (freeV (nx + 1)) (.cons (freeV (nx + 2)) (.cons (freeV (nx + 3)) (.cons (.b true) (.cons x (.cons (.b false) .nil))))))))
def hkSingle2 : HookF := fun args h nx K => arg0 args fun x r => chain (rngK x fun kd _ hi _ => ite1 (keq kd .u8) <| ite1 (Nat.ble hi 255) <| K (single4 x nx) h (nx + 4)) (fun _ _ _ => false) r
def isU64 (v : V) : Bool := vI v fun k m => ite1 (keq k .u64) <| Int.rec (motive := fun _ => Bool) (fun n => Nat.ble n 18446744073709551615) (fun _ => false) m
theorem isU64_spec {v : V} (h : isU64 v = true) : ∃ n : Nat, v = .i .u64 (n : Int) ∧ n ≤ 18446744073709551615 := by
  obtain ⟨k, m, rfl, h2⟩ := vI_spec h
  obtain ⟨e, h3⟩ := ite1_spec h2
  obtain rfl := keq_eq e
  cases m with
  | negSucc n => exact Bool.noConfusion h3
  | ofNat n => exact ⟨n, rfl, Nat.le_of_ble_eq_true h3⟩
def isSingle4 (n : Nat) (v : V) : Bool := vA v fun l => arg0 l fun a r => ite1 (eqB false a) <| arg0 r fun a1 r => ite1 (isU64 a1) <| arg0 r fun a2 r => ite1 (isU64 a2) <| arg0 r fun a3 r => ite1 (isU64 a3) <| arg0 r fun a4 r => ite1 (isU64 a4) <| arg0 r fun b r => ite1 (eqB true b) <| arg0 r fun c r => ite1 (vI c fun k m => ite1 (keq k .u8) (ieq m (Int.ofNat n))) <| arg0 r fun d r => ite1 (eqB false d) <| chain true (fun _ _ _ => false) r
theorem isSingle4_spec {n : Nat} {v : V} {y : Value} {ρ' : Ren} (hs : isSingle4 n v = true) (hv : VR ρ' v y) :
    ∃ c1 c2 c3 c4 : Nat, c1 ≤ 18446744073709551615 ∧ c2 ≤ 18446744073709551615 ∧ c3 ≤ 18446744073709551615 ∧ c4 ≤ 18446744073709551615 ∧
      y = .agg ⟨[.bool false, .int .u64 (c1 : Int), .int .u64 (c2 : Int), .int .u64 (c3 : Int), .int .u64 (c4 : Int), .bool true, .int .u8 (n : Int), .bool false]⟩ := by
  obtain ⟨l, rfl, q0⟩ := vA_spec hs
  clear hs
  obtain ⟨a, r0, rfl, q1⟩ := arg0_spec q0
  clear q0
  obtain ⟨ea, q2⟩ := ite1_spec q1
  clear q1
  obtain rfl := eqB_spec ea
  obtain ⟨a1, r1, rfl, p1⟩ := arg0_spec q2
  clear q2
  obtain ⟨u1, q3⟩ := ite1_spec p1
  clear p1
  obtain ⟨c1, rfl, b1⟩ := isU64_spec u1
  obtain ⟨a2, r2, rfl, p2⟩ := arg0_spec q3
  clear q3
  obtain ⟨u2, q4⟩ := ite1_spec p2
  clear p2
  obtain ⟨c2, rfl, b2⟩ := isU64_spec u2
  obtain ⟨a3, r3, rfl, p3⟩ := arg0_spec q4
  clear q4
  obtain ⟨u3, q5⟩ := ite1_spec p3
  clear p3
  obtain ⟨c3, rfl, b3⟩ := isU64_spec u3
  obtain ⟨a4, r4, rfl, p4⟩ := arg0_spec q5
  clear q5
  obtain ⟨u4, q6⟩ := ite1_spec p4
  clear p4
  obtain ⟨c4, rfl, b4⟩ := isU64_spec u4
  obtain ⟨b, r5, rfl, q7⟩ := arg0_spec q6
  clear q6
  obtain ⟨eb, q8⟩ := ite1_spec q7
  clear q7
  obtain rfl := eqB_spec eb
  obtain ⟨c, r6, rfl, q9⟩ := arg0_spec q8
  clear q8
  obtain ⟨ec, q10⟩ := ite1_spec q9
  clear q9
  obtain ⟨k, m, rfl, ed⟩ := vI_spec ec
  clear ec
  obtain ⟨e1, e2⟩ := ite1_spec ed
  clear ed
  obtain rfl := keq_eq e1
  rw [ieq_eq] at e2
  obtain rfl := of_decide_eq_true e2
  clear e2
  obtain ⟨d, r, rfl, q11⟩ := arg0_spec q10
  clear q10
  obtain ⟨ee, h⟩ := ite1_spec q11
  clear q11
  obtain rfl := eqB_spec ee
  simp only [VR, VRs] at hv
  obtain ⟨_, ⟨_, _, rfl, rfl, _, _, rfl, rfl, _, _, rfl, rfl, _, _, rfl, rfl, _, _, rfl, rfl, _, _, rfl, rfl, _, _, rfl, rfl, _, _, rfl, rfl, hr⟩, rfl⟩ := hv
  cases r <;> first | (simp only [VRs] at hr; done) | exact Bool.noConfusion h | skip
  simp only [VRs] at hr
  subst hr
  exact ⟨c1, c2, c3, c4, b1, b2, b3, b4, rfl⟩
theorem hkSingle2_ok (hm : P.follows .mixedOrders = true) (hn : NameOK P) {hk : Nat → Option HookF} (hh : HKok P ng hk) {N g : Nat}
    (hrun : allN 256 (fun n => run P ng hk N g (.cons (.i .u8 (Int.ofNat n)) .nil) .leaf ng (fun v _ _ => isSingle4 n v) (fun _ _ _ => false)) = true) : HookOk P ng g hkSingle2 := by
  intro args h nx K Kp hk1 ρ w vs s gr hv
  obtain ⟨x, r, rfl, hk2⟩ := arg0_spec hk1
  simp only [VRs] at hv
  obtain ⟨v1, l1, rfl, h1, h2⟩ := hv
  cases r <;> first | (simp only [VRs] at h2; done) | exact Bool.noConfusion hk2 | skip
  simp only [VRs] at h2
  subst h2
  obtain ⟨kd, lo, hi, i, hk3, hr⟩ := rngK_spec (show (rngK x fun kd _ hi _ => ite1 (keq kd .u8) <| ite1 (Nat.ble hi 255) <| K (single4 x nx) h (nx + 4)) = true from hk2)
  obtain ⟨e1, hk4⟩ := ite1_spec hk3
  have e1 := keq_eq e1
  subst e1
  obtain ⟨e2, hk5⟩ := ite1_spec hk4
  have e2 := Nat.le_of_ble_eq_true e2
  obtain ⟨n, rfl, hin⟩ := hr ρ _ h1
  have hlt : n < 256 := by have := hin.2.1; omega
  intro o a next Q g1 _
  refine small_run hm hn hh (allN_spec hrun n hlt) (vs := [.int .u8 (n : Int)]) (by simp only [VRs]; exact ⟨_, _, rfl, by simp only [VR]; rfl, rfl⟩) gr (fun ρ' y v w' hR hv' st => ?_)
  obtain ⟨c1, c2, c3, c4, b1, b2, b3, b4, rfl⟩ := isSingle4_spec hR hv'
  have s0 : St ρ h nx w' := ⟨fun id L hi hL => by
    obtain ⟨o', q1, q2⟩ := s.rel id L hi hL
    exact ⟨o', by rw [st.heap L.blk (Array.getElem?_eq_some_iff.1 q1).1]; exact q1, q2⟩, s.inj, s.fresh, s.dead⟩
  have x0 : Ext ρ h w ρ h w' := ⟨Ren.le.refl _, st.size, st.os, st.tape, st.output, fun b hb hk => ⟨st.heap b hb, hk⟩, fun _ _ k => ⟨k, rfl⟩⟩
  obtain ⟨s1, x1⟩ := s0.atom ⟨0, c1, 0⟩
  obtain ⟨s2, x2⟩ := s1.atom ⟨0, c2, 0⟩
  obtain ⟨s3, x3⟩ := s2.atom ⟨0, c3, 0⟩
  obtain ⟨s4, x4⟩ := s3.atom ⟨0, c4, 0⟩
  have xa := x1.trans (x2.trans (x3.trans x4))
  refine g1 _ (single4 x nx) h (nx + 4) _ w' ?_ s4 (x0.trans xa) hk5
  simp only [single4, freeV, VR, VRs]
  refine ⟨_, ⟨_, _, rfl, rfl, _, _, rfl, ⟨⟨0, c1, 0⟩, ?_, Nat.zero_le _, b1, rfl⟩, _, _, rfl, ⟨⟨0, c2, 0⟩, ?_, Nat.zero_le _, b2, rfl⟩, _, _, rfl, ⟨⟨0, c3, 0⟩, ?_, Nat.zero_le _, b3, rfl⟩, _, _, rfl, ⟨_, upd_same _ _ _, Nat.zero_le _, b4, rfl⟩, _, _, rfl, rfl, _, _, rfl, h1.mono xa.le, _, _, rfl, rfl, rfl⟩, rfl⟩
  · exact (x2.trans (x3.trans x4)).le _ _ (upd_same _ _ _)
  · exact (x3.trans x4).le _ _ (upd_same _ _ _)
  · exact x4.le _ _ (upd_same _ _ _)
end
end Go.Mx
