/-
  A part of a small executor of the model, proved sound (31 of 34). No condition.
-/
import Derived.Test.YtoflpofblogmcaaGreatDoorXMxAW
import Derived.Test.YtoflpofblogmcaaGreatDoorXMxAD
import Derived.Test.YtoflpofblogmcaaGreatDoorXMxL
import Derived.MapKept
namespace Go.Mx
open Instr Builtin RowKit
noncomputable section
variable {P : Program} {ρ : Ren} {h : T O} {nx : Nat} {w : World} {ng : Nat}
def vSl (v : V) (k : Nat → Bool) : Bool := match v with
  | .sl q1 q2 q3 q4 => ite1 (Nat.beq q2 0) <| ite1 (Nat.beq q3 2) <| ite1 (Nat.beq q4 2) <| k q1
  | _ => false
theorem vSl_spec {v : V} {k : Nat → Bool} (hk : vSl v k = true) : ∃ id, v = .sl id 0 2 2 ∧ k id = true := by
  cases v <;> first | exact Bool.noConfusion hk | skip
  case sl id off len sz =>
    replace hk := ite1_spec (show ite1 (Nat.beq off 0) (ite1 (Nat.beq len 2) <| ite1 (Nat.beq sz 2) <| k id) = true from hk)
    obtain ⟨e1, hk⟩ := hk
    replace hk := ite1_spec hk
    obtain ⟨e2, hk⟩ := hk
    replace hk := ite1_spec hk
    obtain ⟨e3, hk⟩ := hk
    have e1 := beq_spec e1
    have e2 := beq_spec e2
    have e3 := beq_spec e3
    subst e1
    subst e2
    subst e3
    exact ⟨id, rfl, hk⟩
def preN (neg : Bool) : List Nat := Bool.rec [] [45] neg
def unT (ng n : Nat) (neg : Bool) (fol : Option Nat) : V := .o 0 (tokT ng 48 57 n (preN neg) fol) 0 0 0
def unC (ng n d : Nat) : V := .cons (.sl (Nat.add (Nat.add ng 3) n) 0 2 2) (.cons (.i .i64 (Int.ofNat d)) (.cons (.b false) .nil))
def unO (ng n d : Nat) (neg : Bool) (fol : Option Nat) (ty : Nat) : List (Nat × O) := [(ng, .c (.cons (unT ng n neg fol) (.cons (cntB (ng + 1)) (unC ng n d))) ty true)]
def unK (ng n d : Nat) (neg : Bool) (fol : Option Nat) (ty : Nat) : KV := fun v h1 _ => linK v fun kd l => ite1 (Nat.beq kd 3) <| rgK l fun lo hi => ite1 (ile minI lo) <| ite1 (ile hi maxI) <| flatK l .nil fun f => flatK f .nil fun f => addLK (Int.negSucc 0) (numE (sgI neg) n (Nat.add ng 3) .nil) f fun D0 => ite1 (isNilV D0) <|
  oC (gt O.none ng h1) fun c ty2 wr2 => ite1 wr2 <| ite1 (Nat.beq ty2 ty) <| arg0 c fun s2 c => arg0 c fun i2 c => ite1 (sameV s2 (unT ng n neg fol)) <| ite1 (sameV c (unC ng n d)) <|
  linK i2 fun kd S => ite1 (Nat.beq kd 3) <| addLK (Int.negSucc 0) (.cons (anyP (ng + 1)) .nil) S fun D => cstK D (fun q => ieq q (Int.ofNat (Nat.add (preN neg).length n))) false
def unR (R : CK) (g ng n d : Nat) (neg : Bool) (fol : Option Nat) (ty : Nat) (l : List (Nat × V)) (τ : Nat → Nat) : Bool := mkTK τ l (putO (unO ng n d neg fol ty) .leaf) (fun h0 => R g (.cons (.p ng 0) .nil) h0 (Nat.add (Nat.add ng 4) n) (unK ng n d neg fol ty) (fun _ _ _ => false))
def loS (neg : Bool) : Int := Bool.rec (Int.ofNat 0) minI neg
def hiS (neg : Bool) : Int := Bool.rec maxI (Int.negSucc 0) neg
def unB (l : List (Nat × V)) (ng d tyS : Nat) (neg : Bool) (fol : Option Nat) (args : V) (h : T O) (nx : Nat) (K : KV) : Bool := arg0 args fun p r => ite1 (sameV r .nil) <| vP p fun id off => ite1 (Nat.beq off 0) <| ite1 (Nat.ble ng id) <| oC (gt O.none id h) fun cs ty wr => ite1 wr <| ite1 (Nat.beq ty tyS) <| arg0 cs fun sV c2 => arg0 c2 fun iV c3 => arg0 c3 fun lV c4 => vSl lV fun _ => ite1 (sameV c4 (.cons (.i .i64 (Int.ofNat d)) (.cons (.b false) .nil))) <|
  ropK sV fun R => linK iV fun kd S => ite1 (Nat.beq kd 3) <| atMost R 4611686018427387904 fun _ => splS S fun n ls => dropL R n ls (fun r => arg0 r fun y r2 => dec4 y fun l4 => rgK l4 fun lo hi => ite1 (ile (loS neg) lo) <| ite1 (ile hi (hiS neg)) <| folT fol r2 <|
  lenE y S fun S1 => mkR 3 S1 fun i2 => hasT l h <| stK O.none (.c (.cons sV (.cons i2 c3)) ty true) id h fun h1 => K (.o 2 l4 3 0 0) h1 nx) false
def hkUn (l : List (Nat × V)) (ng d tyS : Nat) (neg : Bool) (fol : Option Nat) (e : HookF) : HookF := fun args h nx K => Bool.rec (e args h nx K) (unB l ng d tyS neg fol args h nx K) (unB l ng d tyS neg fol args h nx fun _ _ _ => true)
def unRen (ng : Nat) (L L2 : Loc) (s0 sy s4 : List UInt8) : Ren := fun i => if i = ng then some L else if i = ng + 1 then some ⟨0, enc s0, 0⟩ else if i = ng + 2 then some ⟨0, enc s4, 0⟩ else if i < ng then none else if i = ng + 3 + sy.length then some L2 else (sy[i - (ng + 3)]?).map fun c => ⟨0, c.toNat, 0⟩
theorem unRen_eq (ng : Nat) (L L2 : Loc) (s0 sy s4 : List UInt8) (i : Nat) : unRen ng L L2 s0 sy s4 i = if i = ng then some L else if i = ng + 1 then some ⟨0, enc s0, 0⟩ else if i = ng + 2 then some ⟨0, enc s4, 0⟩ else if i < ng then none else if i = ng + 3 + sy.length then some L2 else (sy[i - (ng + 3)]?).map fun c => ⟨0, c.toNat, 0⟩ := rfl
theorem loS_le {neg : Bool} {lo : Int} (h : loS neg ≤ lo) : -9223372036854775808 ≤ lo := by
  cases neg with
  | false => have h : (0 : Int) ≤ lo := h; omega
  | true => exact h
theorem hiS_le {neg : Bool} {hi : Int} (h : hi ≤ hiS neg) : hi ≤ 9223372036854775807 := by
  cases neg with
  | false => exact h
  | true => have h : hi ≤ (-1 : Int) := h; omega
theorem itoa_parts {neg : Bool} {n lo hi : Int} (h1 : loS neg ≤ lo) (h2 : hi ≤ hiS neg) (h3 : lo ≤ n) (h4 : n ≤ hi) :
    ∃ sy : List UInt8, 1 ≤ sy.length ∧ sy.length ≤ 19 ∧ (∀ c ∈ sy, 48 ≤ c.toNat ∧ c.toNat ≤ 57) ∧ Lib.itoa n = (preN neg).map UInt8.ofNat ++ sy ∧ n = sgI neg * valD sy := by
  have b1 := loS_le h1
  have b2 := hiS_le h2
  refine ⟨Lib.decDigits n.natAbs, ?_, ?_, dec_mem _, ?_, ?_⟩
  · cases e : Lib.decDigits n.natAbs with
    | nil => exact absurd e (dec_ne _)
    | cons c r => simp
  · rw [Lib.decDigits_length]; exact nDigits_le' 18 _ (by omega)
  · cases neg with
    | false =>
      have h1 : (0 : Int) ≤ lo := h1
      have e := itoa_pos n.natAbs
      rw [show ((n.natAbs : Nat) : Int) = n by omega] at e
      rw [e]
      rfl
    | true =>
      have h2 : hi ≤ (-1 : Int) := h2
      have e := itoa_neg' (u := n.natAbs) (by omega)
      rw [show -((n.natAbs : Nat) : Int) = n by omega] at e
      rw [e]
      rfl
  · rw [valD_dec]
    cases neg with
    | false =>
      have h1 : (0 : Int) ≤ lo := h1
      show n = Int.ofNat 1 * _
      rw [show Int.ofNat 1 = 1 from rfl]; omega
    | true =>
      have h2 : hi ≤ (-1 : Int) := h2
      show n = Int.negSucc 0 * _
      rw [show Int.negSucc 0 = -1 from rfl]; omega
theorem preN_lt {neg : Bool} : ∀ n ∈ preN neg, n < 256 := by cases neg <;> decide
theorem hkUn_ok {R : CK} (hR : CKok P ng R) {g : Nat} {l : List (Nat × V)} {d tyS : Nat} {neg : Bool} {fol : Option Nat} {e : HookF} (he : HookOk P ng g e) (hl : inT ng l = true)
    (hrun : ∀ n, 1 ≤ n → n ≤ 19 → ∀ τ : Nat → Nat, unR R g ng n d neg fol tyS l τ = true) : HookOk P ng g (hkUn l ng d tyS neg fol e) := by
  intro args h nx K Kp hk ρ w vs s hg hvs
  have hk0 : (Bool.rec (e args h nx K) (unB l ng d tyS neg fol args h nx K) (unB l ng d tyS neg fol args h nx fun _ _ _ => true) : Bool) = true := hk
  clear hk
  generalize (unB l ng d tyS neg fol args h nx fun _ _ _ => true) = q at hk0
  cases q with
  | false => exact he args h nx K Kp hk0 ρ w vs s hg hvs
  | true =>
  have hk : unB l ng d tyS neg fol args h nx K = true := hk0
  clear hk0
  unfold unB at hk
  replace hk := arg0_spec hk
  obtain ⟨p, r0, rfl, hk⟩ := hk
  replace hk := ite1_spec hk
  obtain ⟨e1, hk⟩ := hk
  have e1 := sameV_eq e1
  subst e1
  replace hk := vP_spec hk
  obtain ⟨id, off, rfl, hk⟩ := hk
  replace hk := ite1_spec hk
  obtain ⟨e2, hk⟩ := hk
  have e2 := beq_spec e2
  subst e2
  replace hk := ite1_spec hk
  obtain ⟨e3, hk⟩ := hk
  have e3 := Nat.ble_eq.mp e3
  replace hk := oC_spec hk
  obtain ⟨cs, ty, wr, ho, hk⟩ := hk
  replace hk := ite1_spec hk
  obtain ⟨e4, hk⟩ := hk
  subst e4
  replace hk := ite1_spec hk
  obtain ⟨e9, hk⟩ := hk
  have e9 := beq_spec e9
  subst e9
  replace hk := arg0_spec hk
  obtain ⟨sV, c2, rfl, hk⟩ := hk
  replace hk := arg0_spec hk
  obtain ⟨iV, c3, rfl, hk⟩ := hk
  replace hk := arg0_spec hk
  obtain ⟨lV, c4, rfl, hk⟩ := hk
  replace hk := vSl_spec hk
  obtain ⟨lid, rfl, hk⟩ := hk
  replace hk := ite1_spec hk
  obtain ⟨e5, hk⟩ := hk
  have e5 := sameV_eq e5
  subst e5
  replace hk := ropK_spec hk
  obtain ⟨T, hk, hT⟩ := hk
  replace hk := linK_spec hk
  obtain ⟨kd, S, hk, hS⟩ := hk
  replace hk := ite1_spec hk
  obtain ⟨e6, hk⟩ := hk
  have e6 := beq_spec e6
  subst e6
  replace hk := atMost_spec hk
  obtain ⟨_, hk, hmost⟩ := hk
  simp only [VRs] at hvs
  obtain ⟨v1, vr, rfl, hv1, rfl⟩ := hvs
  simp only [VR] at hv1
  obtain ⟨L, hL, rfl⟩ := hv1
  obtain ⟨o0, ho1, arr, fz, ho2, q2, q3, q4, q5⟩ := s.relC ho hL
  simp only [CR] at q5
  obtain ⟨x1, xs1, f1, hx1, x2, xs2, f2, hx2, x3, xs3, f3, hx3, x4, xs4, f4, hx4, x5, xs5, f5, hx5, _⟩ := q5
  have hx3' := hx3
  simp only [VR] at hx3'
  obtain ⟨L2, cap2, hL2, hcap2, hfit2, rfl⟩ := hx3'
  obtain ⟨b, rfl, hrr⟩ := hT ρ x1 hx1
  obtain ⟨n0, hSn, rfl⟩ := hS ρ x2 hx2
  have hlen := (hmost ρ _ hrr).2
  replace hk := splS_spec hk (LR_isC hSn)
  obtain ⟨n, ls, hk, hc, hnl⟩ := hk
  replace hk := dropL_spec hk (RR_isC hrr) hc
  rcases hk with hk | ⟨r, hk, _, hr⟩
  · exact Bool.noConfusion hk
  obtain ⟨uu, g1, g2⟩ := hnl ρ n0 hSn
  obtain ⟨j, q0, q1, hdr⟩ := hr ρ _ uu hrr g1
  have ej : n0 = (j : Int) := by omega
  subst ej
  replace hk := arg0_spec hk
  obtain ⟨y, r2, rfl, hk⟩ := hk
  simp only [RR] at hdr
  obtain ⟨syy, s3, hy, hr2, hsp⟩ := hdr
  replace hk := dec4_spec hk
  obtain ⟨l4, hk, hd4⟩ := hk
  obtain ⟨nn, hnn, rfl⟩ := hd4 ρ _ hy
  replace hk := rgK_spec hk
  obtain ⟨lo, hi, hk, hrg⟩ := hk
  replace hk := ite1_spec hk
  obtain ⟨e7, hk⟩ := hk
  replace hk := ite1_spec hk
  obtain ⟨e8, hk⟩ := hk
  have e7 := ile_spec e7
  have e8 := ile_spec e8
  have hbn := hrg ρ _ hnn
  obtain ⟨sy, hsy1, hsyl, hcls, hit, hval⟩ := itoa_parts e7 e8 hbn.1 hbn.2
  replace hk := folT_spec hk
  obtain ⟨hk, hfol⟩ := hk
  obtain ⟨s4, hf0, hf1⟩ := hfol ρ _ hr2
  replace hk := lenE_spec hk (LR_isC hSn)
  obtain ⟨S1, hk, hcS1, hS1⟩ := hk
  replace hk := mkR_spec hk
  obtain ⟨i2, hk, hi2⟩ := hk
  replace hk := hasT_spec hk
  obtain ⟨hk, htab⟩ := hk
  rw [stK_eq] at hk
  have hi2 := (hi2 ρ _ (hS1 ρ _ _ hSn hy)).1
  have hL1 : b.data.toList = b.data.toList.take j ++ ((preN neg).map UInt8.ofNat ++ (sy ++ s3)) := by rw [← List.append_assoc (bs := sy), ← hit, ← hsp, List.take_append_drop]
  have htk : (b.data.toList.take j).length = j := by rw [List.length_take]; omega
  have hlen2 : b.data.toList.length = j + ((preN neg).length + (sy.length + s3.length)) := by
    have := congrArg List.length hL1
    rw [List.length_append, List.length_append, List.length_append, List.length_map, htk] at this
    exact this
  have t0 : unRen ng L L2 (b.data.toList.take j) sy s4 ng = some L := by simp [unRen]
  have t1 : unRen ng L L2 (b.data.toList.take j) sy s4 (ng + 1) = some ⟨0, enc (b.data.toList.take j), 0⟩ := by rw [unRen_eq, if_neg (by omega), if_pos (by omega)]
  have t2 : unRen ng L L2 (b.data.toList.take j) sy s4 (ng + 2) = some ⟨0, enc s4, 0⟩ := by rw [unRen_eq, if_neg (by omega), if_neg (by omega), if_pos (by omega)]
  have t3 : ∀ (k : Nat) (c : UInt8), sy[k]? = some c → unRen ng L L2 (b.data.toList.take j) sy s4 (ng + 3 + k) = some ⟨0, c.toNat, 0⟩ := fun k c hc => by
    have := (List.getElem?_eq_some_iff.1 hc).1
    rw [unRen_eq, if_neg (by omega), if_neg (by omega), if_neg (by omega), if_neg (by omega), if_neg (by omega), show ng + 3 + k - (ng + 3) = k by omega, hc]
    rfl
  have t4 : unRen ng L L2 (b.data.toList.take j) sy s4 (ng + 3 + sy.length) = some L2 := by rw [unRen_eq, if_neg (by omega), if_neg (by omega), if_neg (by omega), if_neg (by omega), if_pos rfl]
  have hs4 : s4.length ≤ 4611686018427387904 := by omega
  have p0 : PR (unRen ng L L2 (b.data.toList.take j) sy s4) (anyP (ng + 1)) (b.data.toList.take j) := anyP_PR t1 (by omega)
  have pT : RR (unRen ng L L2 (b.data.toList.take j) sy s4) (tokT ng 48 57 sy.length (preN neg) fol) b.data.toList := by
    unfold tokT
    simp only [RR]
    exact ⟨_, _, p0, preV_RR (RR_cat 48 57 (hf1 _ _ t2 hs4) sy (ng + 3) hcls t3) preN_lt, hL1⟩
  have pI : LR (unRen ng L L2 (b.data.toList.take j) sy s4) (.cons (anyP (ng + 1)) .nil) (j : Int) := by
    simp only [LR]
    refine ⟨_, 0, ?_, rfl, (Int.add_zero _).symm⟩
    have := PR_MR (y := anyP (ng + 1)) rfl p0
    rwa [htk] at this
  have hg1 : ∀ i, gt O.none i (putO (unO ng sy.length d neg fol ty) .leaf) = if i = ng then .c (.cons (unT ng sy.length neg fol) (.cons (cntB (ng + 1)) (unC ng sy.length d))) ty true else .none := fun i => by
    show gt O.none i (st O.none _ ng .leaf) = _
    by_cases e : i = ng
    · subst e; rw [gt_st_same, if_pos rfl]
    · rw [gt_st_ne _ _ (Ne.symm e), if_neg e, gt_leaf]
  have hgl : ∀ i, (gt O.none i (putO (unO ng sy.length d neg fol ty) .leaf)).live → i = ng := fun i hi => by
    rw [hg1 i] at hi
    by_cases e : i = ng
    · exact e
    · rw [if_neg e] at hi; exact hi.elim
  have hidw : (gt O.none id h).wr := asC_wr ho
  obtain ⟨ρs, h0, hle, hwr, hsame, hSt, _, up⟩ := smallRun hR (A := .cons (.p ng 0) .nil) (vs := [.pointer (some ⟨L.blk, L.base + 0, none⟩)]) (ob := unO ng sy.length d neg fol ty) (N := Nat.add (Nat.add ng 4) sy.length) hl s hg htab (ρb := unRen ng L L2 (b.data.toList.take j) sy s4) (by show ng ≤ ng + 4 + sy.length; omega)
    (fun i M' hi => by
      show ng ≤ i ∧ i < ng + 4 + sy.length
      by_cases e : i < ng ∨ ng + 4 + sy.length ≤ i
      · have : unRen ng L L2 (b.data.toList.take j) sy s4 i = none := by
          rw [unRen_eq, if_neg (by omega), if_neg (by omega), if_neg (by omega)]
          by_cases e2 : i < ng
          · rw [if_pos e2]
          · rw [if_neg e2, if_neg (by omega), List.getElem?_eq_none (by omega)]
            rfl
        rw [this] at hi; cases hi
      · omega)
    (fun i hi => by
      have e := hgl i hi
      subst e
      refine ⟨Nat.le_refl _, by show i < i + 4 + sy.length; omega, fun M' hM' => ?_⟩
      have hLM : M' = L := by
        rw [t0] at hM'
        exact (Option.some.inj hM').symm
      subst hLM
      refine ⟨o0, ho1, ?_⟩
      rw [hg1 i, if_pos rfl]
      refine ⟨arr, fz, ho2, q2, q3, q4, ?_⟩
      simp only [unC, CR]
      exact ⟨_, _, f1, VR_rope pT, _, _, f2, VR_lin pI, _, _, f3, by simp only [VR]; exact ⟨L2, cap2, t4, hcap2, hfit2, rfl⟩, _, _, f4, by simpa only [VR] using hx4, _, _, f5, by simpa only [VR] using hx5, trivial⟩)
    (fun i L1 hi hL1 => by
      have e := hgl i (O.live_of_wr hi)
      subst e
      have hLM : L1 = L := by
        rw [t0] at hL1
        exact (Option.some.inj hL1).symm
      subst hLM
      refine ⟨fun j' M' hj' _ _ => (hgl j' hj').symm, fun p hp M' hM' hbk => ?_⟩
      obtain ⟨ty', wr', ho'⟩ := htab p hp
      have := s.inj id p.1 _ M' hidw (asC_live ho') hL hM' hbk
      have := (inT_spec hl p hp).1
      omega)
    (by simp only [VRs]; exact ⟨_, _, rfl, by simp only [VR]; exact ⟨L, t0, rfl⟩, rfl⟩) (hrun sy.length hsy1 hsyl)
  intro o a next Q h1 _
  refine up o a next Q (fun ρ' v h1' n1 val w' hv' hs' hx hky => ?_) (fun ρ' y h' nx' v w' _ _ _ hky => Bool.noConfusion hky)
  unfold unK at hky
  replace hky := linK_spec hky
  obtain ⟨kd1, l5, hky, hl5⟩ := hky
  replace hky := ite1_spec hky
  obtain ⟨y1, hky⟩ := hky
  have y1 := beq_spec y1
  subst y1
  replace hky := rgK_spec hky
  obtain ⟨lo5, hi5, hky, hr5⟩ := hky
  replace hky := ite1_spec hky
  obtain ⟨y2, hky⟩ := hky
  replace hky := ite1_spec hky
  obtain ⟨y3, hky⟩ := hky
  have y2 := ile_spec y2
  have y3 := ile_spec y3
  obtain ⟨m5, hm5, rfl⟩ := hl5 ρ' _ hv'
  have hb5 := hr5 ρ' m5 hm5
  replace hky := flatK_spec hky (show isC .nil from trivial)
  obtain ⟨f6, hky, c6, z6⟩ := hky
  replace hky := flatK_spec hky (show isC .nil from trivial)
  obtain ⟨f7, hky, c7, z7⟩ := hky
  replace hky := addLK_spec hky c7
  obtain ⟨f8, hky, c8, z8⟩ := hky
  replace hky := ite1_spec hky
  obtain ⟨y4, hky⟩ := hky
  have y4 := isNilV_spec y4
  subst y4
  have hE : LR ρ' (numE (sgI neg) sy.length (ng + 3) .nil) (sgI neg * valD sy + 0) := LR_numE (by simp only [LR]) sy (ng + 3) hcls fun k c hc => hx.le _ _ (hle _ _ (t3 k c hc))
  obtain ⟨j6, r6⟩ := z6 ρ' m5 0 hm5 (by simp only [LR])
  obtain ⟨j7, r7⟩ := z7 ρ' _ 0 r6 (by simp only [LR])
  have r8 := z8 ρ' _ _ r7 hE
  simp only [LR] at r8
  rw [← hval] at r8
  have b1 := loS_le e7
  have b2 := hiS_le e8
  rw [minI_eq] at y2
  rw [maxI_eq] at y3
  have e10 : Int.negSucc 0 * (nn + 0) = - nn := by rw [show Int.negSucc 0 = -1 from rfl]; omega
  have hmn : m5 = nn := by omega
  subst hmn
  replace hky := oC_spec hky
  obtain ⟨c, ty2, wr2, ho4, hky⟩ := hky
  replace hky := ite1_spec hky
  obtain ⟨y1, hky⟩ := hky
  subst y1
  replace hky := ite1_spec hky
  obtain ⟨y1, hky⟩ := hky
  have y1 := beq_spec y1
  subst y1
  replace hky := arg0_spec hky
  obtain ⟨s2, c, rfl, hky⟩ := hky
  replace hky := arg0_spec hky
  obtain ⟨j2, c, rfl, hky⟩ := hky
  replace hky := ite1_spec hky
  obtain ⟨y1, hky⟩ := hky
  have y1 := sameV_eq y1
  subst y1
  replace hky := ite1_spec hky
  obtain ⟨y1, hky⟩ := hky
  have y1 := sameV_eq y1
  subst y1
  replace hky := linK_spec hky
  obtain ⟨kd2, S3, hky, hS3⟩ := hky
  replace hky := ite1_spec hky
  obtain ⟨y1, hky⟩ := hky
  have y1 := beq_spec y1
  subst y1
  have hρ'L : ρ' ng = some L := hx.le _ _ (by rw [hsame ng (Nat.le_refl _)]; exact t0)
  have hρ'2 : ρ' (ng + 3 + sy.length) = some L2 := hx.le _ _ (by rw [hsame _ (by omega)]; exact t4)
  obtain ⟨o4, ho4a, arr4, fz4, ho4b, u2, u3, u4, u5⟩ := hs'.relC ho4 hρ'L
  have only : ∀ i L1, (gt O.none i h0).wr → ρs i = some L1 → L1 = L := fun i L1 hi hL1 => by
    have e := hgl i (O.live_of_wr (hwr i hi))
    subst e
    rw [hsame i (Nat.le_refl _), t0] at hL1
    exact (Option.some.inj hL1).symm
  have kept : ∀ q, q < w.heap.size → q ≠ L.blk → w'.heap[q]? = w.heap[q]? := fun q hq hne =>
    (hx.kept q hq fun i L1 hi hL1 => by rw [only i L1 hi hL1]; exact fun e => hne e.symm).1
  have hat : ∀ i, gt O.none i (st O.none (.c (.cons sV (.cons i2 (.cons (.sl lid 0 2 2) (.cons (.i .i64 (Int.ofNat d)) (.cons (.b false) .nil))))) ty2 true) id h) =
      if i = id then .c (.cons sV (.cons i2 (.cons (.sl lid 0 2 2) (.cons (.i .i64 (Int.ofNat d)) (.cons (.b false) .nil))))) ty2 true else gt O.none i h := fun i => by
    by_cases c2 : i = id
    · subst c2; rw [gt_st_same, if_pos rfl]
    · rw [gt_st_ne _ _ (Ne.symm c2), if_neg c2]
  have old : ∀ {i : Nat} {L1 : Loc}, i ≠ id → (gt O.none i h).live → ρ i = some L1 → L1.blk < w.heap.size ∧ L1.blk ≠ L.blk := fun {i L1} hi hl1 hL1 => by
    obtain ⟨o5, g5, _⟩ := s.rel i L1 hl1 hL1
    exact ⟨(Array.getElem?_eq_some_iff.1 g5).1, fun e => hi (s.inj id i L L1 hidw hl1 hL hL1 e.symm).symm⟩
  have wr_old : ∀ {i : Nat}, (gt O.none i (st O.none (.c (.cons sV (.cons i2 (.cons (.sl lid 0 2 2) (.cons (.i .i64 (Int.ofNat d)) (.cons (.b false) .nil))))) ty2 true) id h)).wr → (gt O.none i h).wr := fun {i} hi => by
    rw [hat i] at hi
    by_cases c3 : i = id
    · subst c3; exact hidw
    · rw [if_neg c3] at hi; exact hi
  have live_old : ∀ {i : Nat}, (gt O.none i (st O.none (.c (.cons sV (.cons i2 (.cons (.sl lid 0 2 2) (.cons (.i .i64 (Int.ofNat d)) (.cons (.b false) .nil))))) ty2 true) id h)).live → (gt O.none i h).live := fun {i} hi => by
    rw [hat i] at hi
    by_cases c3 : i = id
    · subst c3; exact O.live_of_wr hidw
    · rw [if_neg c3] at hi; exact hi
  refine h1 ρ (.o 2 l4 3 0 0) _ nx _ w' ?_ ⟨fun i L1 hlv hL1 => ?_, fun i j' L1 M1 hi hj hL1 hM1 hb1 => s.inj i j' L1 M1 (wr_old hi) (live_old hj) hL1 hM1 hb1, s.fresh, fun i hi hl1 => s.dead i hi (live_old hl1)⟩ ⟨Ren.le.refl _, hx.size, hx.os, hx.tape, hx.output, fun q hq hw => ?_, fun i hi hn1 => ⟨hn1, ?_⟩⟩ hk
  · simp only [VR, OV]
    exact .inl (.inr (.inl ⟨trivial, m5, hnn, rfl⟩))
  · rw [hat i] at hlv ⊢
    by_cases c2 : i = id
    · subst c2
      rw [if_pos rfl]
      rw [hL] at hL1
      have := Option.some.inj hL1
      subst this
      refine ⟨o4, ho4a, arr4, fz4, ho4b, u2, u3, u4, ?_⟩
      simp only [unC, CR] at u5
      obtain ⟨z1, zs1, m1, n1, z2, zs2, m2, n2, z3, zs3, m3, n3, z4, zs4, m4, n4, z5, zs5, m55, n5, _⟩ := u5
      obtain ⟨b2, rfl, hb2⟩ := rope_of rfl n1
      have hbe := hb2.fn (pT.mono (hle.trans hx.le))
      have hbb : b2 = b := bytesV_inj (by unfold bytesV; rw [hbe])
      subst hbb
      obtain ⟨n6, hn6, hvv⟩ := hS3 ρ' _ n2
      replace hky := addLK_spec hky (LR_isC hn6)
      obtain ⟨D, hky, _, hD⟩ := hky
      have hdn := hD ρ' n6 _ hn6 (pI.mono (hle.trans hx.le))
      obtain ⟨cc, hcc, hc2⟩ := (cstK_spec hky).resolve_right fun hcc => Bool.noConfusion hcc
      have h5 := hc2 ρ' _ hdn
      rw [ieq_eq] at hcc
      have hcc : cc = (((preN neg).length + sy.length : Nat) : Int) := by simpa using hcc
      have zz : (Int.negSucc 0) * (j : Int) = -(j : Int) := by
        have : (Int.negSucc 0 : Int) = -1 := rfl
        rw [this]; omega
      rw [zz] at h5
      have hlit : (Lib.itoa m5).length = (preN neg).length + sy.length := by rw [hit, List.length_append, List.length_map]
      have h6 : n6 = (j : Int) + (Lib.itoa m5).length := by omega
      simp only [VR] at n3
      obtain ⟨L3, cap3, hL3, hcap3, hfit3, rfl⟩ := n3
      rw [show Nat.add (Nat.add ng 3) sy.length = ng + 3 + sy.length from rfl, hρ'2] at hL3
      have := Option.some.inj hL3
      subst this
      simp only [CR]
      refine ⟨_, _, m1, hx1, _, _, m2, ?_, _, _, m3, by simp only [VR]; exact ⟨_, cap3, hL2, hcap3, hfit3, rfl⟩, _, _, m4, by simpa only [VR] using n4, _, _, m55, by simpa only [VR] using n5, trivial⟩
      rw [hvv, h6]
      exact hi2
    · rw [if_neg c2] at hlv ⊢
      obtain ⟨o5, g5, g6⟩ := s.rel i L1 hlv hL1
      obtain ⟨k1, k2⟩ := old c2 hlv hL1
      exact ⟨o5, by rw [kept _ k1 k2]; exact g5, g6⟩
  · have hne : q ≠ L.blk := fun e => hw id L hidw hL e.symm
    refine ⟨kept q hq hne, fun i L1 hi hL1 => hw i L1 (wr_old hi) hL1⟩
  · rw [hat i]
    by_cases c2 : i = id
    · subst c2
      rw [hL] at hn1
      cases hn1
    · rw [if_neg c2]
end
end Go.Mx
namespace Go.Mx
open Instr Builtin RowKit
noncomputable section
variable {P : Program} {ρ : Ren} {h : T O} {nx : Nat} {w : World} {ng : Nat}
theorem upon_new (hn : NameOK P) {g : Nat} {fn : Func} {c : Code} (hf : P.funcs[g]? = some fn) (hb : fn.body = some c) {vs : List Value} {y : V} {ob : O}
    (hc : Calls P g ⟨vs⟩ w fun e w' => ∃ v L o, e = .returned v ∧ w.heap.size ≤ L.blk ∧ w'.heap[L.blk]? = some o ∧ OR (upd ρ nx L) L ob o ∧ VR (upd ρ nx L) y v ∧ Stays w w')
    (s : St ρ h nx w) {K Kp : KV} (hk : K y (st O.none ob nx h) (Nat.succ nx) = true) : UponOK P ((callFunc g ⟨vs⟩).run P w) ρ h w K Kp := by
  intro o a next Q h1 _
  rw [callFunc_enter hn hf hb, Oper.upon_enter]
  refine hc.mono fun e w' ⟨v, L, o1, he, hL, hh, ho, hv, hs⟩ => ?_
  subst he
  have hfr : ρ nx = none := s.fresh nx (Nat.le_refl _)
  have hle : Ren.le ρ (upd ρ nx L) := upd_le hfr
  have hdead : ¬ (gt O.none nx h).live := s.dead nx (Nat.le_refl _)
  have old : ∀ {i : Nat} {L1 : Loc}, nx ≠ i → (gt O.none i h).live → upd ρ nx L i = some L1 → ρ i = some L1 ∧ L1.blk < w.heap.size := fun {i L1} hi hl1 hL1 => by
    rw [upd_ne _ _ (Ne.symm hi)] at hL1
    obtain ⟨o5, g5, _⟩ := s.rel i L1 hl1 hL1
    exact ⟨hL1, (Array.getElem?_eq_some_iff.1 g5).1⟩
  refine h1 (upd ρ nx L) y _ (Nat.succ nx) v w' hv ⟨fun i L1 hi hL1 => ?_, fun i j L1 M1 hi hj hL1 hM1 hb1 => ?_, fun i hi => ?_, fun i hi => ?_⟩ ⟨hle, hs.size, hs.os, hs.tape, hs.output, fun b hb2 hk2 => ⟨hs.heap b hb2, fun i L1 hi hL1 => ?_⟩, fun i hi hn1 => ?_⟩ hk
  · by_cases e : nx = i
    · subst e
      rw [gt_st_same] at hi ⊢
      rw [upd_same] at hL1
      cases hL1
      exact ⟨o1, hh, ho⟩
    · rw [gt_st_ne _ _ e] at hi ⊢
      obtain ⟨q1, q2⟩ := old e hi hL1
      obtain ⟨o5, g5, g6⟩ := s.rel i L1 hi q1
      exact ⟨o5, by rw [hs.heap _ q2]; exact g5, g6.mono hle⟩
  · by_cases e : nx = i
    · subst e
      rw [upd_same] at hL1
      cases hL1
      by_cases e2 : nx = j
      · exact e2
      · rw [gt_st_ne _ _ e2] at hj
        obtain ⟨_, q2⟩ := old e2 hj hM1
        omega
    · rw [gt_st_ne _ _ e] at hi
      obtain ⟨q1, q2⟩ := old e (O.live_of_wr hi) hL1
      by_cases e2 : nx = j
      · subst e2
        rw [upd_same] at hM1
        cases hM1
        omega
      · rw [gt_st_ne _ _ e2] at hj
        obtain ⟨q3, _⟩ := old e2 hj hM1
        exact s.inj i j L1 M1 hi hj q1 q3 hb1
  · rw [upd_ne _ _ (by omega)]
    exact s.fresh i (by omega)
  · rw [gt_st_ne _ _ (by omega)]
    exact s.dead i (by omega)
  · by_cases e : nx = i
    · subst e
      rw [upd_same] at hL1
      cases hL1
      omega
    · rw [gt_st_ne _ _ e] at hi
      obtain ⟨q1, _⟩ := old e (O.live_of_wr hi) hL1
      exact hk2 i L1 hi q1
  · have e : nx ≠ i := fun e => by subst e; exact hdead hi
    exact ⟨by rw [upd_ne _ _ (Ne.symm e)]; exact hn1, gt_st_ne _ _ e _⟩
def KeysSaid (P : Program) (gY gK ct : Nat) : Prop := ∀ (mb : Nat) (w : World), Calls P gY #[.map (some mb)] w fun e w' => e = .returned (.func (.func gK) #[] #[.pointer (some ⟨w.heap.size, 0, none⟩)]) ∧ w' = w.alloc (.cells #[.map (some mb)] ct)
def isMp (v : V) : Bool := match v with
  | .m _ => true
  | _ => false
theorem isMp_spec {v : V} (h : isMp v = true) : ∃ id, v = .m id := by
  cases v <;> first | exact ⟨_, rfl⟩ | exact Bool.noConfusion h
def hkKeys (gK ct : Nat) (e : HookF) : HookF := fun args h nx K => arg0 args fun m r => Bool.rec (e args h nx K) (stK O.none (.v (.cons m .nil) ct) nx h fun h1 => K (.f gK (.cons (.p nx 0) .nil)) h1 (Nat.succ nx)) (ite1 (isNilV r) (isMp m))
theorem hkKeys_ok (hn : NameOK P) {g gK ct : Nat} {fn : Func} {cd : Code} (hf : P.funcs[g]? = some fn) (hb : fn.body = some cd) {e : HookF} (he : HookOk P ng g e) (hC : KeysSaid P g gK ct) : HookOk P ng g (hkKeys gK ct e) := by
  intro args h nx K Kp hk ρ w vs s hg hvs
  replace hk := arg0_spec hk
  obtain ⟨m, r, rfl, hk⟩ := hk
  cases e0 : ite1 (isNilV r) (isMp m) with
  | false => rw [e0] at hk; exact he _ h nx K Kp hk ρ w vs s hg hvs
  | true =>
    rw [e0] at hk
    obtain ⟨e1, e2⟩ := ite1_spec e0
    have e1 := isNilV_spec e1
    subst e1
    obtain ⟨id, rfl⟩ := isMp_spec e2
    have hk : stK O.none (.v (.cons (.m id) .nil) ct) nx h (fun h1 => K (.f gK (.cons (.p nx 0) .nil)) h1 (Nat.succ nx)) = true := hk
    rw [stK_eq] at hk
    simp only [VRs, VR] at hvs
    obtain ⟨v1, vr, rfl, ⟨L, hL, rfl⟩, rfl⟩ := hvs
    have hle : Ren.le ρ (upd ρ nx ⟨w.heap.size, 0, 1⟩) := upd_le (s.fresh nx (Nat.le_refl _))
    refine upon_new hn hf hb (y := .f gK (.cons (.p nx 0) .nil)) (ob := .v (.cons (.m id) .nil) ct) ?_ s hk
    refine (hC L.blk w).mono fun e w' ⟨h4, h5⟩ => ⟨_, ⟨w.heap.size, 0, 1⟩, .cells #[.map (some L.blk)] ct, h4, Nat.le_refl _, ?_, ?_, ?_, ?_⟩
    · rw [h5]; show (w.heap.push _)[w.heap.size]? = _; simp
    · refine ⟨[.map (some L.blk)], rfl, rfl, rfl, ?_⟩
      simp only [VRs, VR]
      exact ⟨_, _, rfl, ⟨L, hle _ _ hL, rfl⟩, rfl⟩
    · simp only [VR, VRs]
      exact ⟨_, ⟨_, _, rfl, ⟨_, upd_same _ _ _, rfl⟩, rfl⟩, rfl⟩
    · rw [h5]
      exact ⟨by simp, rfl, rfl, rfl, fun b hb2 => by show (w.heap.push _)[b]? = _; rw [Array.getElem?_push, if_neg (by omega)]⟩
def eLst (es : E) : (List (List Nat) → List Nat → Bool) → Bool := E.rec (motive := fun _ => (List (List Nat) → List Nat → Bool) → Bool) (fun k => k [] []) (fun key _ born _ ih k => vS key fun l => ih fun ks bs => k (l :: ks) (born :: bs)) es
theorem eLst_spec : ∀ {es : E} {k : List (List Nat) → List Nat → Bool}, eLst es k = true → ∃ ks bns, k ks bns = true ∧ ∀ ρ xs, ER ρ es xs → xs.map (·.key) = ks.map (fun l => Value.string (bs l)) ∧ xs.map (·.born) = bns := by
  intro es
  induction es with
  | nil => intro k hk; exact ⟨[], [], hk, fun ρ xs hx => by simp only [ER] at hx; subst hx; exact ⟨rfl, rfl⟩⟩
  | cons key v born r ih =>
    intro k hk
    obtain ⟨l, rfl, hk2⟩ := vS_spec (show vS key (fun l => eLst r fun ks bs => k (l :: ks) (born :: bs)) = true from hk)
    obtain ⟨ks, bns, h1, h2⟩ := ih hk2
    refine ⟨l :: ks, born :: bns, h1, fun ρ xs hx => ?_⟩
    simp only [ER] at hx
    obtain ⟨x, ys, rfl, g1, _, g3, g4⟩ := hx
    obtain ⟨q1, q2⟩ := h2 ρ ys g4
    simp only [VR] at g1
    simp only [List.map_cons, q1, q2, g1.1, g3]
    exact ⟨trivial, trivial⟩
def inL (b : Nat) (l : List Nat) : Bool := l.any fun x => Nat.beq x b
theorem inL_spec {b : Nat} {l : List Nat} (h : inL b l = false) : b ∉ l := fun hm => by
  have : inL b l = true := List.any_eq_true.2 ⟨b, hm, Nat.beq_refl b⟩
  rw [h] at this
  cases this
def bornOK (clock : Nat) : List Nat → Bool
  | [] => true
  | b :: r => ite1 (Nat.blt b clock) <| ite1 (inot (inL b r)) <| bornOK clock r
theorem bornOK_spec {clock : Nat} : ∀ {l : List Nat}, bornOK clock l = true → (∀ b ∈ l, b < clock) ∧ l.Nodup
  | [], _ => ⟨fun b hb => absurd hb List.not_mem_nil, List.nodup_nil⟩
  | b :: r, h => by
    obtain ⟨h1, h2⟩ := ite1_spec (show ite1 (Nat.blt b clock) (ite1 (inot (inL b r)) (bornOK clock r)) = true from h)
    obtain ⟨h3, h4⟩ := ite1_spec h2
    obtain ⟨q1, q2⟩ := bornOK_spec h4
    refine ⟨fun x hx => ?_, List.nodup_cons.2 ⟨inL_spec (inot_cases h3), q2⟩⟩
    rcases List.mem_cons.1 hx with hx | hx
    · rw [hx]; exact Nat.blt_eq.mp h1
    · exact q1 x hx
def sameLL : List (List Nat) → List (List Nat) → Bool
  | [], [] => true
  | a :: r, b :: q => ite1 (seq a b) (sameLL r q)
  | _, _ => false
theorem sameLL_eq : ∀ {a b : List (List Nat)}, sameLL a b = true → a = b
  | [], [], _ => rfl
  | a :: r, b :: q, h => by
    obtain ⟨h1, h2⟩ := ite1_spec (show ite1 (seq a b) (sameLL r q) = true from h)
    rw [seq_eq] at h1
    rw [of_decide_eq_true h1, sameLL_eq h2]
  | [], _ :: _, h => Bool.noConfusion h
  | _ :: _, [], h => Bool.noConfusion h
def chS (l : List (List Nat)) : V := List.rec (motive := fun _ => V) .nil (fun a _ ih => .cons (.s a) ih) l
theorem chS_CR {ρ' : Ren} : ∀ {l : List (List Nat)} {vs : List Value}, (∀ a ∈ l, ∀ n ∈ a, n < 256) → (∀ (j : Nat) (a : List Nat), l[j]? = some a → vs[j]? = some (Value.string (bs a))) → CR ρ' (chS l) vs
  | [], _, _, _ => trivial
  | a :: l, vs, hb, hv => by
    have h0 := hv 0 a rfl
    cases vs with
    | nil => simp at h0
    | cons v vs =>
      simp only [List.getElem?_cons_zero, Option.some.injEq] at h0
      subst h0
      show CR ρ' (.cons (.s a) (chS l)) _
      simp only [CR]
      exact ⟨_, _, rfl, by simp only [VR]; exact ⟨trivial, hb a (List.mem_cons_self ..)⟩, chS_CR (fun x hx => hb x (List.mem_cons_of_mem _ hx)) fun j x hj => by simpa using hv (j + 1) x (by simpa using hj)⟩
def SortSaid (P : Program) (gS gK kt : Nat) (ins outs : List (List Nat)) : Prop := ∀ (w : World) (cb mb : Nat) (es : Array MapEntry) (clock : Nat), w.cell? ⟨cb, 0, none⟩ = some (.map (some mb)) → w.heap[mb]? = some (.map es clock) → Go.MapKept.Stamped es clock → es.toList.map (·.key) = ins.map (fun l => Value.string (bs l)) →
  Calls P gS #[.func (.func gK) #[] #[.pointer (some ⟨cb, 0, none⟩)]] w fun e w' => ∃ (g cap : Nat) (cur : Array Value), e = .returned (.slice (some ⟨g, 0, none⟩) outs.length cap) ∧ w.heap.size ≤ g ∧ w'.heap[g]? = some (.cells cur kt (0, 0)) ∧ outs.length ≤ cap ∧ cap ≤ cur.size ∧
    (∀ (j : Nat) (l : List Nat), outs[j]? = some l → cur.toList[j]? = some (Value.string (bs l))) ∧ Stays w w'
def sortC (gK clk : Nat) (ins : List (List Nat)) (args : V) (h : T O) : Bool := arg0 args fun f r => ite1 (isNilV r) <| vF f fun g c => ite1 (Nat.beq g gK) <| arg0 c fun p c2 => ite1 (isNilV c2) <| vP p fun cid off => ite1 (Nat.beq off 0) <| oV (gt O.none cid h) fun l _ => arg0 l fun m l2 => ite1 (isNilV l2) <| vM m fun mid => oM (gt O.none mid h) fun es clock =>
  eLst es fun ks bns => ite1 (sameLL ks ins) <| ite1 (bornOK clock bns) (Nat.ble clk clk)
def hkSorted (gK kt : Nat) (ins outs : List (List Nat)) (e : HookF) : HookF := fun args h nx K => Bool.rec (e args h nx K) (stK O.none (.c (chS outs) kt true) nx h fun h1 => K (.sl nx 0 outs.length 1) h1 (Nat.succ nx)) (sortC gK 0 ins args h)
theorem hkSorted_ok (hn : NameOK P) {g gK kt : Nat} {fn : Func} {cd : Code} (hf : P.funcs[g]? = some fn) (hb : fn.body = some cd) {e : HookF} (he : HookOk P ng g e) {ins outs : List (List Nat)} (hnd : (ins.map fun l => Value.string (bs l)).Nodup) (ho : ∀ a ∈ outs, ∀ n ∈ a, n < 256)
    (hC : SortSaid P g gK kt ins outs) : HookOk P ng g (hkSorted gK kt ins outs e) := by
  intro args h nx K Kp hk ρ w vs s hg hvs
  have hk0 : (Bool.rec (e args h nx K) (stK O.none (.c (chS outs) kt true) nx h fun h1 => K (.sl nx 0 outs.length 1) h1 (Nat.succ nx)) (sortC gK 0 ins args h) : Bool) = true := hk
  clear hk
  cases e0 : sortC gK 0 ins args h with
  | false => rw [e0] at hk0; exact he _ h nx K Kp hk0 ρ w vs s hg hvs
  | true =>
    rw [e0] at hk0
    have hk : stK O.none (.c (chS outs) kt true) nx h (fun h1 => K (.sl nx 0 outs.length 1) h1 (Nat.succ nx)) = true := hk0
    clear hk0
    rw [stK_eq] at hk
    unfold sortC at e0
    replace e0 := arg0_spec e0
    obtain ⟨f, r, rfl, e0⟩ := e0
    replace e0 := ite1_spec e0
    obtain ⟨e1, e0⟩ := e0
    have e1 := isNilV_spec e1
    subst e1
    replace e0 := vF_spec e0
    obtain ⟨gk, c, rfl, e0⟩ := e0
    replace e0 := ite1_spec e0
    obtain ⟨e2, e0⟩ := e0
    have e2 := beq_spec e2
    subst e2
    replace e0 := arg0_spec e0
    obtain ⟨p, c2, rfl, e0⟩ := e0
    replace e0 := ite1_spec e0
    obtain ⟨e3, e0⟩ := e0
    have e3 := isNilV_spec e3
    subst e3
    replace e0 := vP_spec e0
    obtain ⟨cid, off, rfl, e0⟩ := e0
    replace e0 := ite1_spec e0
    obtain ⟨e4, e0⟩ := e0
    have e4 := beq_spec e4
    subst e4
    replace e0 := oV_spec e0
    obtain ⟨l, ct, hcell, e0⟩ := e0
    replace e0 := arg0_spec e0
    obtain ⟨m, l2, rfl, e0⟩ := e0
    replace e0 := ite1_spec e0
    obtain ⟨e5, e0⟩ := e0
    have e5 := isNilV_spec e5
    subst e5
    replace e0 := vM_spec e0
    obtain ⟨mid, rfl, e0⟩ := e0
    replace e0 := oM_spec e0
    obtain ⟨es, clock, hmap, e0⟩ := e0
    replace e0 := eLst_spec e0
    obtain ⟨ks, bns, e0, hes⟩ := e0
    replace e0 := ite1_spec e0
    obtain ⟨e6, e0⟩ := e0
    have e6 := sameLL_eq e6
    subst e6
    obtain ⟨e7, _⟩ := ite1_spec e0
    obtain ⟨hb1, hb2⟩ := bornOK_spec e7
    simp only [VRs, VR] at hvs
    obtain ⟨v1, vr, rfl, ⟨cs, ⟨pv, pr, rfl, ⟨Lc, hLc, rfl⟩, rfl⟩, rfl⟩, rfl⟩ := hvs
    obtain ⟨oc, hoc, hor⟩ := s.rel cid Lc (by rw [hcell]; trivial) hLc
    rw [hcell] at hor
    obtain ⟨cvs, rfl, hcl, hcb, hcv⟩ := hor
    simp only [VRs, VR] at hcv
    obtain ⟨mv, mr, rfl, ⟨Lm, hLm, rfl⟩, rfl⟩ := hcv
    obtain ⟨om, hom, hor2⟩ := s.rel mid Lm (by rw [hmap]; trivial) hLm
    rw [hmap] at hor2
    obtain ⟨es', rfl, her⟩ := hor2
    obtain ⟨hk1, hk2⟩ := hes ρ _ her
    have hst : Go.MapKept.Stamped es' clock := ⟨fun x hx => hb1 _ (by rw [← hk2]; exact List.mem_map.2 ⟨x, hx, rfl⟩), by rw [hk2]; exact hb2, by rw [hk1]; exact hnd⟩
    have hc0 : w.cell? ⟨Lc.blk, 0, none⟩ = some (.map (some Lm.blk)) := by
      unfold World.cell?
      simp [hoc]
    rw [show Lc.base + 0 = 0 by omega]
    refine upon_new hn hf hb (y := .sl nx 0 outs.length 1) (ob := .c (chS outs) kt true) ?_ s hk
    refine (hC w Lc.blk Lm.blk es' clock hc0 hom hst hk1).mono fun e w' ⟨g', cp, cur, q1, q2, q3, q4, q5, q6, q7⟩ => ⟨.slice (some ⟨g', 0, none⟩) outs.length cp, ⟨g', 0, cur.size⟩, .cells cur kt (0, 0), q1, q2, q3, ?_, ?_, q7⟩
    · refine ⟨cur, (0, 0), rfl, rfl, fun _ q _ hq => ?_, Nat.zero_le _, ?_⟩
      · have := hq.2
        omega
      · rw [List.drop_zero]
        exact chS_CR ho q6
    · simp only [VR]
      exact ⟨_, cp, upd_same _ _ _, q4, by show 0 + 0 + cp * 1 ≤ cur.size; omega, rfl⟩
end
end Go.Mx
