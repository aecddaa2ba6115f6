/-
  A part of a small executor of the model, proved sound (26 of 29). No condition.
-/
import Derived.Test.YtpodnhoafbbkkaaGreatDoorXMxAE
import Derived.Test.YtpodnhoafbbkkaaGreatDoorXRowK6
namespace Go.Mx
noncomputable section
variable {P : Program} {ng : Nat}
def retK (slot : Nat) : KX := fun x tm D _ _ _ => X.rec (motive := fun _ => Bool) false (fun _ => false) (ite1 (noD D) <| isB true (gt V.nil slot tm)) (fun _ => false) x
theorem mid_run {ex : EX} (hex : EXok P ng ex) {l : List (Nat × V)} (hl : inT ng l = true) {W : World} {ob : List (Nat × O)} {ρa : Ren} {nx : Nat} (hnx : ng ≤ nx) (hρ : ∀ i L, ρa i = some L → ng ≤ i ∧ i < nx)
    (hob : ∀ i, (gt O.none i (putO ob .leaf)).live → (ng ≤ i ∧ i < nx ∧ ¬ (gt O.none i (putO ob .leaf)).wr) ∧ ∀ L, ρa i = some L → ∃ o, W.heap[L.blk]? = some o ∧ OR ρa L (gt O.none i (putO ob .leaf)) o)
    {c : Code} {nt slot : Nat} {tm : T V} {a : Act} (ht : TR ρa tm a) (hn : nt ≤ a.tmps.size) (hd : a.defers = [])
    (hrun : ∀ τ : Nat → Nat, mkTK τ l (putO ob .leaf) (fun h0 => ex c nt tm .nil (.b false) h0 nx (retK slot)) = true) (tab : HasTables l W)
    {Q : Exit → Act → World → Prop} (hQ : ∀ (a' : Act) (W' : World), a'.defers = [] → a'.tmps.getD slot undef = .bool true → Stays W W' → Q .ret a' W') : c.wp P Q a W := by
  let τ : Nat → Nat := fun i => match W.heap[i]? with
    | some (.cells _ ty _) => ty
    | _ => 0
  let sz : Nat → Nat := fun i => match W.heap[i]? with
    | some (.cells arr _ _) => arr.size
    | _ => 0
  have hrun := hrun τ
  rw [mkTK_eq] at hrun
  let ρr : Ren := fun i => if i < ng then some ⟨i, 0, sz i⟩ else ρa i
  have hin := inT_spec hl
  have at0 := mkT_at τ l (putO ob (.leaf : T O))
  have hle : Ren.le ρa ρr := fun i L e => by
    have := (hρ i L e).1
    have h1 : ¬ i < ng := by omega
    simp only [ρr, h1, if_false]
    exact e
  have live0 : ∀ i, (gt O.none i (mkTb τ l (putO ob .leaf))).live → (∃ p ∈ l, p.1 = i ∧ gt O.none i (mkTb τ l (putO ob .leaf)) = tabO p.2 (τ i)) ∨ ((gt O.none i (putO ob .leaf)).live ∧ gt O.none i (mkTb τ l (putO ob .leaf)) = gt O.none i (putO ob .leaf)) := fun i hi => by
    rcases at0 i with h1 | ⟨_, h2⟩
    · exact .inl h1
    · rw [h2] at hi; exact .inr ⟨hi, h2⟩
  have nowr : ∀ i, ¬ (gt O.none i (mkTb τ l (putO ob .leaf))).wr := fun i hi => by
    rcases live0 i (O.live_of_wr hi) with ⟨p, _, _, e⟩ | ⟨h1, e⟩
    · rw [e] at hi
      exact Bool.noConfusion (show false = true from hi)
    · rw [e] at hi
      exact (hob i h1).1.2.2 hi
  have tl : ∀ {i : Nat} {L : Loc}, i < ng → ρr i = some L → L = ⟨i, 0, sz i⟩ := fun {i L} h e => by simpa [ρr, h, eq_comm] using e
  have al : ∀ {i : Nat} {L : Loc}, ng ≤ i → ρr i = some L → ρa i = some L := fun {i L} h e => by
    have h1 : ¬ i < ng := by omega
    simpa only [ρr, h1, if_false] using e
  have sr : St ρr (mkTb τ l (putO ob .leaf)) nx W := by
    refine ⟨fun id L hi hL => ?_, fun i j L M hi => (nowr i hi).elim, fun i hi => ?_, fun i hi hl' => ?_⟩
    · rcases live0 id hi with ⟨p, hp, rfl, e⟩ | ⟨h1, e⟩
      · obtain rfl := tl (hin p hp).1 hL
        obtain ⟨ar, t', h1, h2⟩ := tab p hp
        refine ⟨_, h1, ?_⟩
        have et : τ p.1 = t' := by simp only [τ, h1]
        have es : sz p.1 = ar.size := by simp only [sz, h1]
        rw [e, et]
        exact ⟨ar, (0, 0), rfl, es.symm, (fun hf => by cases hf), Nat.zero_le _, by simpa using plain_CR (hin p hp).2 h2⟩
      · obtain ⟨⟨q1, q2, q3⟩, q4⟩ := hob id h1
        obtain ⟨o, g1, g2⟩ := q4 L (al q1 hL)
        exact ⟨o, g1, by rw [e]; exact g2.mono hle⟩
    · have h1 : ¬ i < ng := by omega
      show (if i < ng then some _ else ρa i) = none
      rw [if_neg h1]
      cases e : ρa i with
      | none => rfl
      | some L => have := (hρ i L e).2; omega
    · rcases live0 i hl' with ⟨p, hp, rfl, _⟩ | ⟨h1, _⟩
      · have := (hin p hp).1
        omega
      · have := (hob i h1).1.2.1
        omega
  have gr : RG ng ρr := fun i hi => ⟨⟨i, 0, sz i⟩, by simp [ρr, hi], rfl, rfl⟩
  refine WG.wp fun cs => ?_
  refine (hex c nt tm .nil (.b false) _ nx (retK slot) hrun false default cs ρr _ W _ (fun ρ' z tm' D' U' h' nx' a' cs' w' hk s' x' g'' t' hn' hd' hu' => ?_) ρr a cs W sr (Ext.refl _ _ _) gr (fun i => (ht i).mono hle) hn (by rw [hd]; simp only [DR]) ⟨rfl, rfl⟩).1
  obtain ⟨_, rfl⟩ := hu'
  cases z with
  | n => exact Bool.noConfusion hk
  | x id => exact Bool.noConfusion hk
  | pk v => exact Bool.noConfusion hk
  | r =>
    obtain ⟨e1, e2⟩ := ite1_spec (show ite1 (noD D') (isB true (gt V.nil slot tm')) = true from hk)
    obtain ⟨_, hds⟩ := noD_spec e1 hd'
    obtain ⟨bb, hbv, hbb⟩ := vB_spec (show vB (gt V.nil slot tm') (fun b => bs_eq b true) = true from e2)
    have hbt : bb = true := by cases bb <;> first | rfl | exact Bool.noConfusion hbb
    have hv := t' slot
    rw [hbv, hbt] at hv
    simp only [VR] at hv
    exact ⟨rfl, hQ a' w' hds hv ⟨x'.size, x'.os, x'.tape, x'.output, fun b hb => (x'.kept b hb fun id L hw _ => (nowr id hw).elim).1⟩⟩
def pcM (M ng lo hi : Nat) : V := .cons (.o 1 (.m M) (ng + 1) lo hi) .nil
theorem pcM_R {M ng b off sz lo hi : Nat} {l : List UInt8} (h : lo ≤ l.length ∧ l.length ≤ hi) (hm : ∀ c ∈ l, tbN M c.toNat = false) : RR (bytesR ng b off sz l) (pcM M ng lo hi) l := by
  unfold pcM
  simp only [RR, PR]
  exact ⟨l, [], .inl ⟨trivial, ⟨0, enc l, 0⟩, by simp [bytesR], rfl, h.1, h.2, fun c hc => hm c hc⟩, rfl, by simp⟩
theorem pcM_L {M ng b off sz lo hi : Nat} {l : List UInt8} (h : lo ≤ l.length ∧ l.length ≤ hi) : LR (bytesR ng b off sz l) (pcM M ng lo hi) (l.length : Int) := by
  unfold pcM
  simp only [LR, MR]
  exact ⟨l.length, 0, .inl ⟨trivial, ⟨0, enc l, 0⟩, l, by simp [bytesR], rfl, h.1, h.2, rfl⟩, rfl, by simp⟩
theorem pcM_V {M ng b off sz lo hi cap : Nat} {l : List UInt8} (h : lo ≤ l.length ∧ l.length ≤ hi) (h1 : l.length ≤ cap) (h2 : off + cap ≤ sz) : VR (bytesR ng b off sz l) (.o 3 (pcM M ng lo hi) ng 0 0) (.slice (some ⟨b, off, none⟩) l.length cap) := by
  simp only [VR, OV]
  exact .inl (.inr (.inr (.inl ⟨trivial, ⟨b, off, sz⟩, l.length, cap, by simp [bytesR], pcM_L h, h1, h2, rfl⟩)))
theorem pcM_N {M ng b off sz lo hi : Nat} {l : List UInt8} (h : lo ≤ l.length ∧ l.length ≤ hi) : VR (bytesR ng b off sz l) (.o 2 (pcM M ng lo hi) 3 0 0) (.int .i64 (l.length : Int)) := by
  simp only [VR, OV]
  exact .inl (.inr (.inl ⟨trivial, (l.length : Int), pcM_L h, rfl⟩))
theorem pcM_ob {M ng b off lo hi cap ty : Nat} {l : List UInt8} {W : World} {arr : Array Value} {fz : Nat × Nat} (h : lo ≤ l.length ∧ l.length ≤ hi) (hm : ∀ c ∈ l, tbN M c.toNat = false) (hblk : W.heap[b]? = some (.cells arr ty fz)) (h1 : l.length ≤ cap) (h2 : off + cap ≤ arr.size)
    (hcs : (arr.toList.drop off).take l.length = l.map byteV) :
    ∀ i, (gt O.none i (putO [(ng, .r (pcM M ng lo hi) ty false)] .leaf)).live → (ng ≤ i ∧ i < ng + 2 ∧ ¬ (gt O.none i (putO [(ng, .r (pcM M ng lo hi) ty false)] .leaf)).wr) ∧
      ∀ L, bytesR ng b off arr.size l i = some L → ∃ o, W.heap[L.blk]? = some o ∧ OR (bytesR ng b off arr.size l) L (gt O.none i (putO [(ng, .r (pcM M ng lo hi) ty false)] .leaf)) o := by
  intro i hlv
  have e : gt O.none i (putO [(ng, .r (pcM M ng lo hi) ty false)] (.leaf : T O)) = if i = ng then .r (pcM M ng lo hi) ty false else O.none := by
    show gt O.none i (st O.none (.r (pcM M ng lo hi) ty false) ng .leaf) = _
    by_cases hin : i = ng
    · subst hin
      rw [gt_st_same, if_pos rfl]
    · rw [gt_st_ne _ _ (Ne.symm hin), gt_leaf, if_neg hin]
  rw [e] at hlv ⊢
  by_cases hin : i = ng
  · subst hin
    rw [if_pos rfl]
    refine ⟨⟨Nat.le_refl _, by omega, fun hw => Bool.noConfusion (show false = true from hw)⟩, fun L hL => ?_⟩
    have : L = ⟨b, off, arr.size⟩ := by simpa [bytesR, eq_comm] using hL
    subst this
    exact ⟨_, hblk, arr, fz, l, rfl, rfl, (fun hf => by cases hf), by show off + l.length ≤ arr.size; omega, pcM_R h hm, hcs⟩
  · rw [if_neg hin] at hlv
    exact hlv.elim
def sndN : Nat → Code → Code
  | 0, c => c
  | n + 1, .seq _ b => sndN n b
  | _ + 1, c => c
end
end Go.Mx
