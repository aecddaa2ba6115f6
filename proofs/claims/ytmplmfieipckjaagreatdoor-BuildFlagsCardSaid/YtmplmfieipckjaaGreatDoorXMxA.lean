/-
  A part of a small executor of the model, proved sound (MxA of 46). No condition.
-/
import Derived.Test.YtmplmfieipckjaaGreatDoorXMx17
import Derived.Laws.MakeOwn
namespace Go.Mx
open Instr Builtin
noncomputable section
variable {P : Program} {ρ : Ren} {h : T O} {nx : Nat} {w : World}
theorem opCap_sound {t : TypeId} {v : V} {K : V → Bool} {x : Value} {ts : Array TypeId} {args : Array Value} {ty : TypeId} (hk : opCap P t v K = true) (hv : VR ρ v x) (ht : ts[0]? = some t) (ha : args[0]? = some x) :
    ∃ y r, K y = true ∧ VR ρ y r ∧ (cap_ ts ty args).run P w = .ok r w := by
  obtain ⟨e1, hk⟩ := ite1_spec hk
  obtain ⟨ie, hu, hie⟩ := slE_pos e1
  have fin : ∀ A, x = .slice A 0 0 → (cap_ ts ty args).run P w = .ok (.int .i64 0) w := by
    intro A e
    subst e
    unfold cap_
    simp only [ht, ha, Sem.run_bind, run_und hu, Result.andThen_ok, Sem.run_pure, goInt]
    rfl
  cases v <;> first | exact Bool.noConfusion hk | skip
  case sn =>
    simp only [VR] at hv
    exact ⟨_, _, hk, VRi _ _ _, fin _ hv⟩
  case s0 =>
    simp only [VR] at hv
    obtain ⟨A, hv⟩ := hv
    exact ⟨_, _, hk, VRi _ _ _, fin _ hv⟩
theorem opSliceData_sound {v : V} {K : V → Bool} {x : Value} {ts : Array TypeId} {ty : TypeId} (hk : opSliceData v K = true) (hv : VR ρ v x) :
    ∃ y r, K y = true ∧ VR ρ y r ∧ (unsafeSliceData_ ts ty #[x]).run P w = .ok r w := by
  cases v <;> first | exact Bool.noConfusion hk | skip
  case sn =>
    simp only [VR] at hv
    subst hv
    exact ⟨.pn, .pointer none, hk, by simp [VR], rfl⟩
  case sl id off len sz =>
    obtain ⟨e1, hk⟩ := ite1_spec (show ite1 (Nat.blt 0 len) (K (.p id off)) = true from hk)
    have e1 := Nat.blt_eq.mp e1
    simp only [VR] at hv
    obtain ⟨L, cap, hL, h1, h2, rfl⟩ := hv
    have hc : cap ≠ 0 := by omega
    refine ⟨_, .pointer (some ⟨L.blk, L.base + off, none⟩), hk, by simp only [VR]; exact ⟨L, hL, rfl⟩, ?_⟩
    change Sem.run P (if cap ≠ 0 then pure (Value.pointer (some ⟨L.blk, L.base + off, none⟩)) else _) w = _
    rw [if_pos hc]
    rfl
theorem opMakeSlice_sound {t : TypeId} {ln cp : V} {K : KV} {vl vc : Value} (hk : opMakeSlice P t ln cp h nx K = true) (s : St ρ h nx w) (hl : VR ρ ln vl) (hc : VR ρ cp vc) :
    ∃ ρ' x h' nx' v w', K x h' nx' = true ∧ VR ρ' x v ∧ St ρ' h' nx' w' ∧ Ext ρ h w ρ' h' w' ∧ (Instr.makeSlice t vl vc).run P w = .ok v w' := by
  obtain ⟨kl, n, rfl, hk⟩ := vN_spec hk
  obtain ⟨kc, m, rfl, hk⟩ := vN_spec (v := cp) hk
  obtain ⟨e1, hk⟩ := ite1_spec hk
  obtain ⟨e2, hk⟩ := ite1_spec hk
  obtain ⟨e3, hk⟩ := ite1_spec hk
  have e1 := Nat.le_of_ble_eq_true e1
  have e2 := Nat.le_of_ble_eq_true e2
  have e3 := Nat.le_of_ble_eq_true e3
  cases hE : slE P t with
  | zero => rw [hE] at hk; exact Bool.noConfusion hk
  | succ sz =>
    rw [hE] at hk
    obtain ⟨ie, hu, hie, hsz⟩ := slE_spec hE
    cases hz : zeroC P (slT P t) with
    | none => rw [hz] at hk; exact Bool.noConfusion hk
    | some z =>
      rw [hz] at hk
      obtain ⟨zv, hzv, hzr⟩ := zeroC_spec hz
      obtain ⟨zn, hk, hzn, _⟩ := lenK_spec (show lenK z 0 (fun zn => ite1 (Nat.beq zn sz) <| ite1 (Nat.blt 0 sz) <| repK z m fun c => newK c (slT P t) h nx fun id h' nx' => K (.sl id 0 n sz) h' nx') = true from hk) (VRs_isC (hzr ρ))
      rw [Nat.zero_add] at hk
      obtain ⟨e4, hk⟩ := ite1_spec hk
      obtain ⟨e5, hk⟩ := ite1_spec hk
      have e4 := beq_spec e4
      have e5 := Nat.blt_eq.mp e5
      have hzs : zv.cells.size = sz := by have := hzn ρ _ (hzr ρ); simp at this; omega
      obtain ⟨c, hk, hrep⟩ := repK_spec hk (VRs_isC (hzr ρ))
      have hcc := hrep ρ _ (hzr ρ)
      obtain ⟨h', w', g1, rfl, g3, g4⟩ := newK_sound (K := fun id h' nx' => K (.sl id 0 n sz) h' nx') (vs := (List.replicate m zv.cells.toList).flatten) hk s hcc.CR'
      simp only [VR] at hl hc
      subst hl
      subst hc
      have hfl : (List.replicate m zv.cells.toList).flatten.length = m * sz := by simp [hzs]
      obtain ⟨i2, hi2, hz2⟩ : ∃ i2, P.info? (slT P t) = some i2 ∧ i2.zero = some zv := by
        have := hzv w
        simp only [zeroValue, typeInfo, Sem.run_bind] at this
        simp [hie] at this
        cases hiz : ie.zero with
        | none => simp [hiz] at this
        | some z' => simp [hiz] at this; exact ⟨ie, hie, by rw [hiz, this]⟩
      rw [hie] at hi2
      cases hi2
      have hb : ie.bytes * m ≤ 281474976710656 := by rw [bytes_of hie] at e3; exact e3
      have hb' : (ie.bytes : Int) * (m : Int) ≤ 281474976710656 := by
        have h : ((ie.bytes * m : Nat) : Int) ≤ 281474976710656 := by omega
        rwa [Int.natCast_mul] at h
      have hrun := run_make (P := P) w t (slT P t) ie zv hu hie hz2 kl kc (n : Int) (m : Int) (by omega) (by omega) hb' (by omega)
      refine ⟨_, _, _, _, .slice (some ⟨w.heap.size, 0, none⟩) n m, _, g1, ?_, g3, g4, ?_⟩
      · refine VR_sl (upd_same _ _ _) e1 ?_ rfl
        simp [hfl]
      · have hc2 : madeCells zv.cells (m * ie.size) = ⟨(List.replicate m zv.cells.toList).flatten⟩ := by
          apply Array.ext'
          have := range_mod zv.cells (by omega) m
          rw [hsz, ← hzs]
          simp only [madeCells, Array.toList_map, Array.toList_range]
          exact this
        rw [← hc2]
        simpa using hrun
theorem opCopy_sound {t : TypeId} {d sv : V} {K : V → T O → Bool} {vd vs : Value} {ts : Array TypeId} {args : Array Value} {ty : TypeId} (hk : opCopy P t d sv h K = true) (s : St ρ h nx w) (hd : VR ρ d vd) (hs : VR ρ sv vs)
    (ht : ts[0]? = some t) (ha : args[0]? = some vd) (hb : args[1]? = some vs) :
    ∃ y r h' w', K y h' = true ∧ VR ρ y r ∧ St ρ h' nx w' ∧ Ext ρ h w ρ h' w' ∧ (copy_ ts ty args).run P w = .ok r w' := by
  cases hE : slE P t with
  | zero => unfold opCopy at hk; rw [hE] at hk; exact Bool.noConfusion hk
  | succ sz =>
    unfold opCopy at hk
    rw [hE] at hk
    obtain ⟨ie, hu, hie, hsz⟩ := slE_spec hE
    obtain ⟨new, n, cells, hk1, hnew, hlen, hlo, hfc⟩ := srcK_spec (P := P) (sz := sz) hk s hs
    clear hk
    have hk := hk1
    clear hk1
    have fin : ∀ (base : Option Addr) (dLen dCap : Nat) (w' : World), vd = .slice base dLen dCap → n ≤ dLen → (match base with | some a => (storeCells a cells).run P w = .ok () w' | none => w' = w) → (copy_ ts ty args).run P w = .ok (.int .i64 (n : Int)) w' := by
      intro base dLen dCap w' e hle hst
      subst e
      have hmin : Nat.min n dLen = n := Nat.min_eq_left hle
      unfold copy_
      simp only [ht, ha, hb, Sem.run_bind, run_und hu, Result.andThen_ok, hlo, hmin, run_size hie, hsz, hfc w rfl, goInt]
      cases base with
      | none => simp only at hst; subst hst; simp
      | some a => simp only at hst ⊢; simp [hst]
    cases d <;> first | exact Bool.noConfusion hk | skip
    case sl id off len sz' =>
      obtain ⟨e1, hk3⟩ := ite1_spec (show ite1 (Nat.beq sz sz') (ite1 (Nat.ble n len) <| oC (gt O.none id h) fun l ty wr => ite1 wr <| putK l off new fun l' => stK O.none (O.c l' ty wr) id h fun h' => K (.i .i64 (Int.ofNat n)) h') = true from hk)
      obtain ⟨e2, hk4⟩ := ite1_spec hk3
      have e1 := beq_spec e1
      have e2 := Nat.le_of_ble_eq_true e2
      clear hk hk3
      subst e1
      obtain ⟨l, bty, wr, ho, hk5⟩ := oC_spec hk4
      clear hk4
      obtain ⟨hwr, hk⟩ := ite1_spec hk5
      clear hk5
      subst hwr
      simp only [VR] at hd
      obtain ⟨L, cap, hL, hc1, hc2, hd⟩ := hd
      obtain ⟨o, h2, h3⟩ := s.relC ho hL
      obtain ⟨arr, fz, rfl, h4, h5, h6, h7⟩ := h3
      obtain ⟨l', hk, _, hput, _⟩ := putK_spec hk (CR_isC h7) (VRs_isC hnew)
      rw [stK_eq] at hk
      obtain ⟨hcr', hle, hone⟩ := hput ρ _ _ h7 hnew
      simp only [List.length_drop, Array.length_toList] at hle
      have hsa : arr.toList.length = arr.size := by simp
      have hrun := run_storeCells_free P L.blk (L.base + off) bty fz cells 0 arr w h2 (by rw [h4]; exact h5) (by omega) hone
      have hor : OR ρ L (.c l' bty true) (.cells (lput arr.toList (L.base + off) cells).toArray bty fz) := by
        refine ⟨_, fz, rfl, ?_, h5, h6, ?_⟩
        · rw [List.size_toArray, lput_length _ _ _ (by omega)]; simpa using h4
        · have e := lput_drop arr.toList L.base off cells (by omega)
          simpa [e] using hcr'
      have hhe : (w.setRow L.blk (lput arr.toList (L.base + off) cells).toArray).heap = w.heap.setIfInBounds L.blk (.cells (lput arr.toList (L.base + off) cells).toArray bty fz) := setRow_heap_eq w _ _ _ _ _ h2
      have hst := s.write (id := id) (L := L) (asC_wr ho) hL hor hhe rfl rfl rfl
      refine ⟨_, _, _, _, hk, VRi _ _ _, hst.1, hst.2, ?_⟩
      exact fin _ _ _ _ hd e2 (by simpa using hrun)
    case sn =>
      obtain ⟨e1, hk⟩ := ite1_spec (show ite1 (Nat.beq n 0) (K (.i .i64 (Int.ofNat 0)) h) = true from hk)
      have e1 := beq_spec e1
      subst e1
      simp only [VR] at hd
      exact ⟨_, _, _, _, hk, VRi _ _ _, s, Ext.refl _ _ _, fin none 0 0 w hd (Nat.le_refl _) rfl⟩
    case se =>
      obtain ⟨e1, hk⟩ := ite1_spec (show ite1 (Nat.beq n 0) (K (.i .i64 (Int.ofNat 0)) h) = true from hk)
      have e1 := beq_spec e1
      subst e1
      have hnil : cells = [] := by apply List.eq_nil_of_length_eq_zero; omega
      subst hnil
      simp only [VR] at hd
      obtain ⟨A, c, hd⟩ := hd
      exact ⟨_, _, _, _, hk, VRi _ _ _, s, Ext.refl _ _ _, fin (some A) 0 c w hd (Nat.le_refl _) (by simp [storeCells])⟩
    case s0 =>
      obtain ⟨e1, hk⟩ := ite1_spec (show ite1 (Nat.beq n 0) (K (.i .i64 (Int.ofNat 0)) h) = true from hk)
      have e1 := beq_spec e1
      subst e1
      have hnil : cells = [] := by apply List.eq_nil_of_length_eq_zero; omega
      subst hnil
      simp only [VR] at hd
      obtain ⟨A, hd⟩ := hd
      exact ⟨_, _, _, _, hk, VRi _ _ _, s, Ext.refl _ _ _, fin (some A) 0 0 w hd (Nat.le_refl _) (by simp [storeCells])⟩
theorem tyk_u8 {t : TypeId} (h : Nat.beq (tyk P t) 7 = true) : P.underlying t = some (.int .u8) := by
  have h := beq_spec h
  obtain ⟨k, hk⟩ := tyk_int (P := P) (t := t) (by omega) (by omega)
  unfold tyk at h
  rw [hk] at h
  cases k <;> simp [ikn] at h <;> exact hk
theorem run_loadBytes (P : Program) (b : Nat) (ty : TypeId) (fz : Nat × Nat) (w : World) (arr : Array Value) (hh : w.heap[b]? = some (.cells arr ty fz)) :
    ∀ (l : List Nat) (off : Nat) (acc : ByteArray), (∀ j, j < l.length → arr[off + j]? = some (.int .u8 ((l.getD j 0 : Nat) : Int))) → (∀ n ∈ l, n < 256) →
      (loadBytes ⟨b, off, none⟩ acc l.length).run P w = .ok (l.foldl (fun a n => a.push (UInt8.ofNat n)) acc) w := by
  intro l
  induction l with
  | nil => intro off acc _ _; simp [loadBytes]
  | cons x l ih =>
    intro off acc ha hl
    have h0 := ha 0 (by simp)
    simp only [Nat.add_zero, List.getD_cons_zero] at h0
    have hr := run_load_of P w b off ty fz arr (.int .u8 (x : Int)) hh (by simpa using h0)
    simp only [List.length_cons, loadBytes, Sem.run_bind, hr, Result.andThen_ok, List.foldl_cons]
    have e : ((x : Int).toNat.toUInt8) = UInt8.ofNat x := by simp
    rw [e]
    have ha2 : ((⟨b, off, none⟩ : Addr).add 1) = ⟨b, off + 1, none⟩ := rfl
    rw [ha2]
    refine ih (off + 1) _ (fun j hj => ?_) (fun n hn => hl n (List.mem_cons_of_mem _ hn))
    have := ha (j + 1) (by simp; omega)
    simp only [List.getD_cons_succ] at this
    rw [show off + 1 + j = off + (j + 1) by omega]
    exact this
theorem foldl_push (l : List Nat) : ∀ acc : ByteArray, l.foldl (fun a n => a.push (UInt8.ofNat n)) acc = ⟨acc.data ++ (l.map UInt8.ofNat).toArray⟩ := by
  induction l with
  | nil => intro acc; simp
  | cons x l ih => intro acc; rw [List.foldl_cons, ih]; simp [ByteArray.push]
theorem opString_sound {pt : TypeId} {v ln : V} {K : V → T O → Bool} {x vn : Value} {ts : Array TypeId} {ty : TypeId} (hk : opString P pt v ln h K = true) (s : St ρ h nx w) (hv : VR ρ v x) (hn : VR ρ ln vn) (ht : ts[0]? = some pt) :
    ∃ y r h' w', K y h' = true ∧ VR ρ y r ∧ St ρ h' nx w' ∧ Ext ρ h w ρ h' w' ∧ (unsafeString_ ts ty #[x, vn]).run P w = .ok r w' := by
  obtain ⟨kd, n, rfl, hkA⟩ := vN_spec hk
  obtain ⟨e1, hkB⟩ := ite1_spec hkA
  obtain ⟨e2, hkC⟩ := ite1_spec hkB
  clear hk hkA hkB
  have hk := hkC
  clear hkC
  have e1 := Nat.le_of_ble_eq_true e1
  have e2 := beq_spec e2
  obtain ⟨el, hu⟩ := (tyk_cases pt).2.2.2.2.1 e2
  simp only [VR] at hn
  subst hn
  have n1 : ¬ ((n : Int) < 0) := by omega
  have n2 : ¬ ((n : Int) > IntKind.i64.max) := by rw [IntKind.max_i64]; omega
  have pre := fun (p : Option Addr) (x : Value) => (show unsafeString_ ts ty #[.pointer p, x] = (asInt x >>= _) from rfl)
  have zero : n = 0 → ∀ p, (unsafeString_ ts ty #[.pointer p, .int kd (n : Int)]).run P w = .ok (.string (bs [])) w := by
    intro e p
    subst e
    rw [pre]
    have n2 : ¬ (IntKind.i64.max < 0) := by rw [IntKind.max_i64]; omega
    cases p <;> simp [asInt, asIntOf, ht, bs] <;> rfl
  cases v <;> first | exact Bool.noConfusion hk | skip
  case pn =>
    obtain ⟨e3, hk3⟩ := ite1_spec (show ite1 (Nat.beq n 0) (K (.s []) h) = true from hk)
    simp only [VR] at hv
    subst hv
    exact ⟨_, _, _, _, hk3, by simp [VR], s, Ext.refl _ _ _, zero (beq_spec e3) none⟩
  case p id off =>
    have hk2 : (Bool.rec (oC (gt O.none id h) fun l ty wr => ite1 wr <| ite1 (Nat.beq (tyk P ty) 7) <| ite1 (Nat.beq (szk P ty) 2) <| ite1 (Nat.beq (tyk P (ptE P pt)) 7) <| dropK l off fun r => takeK r n fun c => bchK c fun t => stK O.none O.none id h fun h' => K (.s t) h') (K (.s []) h) (Nat.beq n 0) : Bool) = true := hk
    clear hk
    have hv2 := hv
    simp only [VR] at hv
    obtain ⟨L, hL, rfl⟩ := hv
    cases en : Nat.beq n 0 with
    | true =>
      rw [en] at hk2
      exact ⟨_, _, _, _, hk2, by simp [VR], s, Ext.refl _ _ _, zero (beq_spec en) _⟩
    | false =>
      rw [en] at hk2
      have hn0 : n ≠ 0 := fun e => by rw [e, Nat.beq_refl] at en; cases en
      obtain ⟨l, bty, wr, ho, hk3⟩ := oC_spec hk2
      clear hk2
      obtain ⟨hwr, hk4⟩ := ite1_spec hk3
      clear hk3
      subst hwr
      obtain ⟨e3, hk5⟩ := ite1_spec hk4
      obtain ⟨e4, hk6⟩ := ite1_spec hk5
      obtain ⟨e5, hk7⟩ := ite1_spec hk6
      clear hk4 hk5 hk6
      have u3 := tyk_u8 e3
      have u5 := tyk_u8 e5
      obtain ⟨i4, hi4, hs4⟩ := szk_spec (P := P) (t := bty) (n := 1) (beq_spec e4)
      obtain ⟨o, h2, h3⟩ := s.relC ho hL
      obtain ⟨arr, fz, rfl, h4, h5, h6, h7⟩ := h3
      obtain ⟨r, hk8, hrc, hr⟩ := dropK_spec hk7 (CR_isC h7)
      obtain ⟨c, hk9, hc⟩ := takeK_spec hk8 hrc
      obtain ⟨g1, g2⟩ := hr ρ _ h7
      obtain ⟨g3, g4⟩ := hc ρ _ g1
      obtain ⟨tl, hk10, htl, hte⟩ := bchK_spec hk9 (VRs_isC g3)
      rw [stK_eq] at hk10
      have hcells := hte ρ _ g3
      have htlen : tl.length = n := by
        have := congrArg List.length hcells
        simp only [List.length_take, List.length_map] at this
        omega
      simp only [List.length_drop, Array.length_toList] at g4
      have hle : L.base + off + n ≤ arr.size := by omega
      have hget : ∀ j, j < tl.length → arr[L.base + off + j]? = some (.int .u8 ((tl.getD j 0 : Nat) : Int)) := by
        intro j hj
        have e1 : (((arr.toList.drop L.base).drop off).take n)[j]? = arr[L.base + off + j]? := by
          rw [List.getElem?_take_of_lt (by omega), List.getElem?_drop, List.getElem?_drop, Array.getElem?_toList]
          rw [show L.base + (off + j) = L.base + off + j by omega]
        rw [← e1, hcells, List.getElem?_map]
        simp [List.getElem?_eq_getElem hj, List.getD_eq_getElem?_getD]
      have hload := run_loadBytes P L.blk bty fz w arr h2 tl (L.base + off) .empty hget htl
      rw [htlen, foldl_push] at hload
      have hbs : (⟨ByteArray.empty.data ++ (tl.map UInt8.ofNat).toArray⟩ : ByteArray) = bs tl := by simp [bs, ByteArray.empty, ByteArray.emptyWithCapacity]; rfl
      rw [hbs] at hload
      obtain ⟨el, hu⟩ : ∃ el, P.underlying pt = some (.pointer el) := ⟨el, hu⟩
      have hel : ptE P pt = el := by simp [ptE, hu]
      rw [hel] at u5
      have hvar : (variablesAt ⟨L.blk, L.base + off, none⟩ el n).run P w = .ok true w := by
        have hsh : w.shape? L.blk = some (bty, arr.size) := by simp [World.shape?, h2]
        have hco : P.cellsOf bty = 1 := by simp [Program.cellsOf, hi4, hs4]
        obtain ⟨d, hd⟩ : ∃ d, P.depth = d + 1 := ⟨_, rfl⟩
        have hsl : sameLayout P P.depth bty el = true := by rw [hd]; simp [sameLayout, u3, u5]
        have hrow : rowAt P (sameLayout P P.depth · el) P.depth bty (arr.size / 1) (L.base + off) n = true := by
          have hgen : ∀ f : TypeId → Bool, f bty = true → rowAt P f P.depth bty (arr.size / 1) (L.base + off) n = true := by
            intro f hf
            rw [hd]
            simp [rowAt, hco, hf, hle, Nat.mod_one]
          exact hgen _ hsl
        have hlies : liesAt P P.depth bty (arr.size / 1) (L.base + off) el n = true := by
          have : ∀ e, liesAt P (e + 1) bty (arr.size / 1) (L.base + off) el n = true := fun e => by unfold liesAt; rw [hrow]; rfl
          rw [hd]; exact this d
        unfold variablesAt
        simp only [Sem.run_bind, run_shape, Result.andThen_ok, hsh, hco, run_program, hlies, Sem.run_pure]
      have hfr : (w.freeze ⟨L.blk, L.base + off, none⟩ n).heap = w.heap.setIfInBounds L.blk (.cells arr bty (if fz.1 == fz.2 then (L.base + off, L.base + off + n) else (min fz.1 (L.base + off), max fz.2 (L.base + off + n)))) := by
        simp only [World.freeze, hn0, if_false]
        obtain ⟨lo, hi⟩ := fz
        apply Array.ext_getElem?
        intro k
        by_cases hkb : L.blk = k
        · subst hkb
          have hlt : L.blk < w.heap.size := (Array.getElem?_eq_some_iff.1 h2).1
          rw [Array.getElem?_modify, h2]
          simp [hlt]
        · rw [Array.getElem?_modify, Array.getElem?_setIfInBounds_ne hkb]
          simp [hkb]
      have hos : (w.freeze ⟨L.blk, L.base + off, none⟩ n).os = w.os ∧ (w.freeze ⟨L.blk, L.base + off, none⟩ n).tape = w.tape ∧ (w.freeze ⟨L.blk, L.base + off, none⟩ n).output = w.output := by
        simp [World.freeze, hn0]
      have hst := s.write (id := id) (L := L) (o := O.none) (asC_wr ho) hL (ob := .cells arr bty (if fz.1 == fz.2 then (L.base + off, L.base + off + n) else (min fz.1 (L.base + off), max fz.2 (L.base + off + n)))) trivial hfr hos.1 hos.2.1 hos.2.2
      refine ⟨_, .string (bs tl), _, _, hk10, by simp only [VR, true_and]; exact htl, hst.1, hst.2, ?_⟩
      show Sem.run P (unsafeString_ ts ty #[.pointer (some ⟨L.blk, L.base + off, none⟩), .int kd (n : Int)]) w = _
      rw [pre]
      have n3 : ¬ ((n : Int) = 0) := by omega
      have hel2 : (elemOf pt).run P w = .ok el w := by simp [elemOf, run_und hu]
      simp only [asInt, asIntOf, ht, n1, n2, n3, if_false, Sem.run_bind, Sem.run_pure, Result.andThen_ok, Int.toNat_natCast, hel2, hvar, if_true, hload, run_freeze]
end
end Go.Mx
