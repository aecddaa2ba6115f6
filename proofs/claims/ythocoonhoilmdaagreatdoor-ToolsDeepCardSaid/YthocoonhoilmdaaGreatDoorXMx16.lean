/-
  A part of a small executor of the model, proved sound (8 of 28). No condition.
-/
import Derived.Test.YthocoonhoilmdaaGreatDoorXMxS
import Derived.Laws.BytesString
import Derived.Laws.BytesArg
namespace Go.Mx
open Instr Builtin
noncomputable section
variable {P : Program} {ρ : Ren} {h : T O} {nx : Nat} {w : World}
theorem dstK_spec {t : TypeId} {k : IntKind} (h : dstK P t = some k) : P.underlying t = some (.int k) := by
  unfold dstK at h
  split at h
  · rename_i k' hu; simp at h; subst h; exact hu
  · simp at h
theorem bytesToString_run {A : Addr} {len cap : Nat} {l : List Nat} (hl : (loadCells A len).run P w = .ok (l.map fun b : Nat => Value.int .u8 (b : Int)).toArray w) :
    (Conv.bytesToString (.slice (some A) len cap)).run P w = .ok (.string (bs l)) w := by
  have e : (l.map fun b : Nat => Value.int .u8 (b : Int)) = (l.map fun b : Nat => (b : Int)).map (Value.int .u8) := by simp
  rw [e] at hl
  rw [run_bytesToString w A len cap _ hl, foldl_push_bytes]
  congr 2
  apply ByteArray.ext
  simp [bs]
theorem freeze_push (w : World) (arr : Array Value) (e : TypeId) :
    (((w.alloc (.cells arr e)).freeze ⟨w.heap.size, arr.size, none⟩ 1)).heap = (w.alloc (.cells arr e (arr.size, arr.size + 1))).heap := by
  apply Array.ext_getElem?
  intro q
  simp only [World.freeze, Nat.one_ne_zero, if_false]
  show ((w.heap.push _).modify w.heap.size _)[q]? = (w.heap.push _)[q]?
  rw [Array.getElem?_modify, Array.getElem?_push, Array.getElem?_push]
  by_cases h : q = w.heap.size
  · subst h; simp
  · have : ¬ w.heap.size = q := fun e => h e.symm
    simp [h, this]
theorem stringToBytes_sound {e : TypeId} {l : List Nat} {K : KV} {c : V} (hk : newK c e h nx (fun id h' nx' => K (.sl id 0 l.length 1) h' nx') = true) (s : St ρ h nx w)
    (hc : ∀ ρ', Ren.le ρ ρ' → VRs ρ' c (l.map fun b : Nat => Value.int .u8 (b : Int))) (hl : ∀ n ∈ l, n < 256) :
    ∃ ρ' x h' nx' v w', K x h' nx' = true ∧ VR ρ' x v ∧ St ρ' h' nx' w' ∧ Ext ρ h w ρ' h' w' ∧ (Conv.stringToBytes e (bs l)).run P w = .ok v w' := by
  unfold newK at hk
  rw [stK_eq] at hk
  have hcap := cut_ge l.length 0 e (w.tape w.drawn (.appendCap l.length 0 e))
  generalize hC : (Question.appendCap l.length 0 e).cut (w.tape w.drawn (.appendCap l.length 0 e)) = cap at hcap
  let arr : Array Value := ⟨l.map fun b : Nat => Value.int .u8 (b : Int)⟩ ++ Array.replicate (cap - l.length) (.int .u8 0)
  have hsz : arr.size = cap := by simp [arr]; omega
  have s1 : St ρ h nx w.drew := s.heap rfl
  have hor : OR (upd ρ nx ⟨w.drew.heap.size, 0, cap⟩) ⟨w.drew.heap.size, 0, cap⟩ (.c c e true) (.cells arr e (arr.size, arr.size + 1)) := by
    refine ⟨arr, _, rfl, hsz, ?_, Nat.zero_le _, ?_⟩
    · intro _ q hq
      show ¬ (arr.size ≤ q ∧ (q < arr.size + 1 ∨ arr.size + 1 < arr.size))
      have : q < cap := hq
      omega
    · show CR _ c (arr.toList.drop 0)
      have : arr.toList.drop 0 = (l.map fun b : Nat => Value.int .u8 (b : Int)) ++ List.replicate (cap - l.length) (.int .u8 0) := by simp [arr]
      rw [this]
      exact (hc _ (upd_le (s1.fresh nx (Nat.le_refl _)))).CR _
  obtain ⟨q1, q2⟩ := s1.alloc hor
  have hheap := freeze_push w.drew arr e
  refine ⟨_, _, _, _, .slice (some ⟨w.heap.size, 0, none⟩) l.length cap, (w.drew.alloc (.cells arr e)).freeze ⟨w.heap.size, arr.size, none⟩ 1, hk, ?_, q1.heap hheap, ?_, ?_⟩
  · exact VR_sl (upd_same _ _ _) hcap (by simp) rfl
  · exact Ext.trans (Ext.same (w := w) (w' := w.drew) rfl rfl rfl rfl) (Ext.trans q2 (Ext.same hheap rfl rfl rfl))
  · unfold Conv.stringToBytes
    have hch : (choose (.appendCap l.length 0 e)).run P w = .ok cap w.drew := by
      simp only [run_choose, Question.forced, Bool.false_eq_true, if_false, hC]
      rfl
    simp only [Sem.run_bind, hch, Result.andThen_ok, newRow, run_newObj, Sem.run_pure, bs_cells hl, bs_size, markStringish, run_shape]
    have hshape : (w.drew.alloc (.cells arr e)).shape? w.heap.size = some (e, arr.size) := by
      show (match (w.heap.push (.cells arr e))[w.heap.size]? with | some (.cells c elem _) => some (elem, c.size) | _ => none) = _
      simp
    change (((Sem.run P (match (w.drew.alloc (.cells arr e)).shape? w.heap.size with | some (_, n) => freeze ⟨w.heap.size, n, none⟩ 1 | _ => pure ()) (w.drew.alloc (.cells arr e)))).andThen fun _ w' => Result.ok (Value.slice (some ⟨w.heap.size, 0, none⟩) l.length cap) w') = _
    rw [hshape]
    rfl
theorem ropeToBytes {e : TypeId} {l : List Nat} {K : KV} {c m : V} (hk : stK O.none (O.r c e true) nx h (fun h' => K (.o 3 m nx 0 0) h' (Nat.succ nx)) = true) (s : St ρ h nx w) (hl : ∀ n ∈ l, n < 256)
    (hc : RR ρ c (l.map UInt8.ofNat)) (hm : LR ρ m (l.length : Int)) :
    ∃ ρ' x h' nx' v w', K x h' nx' = true ∧ VR ρ' x v ∧ St ρ' h' nx' w' ∧ Ext ρ h w ρ' h' w' ∧ (Conv.stringToBytes e (bs l)).run P w = .ok v w' := by
  rw [stK_eq] at hk
  have hcap := cut_ge l.length 0 e (w.tape w.drawn (.appendCap l.length 0 e))
  generalize hC : (Question.appendCap l.length 0 e).cut (w.tape w.drawn (.appendCap l.length 0 e)) = cap at hcap
  let arr : Array Value := ⟨l.map fun b : Nat => Value.int .u8 (b : Int)⟩ ++ Array.replicate (cap - l.length) (.int .u8 0)
  have hsz : arr.size = cap := by simp [arr]; omega
  have s1 : St ρ h nx w.drew := s.heap rfl
  have hle := upd_le (L := ⟨w.drew.heap.size, 0, cap⟩) (s1.fresh nx (Nat.le_refl _))
  have hbv : (l.map UInt8.ofNat).map byteV = l.map fun b : Nat => Value.int .u8 (b : Int) := bytesV_bs hl
  have hor : OR (upd ρ nx ⟨w.drew.heap.size, 0, cap⟩) ⟨w.drew.heap.size, 0, cap⟩ (.r c e true) (.cells arr e (arr.size, arr.size + 1)) := by
    refine ⟨arr, _, l.map UInt8.ofNat, rfl, hsz, ?_, by simp; omega, hc.mono hle, ?_⟩
    · intro _ q hq
      show ¬ (arr.size ≤ q ∧ (q < arr.size + 1 ∨ arr.size + 1 < arr.size))
      have : q < cap := hq
      omega
    · show (arr.toList.drop 0).take (l.map UInt8.ofNat).length = (l.map UInt8.ofNat).map byteV
      rw [hbv]
      simp [arr]
  obtain ⟨q1, q2⟩ := s1.alloc hor
  have hheap := freeze_push w.drew arr e
  refine ⟨_, _, _, _, .slice (some ⟨w.heap.size, 0, none⟩) l.length cap, (w.drew.alloc (.cells arr e)).freeze ⟨w.heap.size, arr.size, none⟩ 1, hk, ?_, q1.heap hheap, ?_, ?_⟩
  · exact VR_o3 (upd_same _ _ _) (hm.mono hle) hcap (by show 0 + cap ≤ cap; omega)
  · exact Ext.trans (Ext.same (w := w) (w' := w.drew) rfl rfl rfl rfl) (Ext.trans q2 (Ext.same hheap rfl rfl rfl))
  · unfold Conv.stringToBytes
    have hch : (choose (.appendCap l.length 0 e)).run P w = .ok cap w.drew := by
      simp only [run_choose, Question.forced, Bool.false_eq_true, if_false, hC]
      rfl
    simp only [Sem.run_bind, hch, Result.andThen_ok, newRow, run_newObj, Sem.run_pure, bs_cells hl, bs_size, markStringish, run_shape]
    have hshape : (w.drew.alloc (.cells arr e)).shape? w.heap.size = some (e, arr.size) := by
      show (match (w.heap.push (.cells arr e))[w.heap.size]? with | some (.cells c elem _) => some (elem, c.size) | _ => none) = _
      simp
    change (((Sem.run P (match (w.drew.alloc (.cells arr e)).shape? w.heap.size with | some (_, n) => freeze ⟨w.heap.size, n, none⟩ 1 | _ => pure ()) (w.drew.alloc (.cells arr e)))).andThen fun _ w' => Result.ok (Value.slice (some ⟨w.heap.size, 0, none⟩) l.length cap) w') = _
    rw [hshape]
    rfl
theorem encode_ascii {m : Nat} (h : m < 128) : Utf8.encode (m : Int) = bs [m] := by
  have h1 : Utf8.valid (m : Int) = true := by simp [Utf8.valid]; omega
  have h2 : m < 0x80 := h
  simp [Utf8.encode, h1, h2, bs]
theorem decode_ascii {l : List Nat} {pos c : Nat} (hg : l[pos]? = some c) (h : c < 128) : Utf8.decode (bs l) pos = (c, 1) := by
  have hp : pos < l.length := (List.getElem?_eq_some_iff.1 hg).1
  have hv := (List.getElem?_eq_some_iff.1 hg).2
  have e : ((bs l).get! (pos + 0)).toNat = c := by
    have : (bs l).get! pos = UInt8.ofNat c := by
      show (bs l).data[pos]! = _
      simp [bs, hp, hv]
    rw [Nat.add_zero, this, UInt8.toNat_ofNat', Nat.mod_eq_of_lt (by omega)]
  unfold Utf8.decode
  simp only [e]
  rw [if_pos (by omega)]
theorem tyk_unsafe {t : TypeId} (h : Nat.beq (tyk P t) 27 = true) : P.underlying t = some .unsafePointer := by
  have h := beq_spec h
  unfold tyk at h
  cases hu : P.underlying t with
  | none => rw [hu] at h; simp at h
  | some d =>
    rw [hu] at h
    cases d <;> first | rfl | (simp at h; done) | skip
    case int k => cases k <;> simp [ikn] at h
    case slice e => cases he : P.underlying e with
      | none => simp [he] at h
      | some d2 => simp only [he] at h; split at h <;> simp_all
theorem cvP_sound {a d : TypeId} {id off : Nat} {K : V → Bool} {vx : Value} (hk : cvP P a d id off h K = true) (s : St ρ h nx w) (hx : VR ρ (.p id off) vx) :
    ∃ y r, K y = true ∧ VR ρ y r ∧ (convert a d vx).run P w = .ok r w := by
  unfold cvP at hk
  cases e1 : Nat.beq (tyk P a) 25 with
  | true =>
    rw [e1] at hk
    obtain ⟨e2, hk2⟩ := ite1_spec (show ite1 (Nat.beq (tyk P d) 27) (ite1 (Nat.blt 1 (szk P (ptE P a))) <| oC (gt O.none id h) fun l _ _ => nthK l off fun _ => K (.p id off)) = true from hk)
    obtain ⟨e3, hk3⟩ := ite1_spec hk2
    obtain ⟨l, ty, wr, ho, hk4⟩ := oC_spec hk3
    obtain ⟨x, hk5, hn⟩ := nthK_spec hk4
    obtain ⟨L, arr, fz, hL, rfl, h2, h4, h5, h6, h7⟩ := s.at ho hx
    obtain ⟨v, hv, _⟩ := hn ρ _ h7
    obtain ⟨el, hu⟩ := (tyk_cases (P := P) a).2.2.2.2.1 (beq_spec e1)
    have hel : ptE P a = el := by simp [ptE, hu]
    rw [hel] at e3
    have e3 := Nat.blt_eq.mp e3
    obtain ⟨i, hi, hsz⟩ := szk_spec (P := P) (t := el) (n := szk P el - 1) (by omega)
    refine ⟨_, _, hk5, hx, ?_⟩
    have hsh : w.shape? L.blk = some (ty, arr.size) := by simp [World.shape?, h2]
    have hoff : L.base + off < arr.size := by
      rw [List.getElem?_drop, Array.getElem?_toList] at hv
      exact (Array.getElem?_eq_some_iff.1 hv).1
    exact Lib.run_to_unsafe w ⟨L.blk, L.base + off, none⟩ hu (tyk_unsafe e2) hi (by omega) hsh hoff
  | false =>
    rw [e1] at hk
    obtain ⟨e2, hk2⟩ := ite1_spec (show ite1 (Nat.beq (tyk P a) 27) (ite1 (Nat.beq (tyk P d) 25) <| oV (gt O.none id h) fun l ty => lenK l 0 fun n => ite1 (Nat.blt 0 n) <| ite1 (Nat.beq (szk P ty) (Nat.succ n)) <| ite1 (Nat.blt 0 (szk P (ptE P d))) <| ite1 (liesAt P P.depth ty 1 off (ptE P d) 1) <| K (.p id off)) = true from hk)
    obtain ⟨e3, hk4⟩ := ite1_spec hk2
    obtain ⟨l, ty, ho, hk6⟩ := oV_spec hk4
    have hx2 := hx
    simp only [VR] at hx2
    obtain ⟨L, hL, rfl⟩ := hx2
    obtain ⟨o, h2, h3⟩ := s.rel id L (by rw [ho]; trivial) hL
    rw [ho] at h3
    obtain ⟨vs, rfl, h4, h5, h6⟩ := h3
    obtain ⟨n, hk7, hlen, _⟩ := lenK_spec hk6 (VRs_isC h6)
    rw [Nat.zero_add] at hk7
    have hlen := hlen ρ _ h6
    obtain ⟨e6, hk8⟩ := ite1_spec hk7
    obtain ⟨e7, hk9⟩ := ite1_spec hk8
    obtain ⟨e8, hk10⟩ := ite1_spec hk9
    obtain ⟨e9, hk11⟩ := ite1_spec hk10
    have e6 := Nat.blt_eq.mp e6
    have e8 := Nat.blt_eq.mp e8
    obtain ⟨i, hi, hsz⟩ := szk_spec (P := P) (t := ty) (n := n) (beq_spec e7)
    obtain ⟨el, hu⟩ := (tyk_cases (P := P) d).2.2.2.2.1 (beq_spec e3)
    have hel : ptE P d = el := by simp [ptE, hu]
    rw [hel] at e8 e9
    obtain ⟨i2, hi2, _⟩ := szk_spec (P := P) (t := el) (n := szk P el - 1) (by omega)
    refine ⟨_, _, hk11, hx, ?_⟩
    have hsh : w.shape? L.blk = some (ty, vs.length) := by simp [World.shape?, h2]
    have hco : P.cellsOf ty = n := by simp [Program.cellsOf, hi, hsz]
    refine Lib.run_from_unsafe w ⟨L.blk, L.base + off, none⟩ (tyk_unsafe e2) hu hi2 hsh ?_
    rw [h5, hco, show vs.length / n = 1 by rw [← hlen]; exact Nat.div_self (by omega), Nat.zero_add]
    exact e9
def markFz (fz : Nat × Nat) (n : Nat) : Nat × Nat := if fz.1 == fz.2 then (n, n + 1) else (min fz.1 n, max fz.2 (n + 1))
theorem markFz_ok {fz : Nat × Nat} {n m : Nat} (h4 : n = m) (h5 : ∀ q, q < m → ¬ (fz.1 ≤ q ∧ (q < fz.2 ∨ fz.2 < fz.1))) : ∀ q, q < m → ¬ ((markFz fz n).1 ≤ q ∧ (q < (markFz fz n).2 ∨ (markFz fz n).2 < (markFz fz n).1)) := by
  intro q hq
  unfold markFz
  split
  · simp only; omega
  · rename_i hne
    have hne : fz.1 ≠ fz.2 := by simpa using hne
    have : m ≤ fz.1 := by
      rcases Nat.lt_or_ge fz.1 m with h | h
      · exact absurd ⟨Nat.le_refl _, by omega⟩ (h5 fz.1 h)
      · exact h
    simp only
    omega
theorem convertSame_sound {a d : TypeId} {id off len sz : Nat} {vx : Value} {K : KV} (e1 : Nat.beq (tyk P a) 20 = true)
    (hk : ite1 (Nat.beq a d) (oC (gt O.none id h) fun l ty wr => ite1 wr <| stK O.none (O.c l ty true) id h fun h' => K (.sl id off len sz) h' nx) = true) (s : St ρ h nx w) (hx : VR ρ (.sl id off len sz) vx) :
    ∃ ρ' y h' nx' v w', K y h' nx' = true ∧ VR ρ' y v ∧ St ρ' h' nx' w' ∧ Ext ρ h w ρ' h' w' ∧ (convert a d vx).run P w = .ok v w' := by
  obtain ⟨e2, hk3⟩ := ite1_spec hk
  have e2 := beq_spec e2
  subst e2
  obtain ⟨l, bty, wr, ho, hk4⟩ := oC_spec hk3
  obtain ⟨ewr, hk5⟩ := ite1_spec hk4
  subst ewr
  rw [stK_eq] at hk5
  have hx0 := hx
  simp only [VR] at hx
  obtain ⟨L, cap, hL, hc1, hc2, rfl⟩ := hx
  obtain ⟨o, h2, h3⟩ := s.relC ho hL
  obtain ⟨arr, fz, rfl, h4, h5, h6, h7⟩ := h3
  obtain ⟨e, hu, hue⟩ := (tyk_cases (P := P) a).2.2.2.2.2.2.1 (beq_spec e1)
  have hsh : w.shape? L.blk = some (bty, arr.size) := by
    unfold World.shape?
    rw [h2]
  have hfr : (w.freeze ⟨L.blk, arr.size, none⟩ 1).heap = w.heap.setIfInBounds L.blk (.cells arr bty (markFz fz arr.size)) := by
    simp only [World.freeze, markFz]
    rw [if_neg (by decide)]
    obtain ⟨lo, hi⟩ := fz
    apply Array.ext_getElem?
    intro k
    by_cases hkb : L.blk = k
    · subst hkb
      have hlt : L.blk < w.heap.size := (Array.getElem?_eq_some_iff.1 h2).1
      rw [Array.getElem?_modify, h2]
      simp [hlt]
    · rw [Array.getElem?_modify, Array.getElem?_setIfInBounds_ne hkb]
      simp [hkb]
  have hos : (w.freeze ⟨L.blk, arr.size, none⟩ 1).os = w.os ∧ (w.freeze ⟨L.blk, arr.size, none⟩ 1).tape = w.tape ∧ (w.freeze ⟨L.blk, arr.size, none⟩ 1).output = w.output := by
    simp [World.freeze]
  obtain ⟨k1, k2⟩ := s.write (asC_wr ho) hL (o := O.c l bty true) (ob := .cells arr bty (markFz fz arr.size)) ⟨arr, _, rfl, h4, fun _ => markFz_ok h4 (h5 rfl), h6, h7⟩ hfr hos.1 hos.2.1 hos.2.2
  refine ⟨ρ, _, _, nx, _, _, hk5, hx0, k1, k2, ?_⟩
  unfold convert
  simp [Sem.run_bind, run_und hu, run_und hue, Result.andThen_ok, markStringish, run_shape, hsh]
theorem convX {a d : TypeId} {ds : TypeDesc} {ax lo hi : Nat} {kx : IntKind} {vx : Value} {G : V → Bool} (hs : P.underlying a = some ds)
    (hk2 : (Option.rec (motive := fun _ => Bool) (ite1 (Nat.beq (tyk P d) 1) <| ite1 (Nat.blt hi 128) <| G (.w (.cons (.x ax .u8 lo hi) .nil))) (fun kd => ite1 (Nat.ble hi (mxK kd)) <| G (.x ax kd lo hi)) (dstK P d) : Bool) = true) (hx : VR ρ (.x ax kx lo hi) vx) :
    ∃ y v, G y = true ∧ VR ρ y v ∧ (convert a d vx).run P w = .ok v w := by
  simp only [VR] at hx
  obtain ⟨L, q1, q2, q3, rfl⟩ := hx
  cases hd : dstK P d with
  | some kd =>
    rw [hd] at hk2
    obtain ⟨e2, hk3⟩ := ite1_spec (show ite1 (Nat.ble hi (mxK kd)) (G (.x ax kd lo hi)) = true from hk2)
    have e2 := Nat.le_of_ble_eq_true e2
    have hw : kd.wrap (L.base : Int) = (L.base : Int) := by
      cases kd <;> (simp only [mxK] at e2; exact wrap_small _ _ (by simp; omega))
    have hrun : (convert a d (.int kx (L.base : Int))).run P w = .ok (.int kd (kd.wrap (L.base : Int))) w := by
      unfold convert
      simp only [Sem.run_bind, run_und hs, run_und (dstK_spec hd), Result.andThen_ok]
      rfl
    rw [hw] at hrun
    exact ⟨_, _, hk3, by simp only [VR]; exact ⟨L, q1, q2, q3, rfl⟩, hrun⟩
  | none =>
    rw [hd] at hk2
    obtain ⟨e2, hk3⟩ := ite1_spec (show ite1 (Nat.beq (tyk P d) 1) (ite1 (Nat.blt hi 128) <| G (.w (.cons (.x ax .u8 lo hi) .nil))) = true from hk2)
    have hu := (tyk_cases (P := P) d).1 (beq_spec e2)
    obtain ⟨e3, hk4⟩ := ite1_spec hk3
    have e3 := Nat.blt_eq.mp e3
    have hb : ∀ n ∈ [L.base], n < 256 := by simp; omega
    refine ⟨_, .string (bs [L.base]), hk4, ?_, ?_⟩
    · simp only [VR]
      refine ⟨_, rfl, ?_⟩
      rw [bytesV_bs hb]
      simp only [List.map_cons, List.map_nil, VRs, VR]
      exact ⟨_, _, rfl, ⟨L, q1, q2, q3, rfl⟩, rfl⟩
    · unfold convert
      simp only [Sem.run_bind, run_und hs, run_und hu, Result.andThen_ok]
      show (Conv.intToString (Int.ofNat L.base)).run P w = _
      rw [show Conv.intToString (Int.ofNat L.base) = pure (.string (Utf8.encode (L.base : Int))) from rfl, encode_ascii (by omega)]
      rfl
theorem cvO_sound {a d : TypeId} {t : Nat} {l : V} {id x' y' : Nat} {vx : Value} {K : KV} (hk : cvO P a d t l id h nx K = true) (s : St ρ h nx w) (hx : VR ρ (.o t l id x' y') vx) :
    ∃ ρ' y h' nx' v w', K y h' nx' = true ∧ VR ρ' y v ∧ St ρ' h' nx' w' ∧ Ext ρ h w ρ' h' w' ∧ (convert a d vx).run P w = .ok v w' := by
  obtain ⟨e1, hk2⟩ := ite1_spec hk
  have e1 := Nat.blt_eq.mp e1
  obtain ⟨ds, hs⟩ := (tyk_cases (P := P) a).2.2.2.2.2.2.2.1 (Nat.pos_iff_ne_zero.1 e1)
  cases e0 : Nat.beq t 0 with
  | true =>
    rw [e0] at hk2
    obtain ⟨b, rfl, hb⟩ := rope_of (beq_spec e0) hx
    cases e2 : Nat.beq (tyk P d) 1 with
    | true =>
      rw [e2] at hk2
      have hu := (tyk_cases (P := P) d).1 (beq_spec e2)
      refine ⟨ρ, _, h, nx, .string b, w, hk2, VR_rope hb, s, Ext.refl _ _ _, ?_⟩
      unfold convert
      simp only [Sem.run_bind, run_und hs, run_und hu, Result.andThen_ok]
      rfl
    | false =>
      rw [e2] at hk2
      obtain ⟨e3, hk3⟩ := ite1_spec hk2
      obtain ⟨e, hu, hue⟩ := (tyk_cases (P := P) d).2.2.2.2.2.2.1 (beq_spec e3)
      obtain ⟨m, hk4, _, hm⟩ := lenR_spec hk3
      have hslt : slT P d = e := by simp [slT, hu]
      rw [hslt] at hk4
      have hl : ∀ n ∈ b.data.toList.map UInt8.toNat, n < 256 := by
        intro n hn
        obtain ⟨c, _, rfl⟩ := List.mem_map.1 hn
        exact UInt8.toNat_lt c
      obtain ⟨ρ', y, h', nx', v, w', q1, q2, q3, q4, q5⟩ := ropeToBytes (P := P) (l := b.data.toList.map UInt8.toNat) hk4 s hl (by rw [map_ofNat_toNat]; exact hb) (by rw [List.length_map]; exact hm ρ _ hb)
      refine ⟨ρ', y, h', nx', v, w', q1, q2, q3, q4, ?_⟩
      rw [bs_bytes] at q5
      unfold convert
      simp only [Sem.run_bind, run_und hs, run_und hu, Result.andThen_ok, run_und hue]
      exact q5
  | false =>
    rw [e0] at hk2
    cases e2 : Nat.beq t 2 with
    | true =>
      rw [e2] at hk2
      obtain ⟨n, hn, rfl⟩ := num_of (beq_spec e2) hx
      cases hd : dstK P d with
      | none => rw [hd] at hk2; exact Bool.noConfusion hk2
      | some kd =>
        rw [hd] at hk2
        obtain ⟨y, hk6, hy⟩ := mkW_spec (show mkW (ikn kd) l (fun v => K v h nx) = true from hk2)
        have hy2 := hy ρ _ hn
        rw [kOfN_ikn] at hy2
        refine ⟨ρ, y, h, nx, .int kd (kd.wrap n), w, hk6, hy2, s, Ext.refl _ _ _, ?_⟩
        have hrun : (convert a d (.int (kOfN id) n)).run P w = .ok (.int kd (kd.wrap n)) w := by
          unfold convert
          simp only [Sem.run_bind, run_und hs, run_und (dstK_spec hd), Result.andThen_ok]
          rfl
        rw [hrun]
    | false =>
      rw [e2] at hk2
      obtain ⟨e3, hk3⟩ := ite1_spec hk2
      obtain ⟨e4, hk4⟩ := ite1_spec hk3
      obtain ⟨e5, hk5⟩ := ite1_spec hk4
      obtain ⟨L, n, cap, hL, hn, hc1, hc2, rfl⟩ := slice_of (beq_spec e3) hx
      obtain ⟨c, ty, wr, ho, hk6⟩ := oR_spec hk5
      obtain ⟨m, hk7, _, hm⟩ := lenR_spec hk6
      obtain ⟨arr, fz, sb, g1, g2, g3, g4, g5, g6⟩ := s.relR ho hL
      obtain ⟨e, hu, hue⟩ := (tyk_cases (P := P) a).2.2.2.2.2.2.1 (beq_spec e4)
      have hd := (tyk_cases (P := P) d).1 (beq_spec e5)
      have key : ∀ y : V, n ≤ sb.length → K y h nx = true → VR ρ y (.string (bs ((sb.take n).map UInt8.toNat))) → ∃ ρ' y h' nx' v w', K y h' nx' = true ∧ VR ρ' y v ∧ St ρ' h' nx' w' ∧ Ext ρ h w ρ' h' w' ∧ (convert a d (.slice (some ⟨L.blk, L.base, none⟩) n cap)).run P w = .ok v w' := fun y hn2 hky hyv => by
        have hbv : ∀ q : List UInt8, (q.map UInt8.toNat).map (fun b : Nat => Value.int .u8 (b : Int)) = q.map byteV := fun q => by simp [byteV]
        have hload := run_loadCells_of P w L.blk L.base n ty fz arr g1 (by omega)
        have hcell : (arr.toList.drop L.base).take n = (sb.map byteV).take n := by rw [← g6, List.take_take, Nat.min_eq_left hn2]
        rw [hcell, ← List.map_take, ← hbv] at hload
        have hb := bytesToString_run (P := P) (w := w) (len := n) (cap := cap) (A := ⟨L.blk, L.base, none⟩) hload
        refine ⟨ρ, y, h, nx, .string (bs ((sb.take n).map UInt8.toNat)), w, hky, hyv, s, Ext.refl _ _ _, ?_⟩
        rw [run_convert_bytes_string w a d e _ _ _ hu hue hd]
        exact hb
      cases e6 : sameV m l with
      | true =>
        rw [e6] at hk7
        have e6 := sameV_eq e6
        subst e6
        have hnn : n = sb.length := by have := hn.fn (hm ρ _ g5); omega
        obtain ⟨y, hk9, hy⟩ := strR_spec hk7 (RR_isC g5)
        exact key y (by omega) hk9 (hy ρ _ (by rw [bs_data, map_ofNat_toNat, hnn, List.take_length]; exact g5))
      | false =>
        rw [e6] at hk7
        obtain ⟨n2, l2, hk8, hl2, hn2⟩ := splS_spec (show splS l (fun n2 l2 => takeL c n2 l2 fun c => strR c fun v => K v h nx) = true from hk7) (LR_isC hn)
        obtain ⟨u, f3, f4⟩ := hn2 ρ _ hn
        obtain ⟨r, hk9, hrc, hr⟩ := takeL_spec hk8 (RR_isC g5) hl2
        obtain ⟨j, p0, p1, p2⟩ := hr ρ _ u g5 f3
        have hj : n = j := by omega
        subst hj
        obtain ⟨y, hk10, hy⟩ := strR_spec hk9 hrc
        exact key y p1 hk10 (hy ρ _ (by rw [bs_data, map_ofNat_toNat]; exact p2))
theorem cvO_pure {a d : TypeId} (hnd : Nat.beq (tyk P d) 20 = false) {t : Nat} {l : V} {id x' y' : Nat} {vx : Value} {K : KV} (hk : cvO P a d t l id h nx K = true) (s : St ρ h nx w) (hx : VR ρ (.o t l id x' y') vx) :
    ∃ y v, K y h nx = true ∧ VR ρ y v ∧ (convert a d vx).run P w = .ok v w := by
  obtain ⟨e1, hk2⟩ := ite1_spec hk
  have e1 := Nat.blt_eq.mp e1
  obtain ⟨ds, hs⟩ := (tyk_cases (P := P) a).2.2.2.2.2.2.2.1 (Nat.pos_iff_ne_zero.1 e1)
  cases e0 : Nat.beq t 0 with
  | true =>
    rw [e0] at hk2
    obtain ⟨b, rfl, hb⟩ := rope_of (beq_spec e0) hx
    cases e2 : Nat.beq (tyk P d) 1 with
    | true =>
      rw [e2] at hk2
      have hu := (tyk_cases (P := P) d).1 (beq_spec e2)
      refine ⟨_, .string b, hk2, VR_rope hb, ?_⟩
      unfold convert
      simp only [Sem.run_bind, run_und hs, run_und hu, Result.andThen_ok]
      rfl
    | false =>
      rw [e2] at hk2
      obtain ⟨e3, hk3⟩ := ite1_spec hk2
      rw [hnd] at e3; cases e3
  | false =>
    rw [e0] at hk2
    cases e2 : Nat.beq t 2 with
    | true =>
      rw [e2] at hk2
      obtain ⟨n, hn, rfl⟩ := num_of (beq_spec e2) hx
      cases hd : dstK P d with
      | none => rw [hd] at hk2; exact Bool.noConfusion hk2
      | some kd =>
        rw [hd] at hk2
        obtain ⟨y, hk6, hy⟩ := mkW_spec (show mkW (ikn kd) l (fun v => K v h nx) = true from hk2)
        have hy2 := hy ρ _ hn
        rw [kOfN_ikn] at hy2
        refine ⟨y, .int kd (kd.wrap n), hk6, hy2, ?_⟩
        have hrun : (convert a d (.int (kOfN id) n)).run P w = .ok (.int kd (kd.wrap n)) w := by
          unfold convert
          simp only [Sem.run_bind, run_und hs, run_und (dstK_spec hd), Result.andThen_ok]
          rfl
        rw [hrun]
    | false =>
      rw [e2] at hk2
      obtain ⟨e3, hk3⟩ := ite1_spec hk2
      obtain ⟨e4, hk4⟩ := ite1_spec hk3
      obtain ⟨e5, hk5⟩ := ite1_spec hk4
      obtain ⟨L, n, cap, hL, hn, hc1, hc2, rfl⟩ := slice_of (beq_spec e3) hx
      obtain ⟨c, ty, wr, ho, hk6⟩ := oR_spec hk5
      obtain ⟨m, hk7, _, hm⟩ := lenR_spec hk6
      obtain ⟨arr, fz, sb, g1, g2, g3, g4, g5, g6⟩ := s.relR ho hL
      obtain ⟨e, hu, hue⟩ := (tyk_cases (P := P) a).2.2.2.2.2.2.1 (beq_spec e4)
      have hd := (tyk_cases (P := P) d).1 (beq_spec e5)
      have key : ∀ y : V, n ≤ sb.length → K y h nx = true → VR ρ y (.string (bs ((sb.take n).map UInt8.toNat))) → ∃ y v, K y h nx = true ∧ VR ρ y v ∧ (convert a d (.slice (some ⟨L.blk, L.base, none⟩) n cap)).run P w = .ok v w := fun y hn2 hky hyv => by
        have hbv : ∀ q : List UInt8, (q.map UInt8.toNat).map (fun b : Nat => Value.int .u8 (b : Int)) = q.map byteV := fun q => by simp [byteV]
        have hload := run_loadCells_of P w L.blk L.base n ty fz arr g1 (by omega)
        have hcell : (arr.toList.drop L.base).take n = (sb.map byteV).take n := by rw [← g6, List.take_take, Nat.min_eq_left hn2]
        rw [hcell, ← List.map_take, ← hbv] at hload
        have hb := bytesToString_run (P := P) (w := w) (len := n) (cap := cap) (A := ⟨L.blk, L.base, none⟩) hload
        refine ⟨y, .string (bs ((sb.take n).map UInt8.toNat)), hky, hyv, ?_⟩
        rw [run_convert_bytes_string w a d e _ _ _ hu hue hd]
        exact hb
      cases e6 : sameV m l with
      | true =>
        rw [e6] at hk7
        have e6 := sameV_eq e6
        subst e6
        have hnn : n = sb.length := by have := hn.fn (hm ρ _ g5); omega
        obtain ⟨y, hk9, hy⟩ := strR_spec hk7 (RR_isC g5)
        exact key y (by omega) hk9 (hy ρ _ (by rw [bs_data, map_ofNat_toNat, hnn, List.take_length]; exact g5))
      | false =>
        rw [e6] at hk7
        obtain ⟨n2, l2, hk8, hl2, hn2⟩ := splS_spec (show splS l (fun n2 l2 => takeL c n2 l2 fun c => strR c fun v => K v h nx) = true from hk7) (LR_isC hn)
        obtain ⟨u, f3, f4⟩ := hn2 ρ _ hn
        obtain ⟨r, hk9, hrc, hr⟩ := takeL_spec hk8 (RR_isC g5) hl2
        obtain ⟨j, p0, p1, p2⟩ := hr ρ _ u g5 f3
        have hj : n = j := by omega
        subst hj
        obtain ⟨y, hk10, hy⟩ := strR_spec hk9 hrc
        exact key y p1 hk10 (hy ρ _ (by rw [bs_data, map_ofNat_toNat]; exact p2))
theorem opConvert_sound {a d : TypeId} {x : V} {vx : Value} {K : KV} (hk : opConvert P a d x h nx K = true) (s : St ρ h nx w) (hx : VR ρ x vx) :
    ∃ ρ' y h' nx' v w', K y h' nx' = true ∧ VR ρ' y v ∧ St ρ' h' nx' w' ∧ Ext ρ h w ρ' h' w' ∧ (convert a d vx).run P w = .ok v w' := by
  have bytes : ∀ {l : List Nat}, Nat.beq (tyk P a) 20 = true → Nat.beq (tyk P d) 1 = true → (Conv.bytesToString vx).run P w = .ok (.string (bs l)) w → (∃ A n c, vx = .slice A n c) → (convert a d vx).run P w = .ok (.string (bs l)) w := by
    intro l h1 h2 h3 h4
    obtain ⟨e, hu, hue⟩ := (tyk_cases (P := P) a).2.2.2.2.2.2.1 (beq_spec h1)
    have hd := (tyk_cases (P := P) d).1 (beq_spec h2)
    obtain ⟨A, n, c, rfl⟩ := h4
    rw [run_convert_bytes_string w a d e A n c hu hue hd]
    exact h3
  cases x <;> first | exact Bool.noConfusion hk | skip
  case p id off =>
    obtain ⟨y, r, q1, q2, q3⟩ := cvP_sound (show cvP P a d id off h (fun v => K v h nx) = true from hk) s hx
    exact ⟨ρ, y, h, nx, r, w, q1, q2, s, Ext.refl _ _ _, q3⟩
  case o t l id x' y' => exact cvO_sound (show cvO P a d t l id h nx K = true from hk) s hx
  case i k n =>
    obtain ⟨e1, hk2⟩ := ite1_spec (show ite1 (Nat.blt 0 (tyk P a)) (Option.rec (motive := fun _ => Bool) (ite1 (Nat.beq (tyk P d) 1) <| Int.rec (motive := fun _ => Bool) (fun m => ite1 (Nat.blt m 128) <| K (.s [m]) h nx) (fun _ => false) n) (fun kd => wrK kd n fun m => K (.i kd m) h nx) (dstK P d)) = true from hk)
    have e1 := Nat.blt_eq.mp e1
    obtain ⟨ds, hs⟩ := (tyk_cases (P := P) a).2.2.2.2.2.2.2.1 (Nat.pos_iff_ne_zero.1 e1)
    simp only [VR] at hx
    subst hx
    cases hd : dstK P d with
    | some kd =>
      rw [hd] at hk2
      have hk3 : wrK kd n (fun m => K (.i kd m) h nx) = true := hk2
      rw [wrK_eq] at hk3
      refine ⟨ρ, _, h, nx, _, w, hk3, VRi _ _ _, s, Ext.refl _ _ _, ?_⟩
      unfold convert
      simp only [Sem.run_bind, run_und hs, run_und (dstK_spec hd), Result.andThen_ok]
      rfl
    | none =>
      rw [hd] at hk2
      obtain ⟨e2, hk3⟩ := ite1_spec (show ite1 (Nat.beq (tyk P d) 1) (Int.rec (motive := fun _ => Bool) (fun m => ite1 (Nat.blt m 128) <| K (.s [m]) h nx) (fun _ => false) n) = true from hk2)
      have hu := (tyk_cases (P := P) d).1 (beq_spec e2)
      cases n with
      | negSucc n => exact Bool.noConfusion hk3
      | ofNat m =>
        obtain ⟨e3, hk4⟩ := ite1_spec hk3
        have e3 := Nat.blt_eq.mp e3
        refine ⟨ρ, _, h, nx, _, w, hk4, VRst ρ (by simp; omega), s, Ext.refl _ _ _, ?_⟩
        unfold convert
        simp only [Sem.run_bind, run_und hs, run_und hu, Result.andThen_ok]
        show (Conv.intToString (Int.ofNat m)).run P w = _
        rw [show Conv.intToString (Int.ofNat m) = pure (.string (Utf8.encode (m : Int))) from rfl, encode_ascii e3]
        rfl
  case s l =>
    obtain ⟨e1, hk2⟩ := ite1_spec (show ite1 (Nat.blt 0 (tyk P a)) (Bool.rec (ite1 (Nat.beq (tyk P d) 20) <| chbK l fun c => slenK l 0 fun n => newK c (slT P d) h nx fun id h' nx' => K (.sl id 0 n 1) h' nx') (K (.s l) h nx) (Nat.beq (tyk P d) 1)) = true from hk)
    have e1 := Nat.blt_eq.mp e1
    obtain ⟨ds, hs⟩ := (tyk_cases (P := P) a).2.2.2.2.2.2.2.1 (Nat.pos_iff_ne_zero.1 e1)
    simp only [VR] at hx
    obtain ⟨rfl, hl⟩ := hx
    cases e2 : Nat.beq (tyk P d) 1 with
    | true =>
      rw [e2] at hk2
      have hu := (tyk_cases (P := P) d).1 (beq_spec e2)
      refine ⟨ρ, _, h, nx, _, w, hk2, VRst ρ hl, s, Ext.refl _ _ _, ?_⟩
      unfold convert
      simp only [Sem.run_bind, run_und hs, run_und hu, Result.andThen_ok]
      rfl
    | false =>
      rw [e2] at hk2
      obtain ⟨e3, hk3⟩ := ite1_spec (show ite1 (Nat.beq (tyk P d) 20) (chbK l fun c => slenK l 0 fun n => newK c (slT P d) h nx fun id h' nx' => K (.sl id 0 n 1) h' nx') = true from hk2)
      obtain ⟨e, hu, hue⟩ := (tyk_cases (P := P) d).2.2.2.2.2.2.1 (beq_spec e3)
      obtain ⟨c, hk4, hc⟩ := chbK_spec hk3
      rw [slenK_eq, Nat.zero_add] at hk4
      have hslt : slT P d = e := by simp [slT, hu]
      rw [hslt] at hk4
      obtain ⟨ρ', y, h', nx', v, w', q1, q2, q3, q4, q5⟩ := stringToBytes_sound (P := P) hk4 s (fun ρ' _ => hc ρ') hl
      refine ⟨ρ', y, h', nx', v, w', q1, q2, q3, q4, ?_⟩
      unfold convert
      simp only [Sem.run_bind, run_und hs, run_und hu, Result.andThen_ok, run_und hue]
      exact q5
  case w l =>
    obtain ⟨e1, hk2⟩ := ite1_spec (show ite1 (Nat.blt 0 (tyk P a)) (Bool.rec (ite1 (Nat.beq (tyk P d) 20) <| lenK l 0 fun n => newK l (slT P d) h nx fun id h' nx' => K (.sl id 0 n 1) h' nx') (K (.w l) h nx) (Nat.beq (tyk P d) 1)) = true from hk)
    have e1 := Nat.blt_eq.mp e1
    obtain ⟨ds, hs⟩ := (tyk_cases (P := P) a).2.2.2.2.2.2.2.1 (Nat.pos_iff_ne_zero.1 e1)
    have hx0 := hx
    simp only [VR] at hx
    obtain ⟨x, rfl, hx⟩ := hx
    cases e2 : Nat.beq (tyk P d) 1 with
    | true =>
      rw [e2] at hk2
      have hu := (tyk_cases (P := P) d).1 (beq_spec e2)
      refine ⟨ρ, _, h, nx, _, w, hk2, hx0, s, Ext.refl _ _ _, ?_⟩
      unfold convert
      simp only [Sem.run_bind, run_und hs, run_und hu, Result.andThen_ok]
      rfl
    | false =>
      rw [e2] at hk2
      obtain ⟨e3, hk3⟩ := ite1_spec (show ite1 (Nat.beq (tyk P d) 20) (lenK l 0 fun n => newK l (slT P d) h nx fun id h' nx' => K (.sl id 0 n 1) h' nx') = true from hk2)
      obtain ⟨e, hu, hue⟩ := (tyk_cases (P := P) d).2.2.2.2.2.2.1 (beq_spec e3)
      obtain ⟨n, hk4, hn, _⟩ := lenK_spec hk3 (VRs_isC hx)
      rw [Nat.zero_add] at hk4
      have hn := hn ρ _ hx
      have hslt : slT P d = e := by simp [slT, hu]
      rw [hslt] at hk4
      have hns : (x.data.toList.map UInt8.toNat).length = n := by rw [← hn]; simp [bytesV]
      rw [← hns] at hk4
      obtain ⟨ρ', y, h', nx', v, w', q1, q2, q3, q4, q5⟩ := stringToBytes_sound (P := P) (l := x.data.toList.map UInt8.toNat) hk4 s (fun ρ' le => by
        rw [List.map_map]
        exact hx.mono le) (fun n hn => by
        obtain ⟨c, _, rfl⟩ := List.mem_map.1 hn
        exact UInt8.toNat_lt c)
      rw [bs_bytes] at q5
      refine ⟨ρ', y, h', nx', v, w', q1, q2, q3, q4, ?_⟩
      unfold convert
      simp only [Sem.run_bind, run_und hs, run_und hu, Result.andThen_ok, run_und hue]
      exact q5
  case x ax kx lo hi =>
    obtain ⟨e1, hk2⟩ := ite1_spec (show ite1 (Nat.blt 0 (tyk P a)) (Option.rec (motive := fun _ => Bool) (ite1 (Nat.beq (tyk P d) 1) <| ite1 (Nat.blt hi 128) <| K (.w (.cons (.x ax .u8 lo hi) .nil)) h nx) (fun kd => ite1 (Nat.ble hi (mxK kd)) <| K (.x ax kd lo hi) h nx) (dstK P d)) = true from hk)
    have e1 := Nat.blt_eq.mp e1
    obtain ⟨ds, hs⟩ := (tyk_cases (P := P) a).2.2.2.2.2.2.2.1 (Nat.pos_iff_ne_zero.1 e1)
    obtain ⟨y, v, g1, g2, g3⟩ := convX (w := w) (G := fun v => K v h nx) hs hk2 hx
    exact ⟨ρ, y, h, nx, v, w, g1, g2, s, Ext.refl _ _ _, g3⟩
  case sl id off len sz =>
    obtain ⟨e1, hk1⟩ := ite1_spec (show ite1 (Nat.beq (tyk P a) 20) (Bool.rec (ite1 (Nat.beq (tyk P d) 1) <| ite1 (Nat.beq sz 1) <| oC (gt O.none id h) fun l _ _ => dropK l off fun r => takeK r len fun c => strK c fun v => K v h nx) (ite1 (Nat.beq a d) <| oC (gt O.none id h) fun l ty wr => ite1 wr <| stK O.none (O.c l ty true) id h fun h' => K (.sl id off len sz) h' nx) (Nat.beq (tyk P d) 20)) = true from hk)
    cases e20 : Nat.beq (tyk P d) 20 with
    | true =>
      rw [e20] at hk1
      exact convertSame_sound e1 hk1 s hx
    | false =>
    rw [e20] at hk1
    have hk2 : ite1 (Nat.beq (tyk P d) 1) (ite1 (Nat.beq sz 1) <| oC (gt O.none id h) fun l _ _ => dropK l off fun r => takeK r len fun c => strK c fun v => K v h nx) = true := hk1
    obtain ⟨e2, hk3⟩ := ite1_spec hk2
    obtain ⟨e3, hk4⟩ := ite1_spec hk3
    have e3 := beq_spec e3
    subst e3
    obtain ⟨l, bty, wr, ho, hk5⟩ := oC_spec hk4
    simp only [VR] at hx
    obtain ⟨L, cap, hL, hc1, hc2, rfl⟩ := hx
    obtain ⟨o, h2, h3⟩ := s.relC ho hL
    obtain ⟨arr, fz, rfl, h4, h5, h6, h7⟩ := h3
    obtain ⟨r, hk6, hrc, hr⟩ := dropK_spec hk5 (CR_isC h7)
    obtain ⟨c, hk7, hc⟩ := takeK_spec hk6 hrc
    obtain ⟨g1, g2⟩ := hr ρ _ h7
    obtain ⟨g3, g4⟩ := hc ρ _ g1
    obtain ⟨yt, hk8, hts⟩ := strK_nat hk7 (VRs_isC g3)
    obtain ⟨t, hcells, ht, hyt⟩ := hts ρ _ g3
    simp only [Nat.mul_one] at hc2
    have hload := run_loadCells_of P w L.blk (L.base + off) len bty fz arr h2 (by omega)
    rw [← List.drop_drop, hcells] at hload
    refine ⟨ρ, _, h, nx, _, w, hk8, hyt, s, Ext.refl _ _ _, ?_⟩
    exact bytes e1 e2 (bytesToString_run hload) ⟨_, _, _, rfl⟩
  all_goals
    obtain ⟨e1, hk2⟩ := ite1_spec (show ite1 (Nat.beq (tyk P a) 20) (ite1 (Nat.beq (tyk P d) 1) <| K (.s []) h nx) = true from hk)
    obtain ⟨e2, hk3⟩ := ite1_spec hk2
    simp only [VR] at hx
    first
      | subst hx
      | obtain ⟨A, c, rfl⟩ := hx
      | obtain ⟨A, rfl⟩ := hx
    refine ⟨ρ, _, h, nx, _, w, hk3, VRst ρ (by simp), s, Ext.refl _ _ _, ?_⟩
    refine bytes e1 e2 ?_ ⟨_, _, _, rfl⟩
    first
      | rfl
      | exact bytesToString_run (l := []) (by simp [loadCells, loadCellsFrom])
end
end Go.Mx
namespace Go.Mx
open Instr Builtin
noncomputable section
variable {P : Program} {ρ : Ren} {h : T O} {nx : Nat} {w : World}
theorem veqK_spec {t : TypeId} {a b : V} {k : Bool → Bool} {ρ : Ren} {x y : Value} (hk : veqK (tyk P t) a b k = true) (hx : VR ρ a x) (hy : VR ρ b y) :
    ∃ r, k r = true ∧ ∃ d, P.underlying t = some d ∧ sameNow d x y = some r := by
  unfold veqK at hk
  cases e : Nat.beq (tyk P t) 1 with
  | true =>
    rw [e] at hk
    obtain ⟨x, y, rfl, rfl, hk3⟩ := seqV_spec (show seqV a b k = true from hk) hx hy
    refine ⟨_, hk3, _, (tyk_cases t).1 (beq_spec e), ?_⟩
    simp only [sameNow]
    congr 1
    show (x.data == y.data) = _
    rw [Bool.eq_iff_iff]
    simp only [beq_iff_eq, decide_eq_true_eq]
    exact ⟨fun e => ByteArray.ext e, fun e => by rw [e]⟩
  | false =>
    rw [e] at hk
    obtain ⟨e1, hk1⟩ := ite1_spec hk
    obtain ⟨e2, hk2⟩ := ite1_spec hk1
    clear hk hk1
    obtain ⟨k1, n1, rfl, hkA⟩ := vI_spec hk2
    clear hk2
    obtain ⟨k2, n2, rfl, hkB⟩ := vI_spec hkA
    obtain ⟨e3, hkC⟩ := ite1_spec hkB
    have e3 := keq_eq e3
    subst e3
    have hk := hkC
    obtain ⟨kd, hu⟩ := tyk_int (Nat.le_of_ble_eq_true e1) (Nat.le_of_ble_eq_true e2)
    refine ⟨_, hk, _, hu, ?_⟩
    simp only [VR] at hx hy
    subst hx
    subst hy
    simp only [sameNow, if_true, ieq_eq]
    rfl
theorem checkKey_ok {t : TypeId} {a : V} {v : Value} {b : Bool} (hk : keyOk (tyk P t) a = true) (_ha : VR ρ a v) : (checkKey b 10000 t v).run P w = .ok () w := by
  have key : ∀ n, (checkKey b (n + 1) t v).run P w = .ok () w := by
    intro n
    unfold keyOk at hk
    cases e : Nat.beq (tyk P t) 1 with
    | true =>
      have hu := (tyk_cases (P := P) t).1 (beq_spec e)
      simp only [checkKey, Sem.run_bind, run_und hu, Result.andThen_ok]
      rfl
    | false =>
      rw [e] at hk
      obtain ⟨e1, hk⟩ := ite1_spec hk
      obtain ⟨e2, hk⟩ := ite1_spec hk
      obtain ⟨kd, hu⟩ := tyk_int (P := P) (Nat.le_of_ble_eq_true e1) (Nat.le_of_ble_eq_true e2)
      simp only [checkKey, Sem.run_bind, run_und hu, Result.andThen_ok]
      rfl
  exact key 9999
theorem findKey_of {t : TypeId} {d : TypeDesc} {v : Value} {es : List MapEntry} {r : Option (Nat × Value)} (hu : P.underlying t = some d) (h : findNow d v es 0 = some r) : (findKey t v es).run P w = .ok r w := by
  simp only [findKey, Sem.run_bind, run_und hu, Result.andThen_ok, h, Sem.run_pure]
theorem lookE_spec {t : TypeId} {key : V} {no : Bool} {yes : V → Bool} {kv : Value} (hkey : VR ρ key kv) (hko : keyOk (tyk P t) key = true) : ∀ {es : E} {l : List MapEntry} (i : Nat), lookE (tyk P t) key no yes es = true → ER ρ es l →
    ∃ d, P.underlying t = some d ∧ ((no = true ∧ findNow d kv l i = some none) ∨ ∃ x j v, yes x = true ∧ VR ρ x v ∧ findNow d kv l i = some (some (i + j, v)) ∧ (l[j]?).map (·.val) = some v) := by
  intro es
  induction es with
  | nil =>
    intro l i hk hr
    simp only [ER] at hr
    subst hr
    have : ∃ d, P.underlying t = some d := by
      unfold keyOk at hko
      cases e : Nat.beq (tyk P t) 1 with
      | true => exact ⟨_, (tyk_cases (P := P) t).1 (beq_spec e)⟩
      | false =>
        rw [e] at hko
        obtain ⟨e1, hk⟩ := ite1_spec hko
        obtain ⟨e2, hk⟩ := ite1_spec hk
        obtain ⟨kd, hu⟩ := tyk_int (P := P) (Nat.le_of_ble_eq_true e1) (Nat.le_of_ble_eq_true e2)
        exact ⟨_, hu⟩
    obtain ⟨d, hu⟩ := this
    exact ⟨d, hu, .inl ⟨hk, rfl⟩⟩
  | cons k v b r ih =>
    intro l i hk hr
    simp only [ER] at hr
    obtain ⟨x, xs, rfl, h1, h2, h3, h4⟩ := hr
    obtain ⟨q, hq, d, hu, hs⟩ := veqK_spec (P := P) (show veqK (tyk P t) key k (fun b => Bool.rec (lookE (tyk P t) key no yes r) (yes v) b) = true from hk) hkey h1
    cases q with
    | true =>
      refine ⟨d, hu, .inr ⟨v, 0, x.val, hq, h2, ?_, rfl⟩⟩
      simp [findNow, hs]
    | false =>
      obtain ⟨d', hu', hc⟩ := ih (i + 1) hq h4
      rw [hu] at hu'
      cases hu'
      refine ⟨d, hu, ?_⟩
      rcases hc with ⟨g1, g2⟩ | ⟨y, j, u, g1, g2, g3, g4⟩
      · exact .inl ⟨g1, by simp [findNow, hs, g2]⟩
      · refine .inr ⟨y, j + 1, u, g1, g2, ?_, by simpa using g4⟩
        simp only [findNow, hs, g3]
        congr 3
        omega
theorem mapKT_spec {t : TypeId} {_n : Nat} (h : tyk P t = 22) : P.underlying t = some (.map (mapKT P t) (mapET P t)) := by
  obtain ⟨k, e, hu⟩ := (tyk_cases (P := P) t).2.2.1 h
  simp [mapKT, mapET, hu]
theorem St.map (s : St ρ h nx w) {id : Nat} {es : E} {clock : Nat} (ho : gt O.none id h = .mp es clock) {v : Value} (hv : VR ρ (.m id) v) :
    ∃ L es', ρ id = some L ∧ v = .map (some L.blk) ∧ w.heap[L.blk]? = some (.map es' clock) ∧ ER ρ es es'.toList := by
  simp only [VR] at hv
  obtain ⟨L, hL, rfl⟩ := hv
  obtain ⟨o, h2, h3⟩ := s.rel id L (by rw [ho]; trivial) hL
  rw [ho] at h3
  obtain ⟨es', rfl, h4⟩ := h3
  exact ⟨L, es', hL, rfl, h2, h4⟩
theorem run_getMap {b clock : Nat} {es : Array MapEntry} (hh : w.heap[b]? = some (.map es clock)) : (getObj b).run P w = .ok (.map es clock) w := by
  simp only [getObj, Sem.run, hh]
theorem VR_v2 {ρ : Ren} {x y : V} {a b : Value} (ha : VR ρ x a) (hb : VR ρ y b) : VR ρ (v2 x y) (.tuple #[a, b]) := by
  simp only [v2, VR, VRs]
  exact ⟨[a, b], ⟨_, _, rfl, ha, _, _, rfl, hb, rfl⟩, rfl⟩
theorem VR_okay {ρ : Ren} {ok : Bool} {x : V} {b : Bool} {a : Value} (ha : VR ρ x a) : VR ρ (okay ok x b) (if ok then .tuple #[a, .bool b] else a) := by
  cases ok
  · exact ha
  · exact VR_v2 ha (VRb _ _)
theorem opLookup_sound {t : TypeId} {m key : V} {ok : Bool} {vm vk : Value} {K : V → Bool} (hk : opLookup P t m key ok h K = true) (s : St ρ h nx w) (hm : VR ρ m vm) (hkey : VR ρ key vk) :
    ∃ y r, K y = true ∧ VR ρ y r ∧ (Instr.lookup t vm vk ok).run P w = .ok r w := by
  obtain ⟨e0, hk1⟩ := ite1_spec hk
  have hmap := mapKT_spec (_n := 0) (beq_spec e0)
  clear hk
  obtain ⟨e1, hk2⟩ := ite1_spec hk1
  clear hk1
  have hck : ∀ b, (checkKey b 10000 (mapKT P t) vk).run P w = .ok () w := fun b => checkKey_ok e1 hkey
  cases hz : zeroV P (mapET P t) with
  | none => rw [hz] at hk2; exact Bool.noConfusion hk2
  | some z =>
    rw [hz] at hk2
    obtain ⟨zv, hzv, hzr⟩ := zeroV_spec hz
    cases m <;> first | exact Bool.noConfusion hk2 | skip
    case mn =>
      simp only [VR] at hm
      subst hm
      have hk3 : K (okay ok z false) = true := hk2
      have hkt : ∃ d, P.underlying (mapKT P t) = some d := by
        obtain ⟨d, hu, _⟩ := lookE_spec (P := P) (no := true) (yes := fun _ => true) hkey e1 (es := .nil) (l := []) 0 rfl (by simp [ER])
        exact ⟨d, hu⟩
      obtain ⟨d, hud⟩ := hkt
      refine ⟨_, _, hk3, VR_okay (hzr ρ), ?_⟩
      have hfk : (findKey (mapKT P t) vk ([] : List MapEntry)).run P w = .ok none w := findKey_of hud rfl
      simp only [Instr.lookup, Sem.run_bind, run_und hmap, Result.andThen_ok, Sem.run_pure, hck]
      show ((Sem.run P (findKey (mapKT P t) vk []) w).andThen _) = _
      rw [hfk]
      simp only [Result.andThen_ok, Sem.run_bind, hzv, Sem.run_pure]
    case m id =>
      obtain ⟨es, clock, ho, hk3⟩ := oM_spec (show oM (gt O.none id h) (fun es _ => lookE (mkc P t) key (K (okay ok z false)) (fun v => K (okay ok v true)) es) = true from hk2)
      obtain ⟨L, es', hL, rfl, hh, her⟩ := s.map ho hm
      obtain ⟨d, hud, hc⟩ := lookE_spec (P := P) hkey e1 0 hk3 her
      rcases hc with ⟨g1, g2⟩ | ⟨x, j, v, g1, g2, g3, _⟩
      · refine ⟨_, _, g1, VR_okay (hzr ρ), ?_⟩
        simp only [Instr.lookup, Sem.run_bind, run_und hmap, Result.andThen_ok, run_getMap hh, Sem.run_pure, hck, findKey_of hud g2, hzv]
      · refine ⟨_, _, g1, VR_okay g2, ?_⟩
        simp only [Instr.lookup, Sem.run_bind, run_und hmap, Result.andThen_ok, run_getMap hh, Sem.run_pure, hck, findKey_of hud g3]
theorem sameBits_of {d : TypeDesc} {x y : Value} (h : sameNow d x y = some true) : sameBits 10000 y x = true := by
  have key : ∀ n, sameBits (n + 1) y x = true := by
    intro n
    unfold sameNow at h
    split at h
    · split at h
      · rename_i e
        simp at h
        subst e
        simp [sameBits, h]
      · simp at h
    · simp at h
      have : ∀ a b : ByteArray, (a == b) = true → (b == a) = true := by
        intro a b e
        have e : (a.data == b.data) = true := e
        show (b.data == a.data) = true
        rw [beq_iff_eq] at e ⊢
        exact e.symm
      simp only [sameBits]
      exact this _ _ h
    · simp at h
      simp [sameBits, h]
    · simp at h
  exact key 9999
theorem replE_spec {t : TypeId} {key val : V} {kv vv : Value} {ρ : Ren} (hkey : VR ρ key kv) (hval : VR ρ val vv) : ∀ {es : E} {l : List MapEntry} {c : E → Bool} (i : Nat), replE (tyk P t) key val es c = true → ER ρ es l →
    ∃ es' d j v ke, P.underlying t = some d ∧ c es' = true ∧ findNow d kv l i = some (some (i + j, v)) ∧ (l[j]?).map (·.key) = some ke ∧ sameBits 10000 ke kv = true ∧ ER ρ es' (l.modify j fun e => { e with key := kv, val := vv }) := by
  intro es
  induction es with
  | nil => intro l c i hk _; exact Bool.noConfusion hk
  | cons k v b r ih =>
    intro l c i hk hr
    simp only [ER] at hr
    obtain ⟨x, xs, rfl, h1, h2, h3, h4⟩ := hr
    obtain ⟨q, hq, d, hu, hs⟩ := veqK_spec (P := P) (show veqK (tyk P t) key k (fun b' => Bool.rec (replE (tyk P t) key val r fun r' => c (.cons k v b r')) (c (.cons key val b r)) b') = true from hk) hkey h1
    cases q with
    | true =>
      refine ⟨_, d, 0, x.val, x.key, hu, hq, by simp [findNow, hs], rfl, sameBits_of hs, ?_⟩
      simp only [List.modify_zero_cons, ER]
      exact ⟨_, _, rfl, hkey, hval, h3, h4⟩
    | false =>
      obtain ⟨es', d', j, u, ke, g1, g2, g3, g4, g5, g6⟩ := ih (c := fun r' => c (.cons k v b r')) (i + 1) hq h4
      rw [hu] at g1
      cases g1
      refine ⟨_, d, j + 1, u, ke, hu, g2, ?_, by simpa using g4, g5, ?_⟩
      · simp only [findNow, hs, g3]
        congr 3
        omega
      · simp only [List.modify_succ_cons, ER]
        exact ⟨_, _, rfl, h1, h2, h3, g6⟩
theorem pushE_spec {key val : V} {kv vv : Value} {b : Nat} {ρ : Ren} (hkey : VR ρ key kv) (hval : VR ρ val vv) : ∀ {es : E} {l : List MapEntry} {c : E → Bool}, pushE key val b es c = true → ER ρ es l →
    ∃ es', c es' = true ∧ ER ρ es' (l ++ [{ key := kv, val := vv, born := b }]) := by
  intro es
  induction es with
  | nil =>
    intro l c hk hr
    simp only [ER] at hr
    subst hr
    exact ⟨_, hk, by simp only [List.nil_append, ER]; exact ⟨_, _, rfl, hkey, hval, rfl, rfl⟩⟩
  | cons k v b' r ih =>
    intro l c hk hr
    simp only [ER] at hr
    obtain ⟨x, xs, rfl, h1, h2, h3, h4⟩ := hr
    obtain ⟨es', g1, g2⟩ := ih (c := fun r' => c (.cons k v b' r')) hk h4
    exact ⟨_, g1, by simp only [List.cons_append, ER]; exact ⟨_, _, rfl, h1, h2, h3, g2⟩⟩
theorem run_setMap {b clock clock' : Nat} {es es' : Array MapEntry} (hh : w.heap[b]? = some (.map es clock)) : (setObj b (.map es' clock')).run P w = .ok () { w with heap := w.heap.setIfInBounds b (.map es' clock') } := by
  simp only [setObj, Sem.run, hh]
theorem opMapUpdate_sound {t : TypeId} {m key val : V} {vm vk vv : Value} {K : T O → Bool} (hk : opMapUpdate P t m key val h K = true) (s : St ρ h nx w) (hm : VR ρ m vm) (hkey : VR ρ key vk) (hval : VR ρ val vv) :
    ∃ h' w', K h' = true ∧ St ρ h' nx w' ∧ Ext ρ h w ρ h' w' ∧ (Instr.mapUpdate t vm vk vv).run P w = .ok () w' := by
  obtain ⟨e0, hk1⟩ := ite1_spec hk
  have hmap := mapKT_spec (_n := 0) (beq_spec e0)
  clear hk
  obtain ⟨e1, hk2⟩ := ite1_spec hk1
  clear hk1
  obtain ⟨id, rfl, hk3⟩ := vM_spec hk2
  clear hk2
  obtain ⟨es, clock, ho, hk4⟩ := oM_spec hk3
  clear hk3
  obtain ⟨L, es', hL, rfl, hh, her⟩ := s.map ho hm
  have hck : ∀ b, (checkKey b 10000 (mapKT P t) vk).run P w = .ok () w := fun b => checkKey_ok e1 hkey
  obtain ⟨d, hud, hc⟩ := lookE_spec (P := P) hkey e1 0 hk4 her
  rcases hc with ⟨g1, g2⟩ | ⟨x, j, v, g1, g2, g3, _⟩
  · obtain ⟨es2, q1, q2⟩ := pushE_spec hkey hval g1 her
    rw [stK_eq] at q1
    obtain ⟨r1, r2⟩ := s.write (id := id) (L := L) (by rw [ho]; trivial) hL (o := .mp es2 (Nat.succ clock)) (ob := .map (es'.push { key := vk, val := vv, born := clock }) (clock + 1))
      ⟨_, rfl, by simpa using q2⟩ (w' := { w with heap := w.heap.setIfInBounds L.blk (.map (es'.push { key := vk, val := vv, born := clock }) (clock + 1)) }) rfl rfl rfl rfl
    refine ⟨_, _, q1, r1, r2, ?_⟩
    simp only [Instr.mapUpdate, Sem.run_bind, run_und hmap, Result.andThen_ok, run_getMap hh, hck, findKey_of hud g2, run_setMap hh]
  · obtain ⟨es2, d', j2, v2, ke, q0, q1, q2, q3, q4, q5⟩ := replE_spec (P := P) hkey hval 0 g1 her
    rw [hud] at q0
    cases q0
    rw [stK_eq] at q1
    obtain ⟨r1, r2⟩ := s.write (id := id) (L := L) (by rw [ho]; trivial) hL (o := .mp es2 clock) (ob := .map (es'.modify j2 fun e => { e with key := vk, val := vv }) clock)
      ⟨_, rfl, by simpa [Array.toList_modify] using q5⟩ (w' := { w with heap := w.heap.setIfInBounds L.blk (.map (es'.modify j2 fun e => { e with key := vk, val := vv }) clock) }) rfl rfl rfl rfl
    refine ⟨_, _, q1, r1, r2, ?_⟩
    have hke : ((es'[j2]?).map (·.key)).getD vk = ke := by
      rw [← Array.getElem?_toList, q3]; rfl
    rw [Nat.zero_add] at q2
    simp only [Instr.mapUpdate, Sem.run_bind, run_und hmap, Result.andThen_ok, run_getMap hh, hck, findKey_of hud q2, hke, keyThatStays, q4, if_true, Sem.run_pure, run_setMap hh]
theorem opMapEntry_sound {t : TypeId} {m key : V} {vm vk : Value} {K : V → T O → Bool} (hk : opMapEntry P t m key h K = true) (s : St ρ h nx w) (hm : VR ρ m vm) (hkey : VR ρ key vk) :
    ∃ y r h' w', K y h' = true ∧ VR ρ y r ∧ St ρ h' nx w' ∧ Ext ρ h w ρ h' w' ∧ (Instr.mapEntry t vm vk).run P w = .ok r w' := by
  obtain ⟨e0, hk1⟩ := ite1_spec hk
  have hmap := mapKT_spec (_n := 0) (beq_spec e0)
  clear hk
  obtain ⟨e1, hk2⟩ := ite1_spec hk1
  clear hk1
  obtain ⟨id, rfl, hk3⟩ := vM_spec hk2
  clear hk2
  obtain ⟨es, clock, ho, hk4⟩ := oM_spec hk3
  clear hk3
  obtain ⟨L, es', hL, rfl, hh, her⟩ := s.map ho hm
  have hck : ∀ b, (checkKey b 10000 (mapKT P t) vk).run P w = .ok () w := fun b => checkKey_ok e1 hkey
  cases hz : zeroV P (mapET P t) with
  | none => rw [hz] at hk4; exact Bool.noConfusion hk4
  | some z =>
    rw [hz] at hk4
    obtain ⟨zv, hzv, hzr⟩ := zeroV_spec hz
    obtain ⟨d, hud, hc⟩ := lookE_spec (P := P) hkey e1 0 (show lookE (mkc P t) key (pushE key z clock es fun es' => stK O.none (O.mp es' (Nat.succ clock)) id h fun h' => K (v2 z (.i .i64 (Int.ofNat clock))) h') (fun _ => false) es = true from hk4) her
    rcases hc with ⟨g1, g2⟩ | ⟨x, j, v, g1, g2, g3, _⟩
    · obtain ⟨es2, q1, q2⟩ := pushE_spec hkey (hzr ρ) g1 her
      rw [stK_eq] at q1
      obtain ⟨r1, r2⟩ := s.write (id := id) (L := L) (by rw [ho]; trivial) hL (o := .mp es2 (Nat.succ clock)) (ob := .map (es'.push { key := vk, val := zv, born := clock }) (clock + 1))
        ⟨_, rfl, by simpa using q2⟩ (w' := { w with heap := w.heap.setIfInBounds L.blk (.map (es'.push { key := vk, val := zv, born := clock }) (clock + 1)) }) rfl rfl rfl rfl
      refine ⟨_, _, _, _, q1, VR_v2 (hzr ρ) (VRi _ _ _), r1, r2, ?_⟩
      simp only [Instr.mapEntry, Sem.run_bind, run_und hmap, Result.andThen_ok, run_getMap hh, hck, findKey_of hud g2, hzv, run_setMap hh, Sem.run_pure]
      rfl
    · exact Bool.noConfusion g1
theorem setE_spec {n : Int} {val : V} {vv : Value} {ρ : Ren} (hval : VR ρ val vv) : ∀ {es : E} {l : List MapEntry} {c : E → Bool}, setE n val es c = true → ER ρ es l →
    ∃ es' i, c es' = true ∧ l.findIdx? (fun e => (e.born : Int) == n) = some i ∧ ER ρ es' (l.modify i fun e => { e with val := vv }) := by
  intro es
  induction es with
  | nil => intro l c hk _; exact Bool.noConfusion hk
  | cons k v b r ih =>
    intro l c hk hr
    simp only [ER] at hr
    obtain ⟨x, xs, rfl, h1, h2, h3, h4⟩ := hr
    have hk : (Bool.rec (setE n val r fun r' => c (.cons k v b r')) (c (.cons k val b r)) (ieq (Int.ofNat b) n) : Bool) = true := hk
    cases e : ieq (Int.ofNat b) n with
    | true =>
      rw [e] at hk
      rw [ieq_eq] at e
      refine ⟨_, 0, hk, ?_, ?_⟩
      · have e2 : ((x.born : Int) == n) = true := by rw [h3]; simpa using e
        rw [List.findIdx?_cons, e2]
        rfl
      · simp only [List.modify_zero_cons, ER]
        exact ⟨_, _, rfl, h1, hval, h3, h4⟩
    | false =>
      rw [e] at hk
      obtain ⟨es', i, g1, g2, g3⟩ := ih (c := fun r' => c (.cons k v b r')) hk h4
      have hne : ((x.born : Int) == n) = false := by
        rw [ieq_eq] at e
        rw [h3]
        simpa using e
      refine ⟨_, i + 1, g1, ?_, ?_⟩
      · rw [List.findIdx?_cons, hne, g2]
        rfl
      · simp only [List.modify_succ_cons, ER]
        exact ⟨_, _, rfl, h1, h2, h3, g3⟩
theorem opEntryStore_sound {t : TypeId} {m st val : V} {vm vs vv : Value} {K : T O → Bool} (hk : opEntryStore m st val h K = true) (s : St ρ h nx w) (hm : VR ρ m vm) (hst : VR ρ st vs) (hval : VR ρ val vv) :
    ∃ h' w', K h' = true ∧ St ρ h' nx w' ∧ Ext ρ h w ρ h' w' ∧ (Instr.entryStore t vm vs vv).run P w = .ok () w' := by
  obtain ⟨id, rfl, hk3⟩ := vM_spec hk
  clear hk
  obtain ⟨es, clock, ho, hk4⟩ := oM_spec hk3
  clear hk3
  obtain ⟨L, es', hL, rfl, hh, her⟩ := s.map ho hm
  obtain ⟨kd, n, rfl, hk5⟩ := vI_spec hk4
  clear hk4
  simp only [VR] at hst
  subst hst
  obtain ⟨es2, i, g1, g2, g3⟩ := setE_spec hval hk5 her
  rw [stK_eq] at g1
  obtain ⟨r1, r2⟩ := s.write (id := id) (L := L) (by rw [ho]; trivial) hL (o := .mp es2 clock) (ob := .map (es'.modify i fun e => { e with val := vv }) clock)
    ⟨_, rfl, by simpa [Array.toList_modify] using g3⟩ (w' := { w with heap := w.heap.setIfInBounds L.blk (.map (es'.modify i fun e => { e with val := vv }) clock) }) rfl rfl rfl rfl
  refine ⟨_, _, g1, r1, r2, ?_⟩
  have g2' : es'.findIdx? (fun e => (e.born : Int) == n) = some i := by
    rcases es' with ⟨l⟩
    simpa using g2
  simp only [Instr.entryStore, Sem.run_bind, run_getMap hh, Result.andThen_ok, asInt, asIntOf, Sem.run_pure, g2', run_setMap hh]
theorem delE_spec {t : TypeId} {key : V} {kv : Value} {ρ : Ren} {d : TypeDesc} (hu : P.underlying t = some d) (hkey : VR ρ key kv) : ∀ {es : E} {l : List MapEntry} {c : E → Bool} (i : Nat), delE (tyk P t) key es c = true → ER ρ es l →
    ∃ es', c es' = true ∧ ((∃ j v, findNow d kv l i = some (some (i + j, v)) ∧ ER ρ es' (l.eraseIdx j)) ∨ (findNow d kv l i = some none ∧ ER ρ es' l)) := by
  intro es
  induction es with
  | nil =>
    intro l c i hk hr
    simp only [ER] at hr
    subst hr
    exact ⟨_, hk, .inr ⟨rfl, by simp [ER]⟩⟩
  | cons k v b r ih =>
    intro l c i hk hr
    simp only [ER] at hr
    obtain ⟨x, xs, rfl, h1, h2, h3, h4⟩ := hr
    obtain ⟨q, hq, d', hu', hs⟩ := veqK_spec (P := P) (show veqK (tyk P t) key k (fun b' => Bool.rec (delE (tyk P t) key r fun r' => c (.cons k v b r')) (c r) b') = true from hk) hkey h1
    rw [hu] at hu'
    cases hu'
    cases q with
    | true => exact ⟨_, hq, .inl ⟨0, x.val, by simp [findNow, hs], by simpa using h4⟩⟩
    | false =>
      obtain ⟨es', g1, g2⟩ := ih (c := fun r' => c (.cons k v b r')) (i + 1) hq h4
      refine ⟨_, g1, ?_⟩
      rcases g2 with ⟨j, u, g3, g4⟩ | ⟨g3, g4⟩
      · refine .inl ⟨j + 1, u, ?_, ?_⟩
        · simp only [findNow, hs, g3]
          congr 3
          omega
        · simp only [List.eraseIdx_cons_succ, ER]
          exact ⟨_, _, rfl, h1, h2, h3, g4⟩
      · refine .inr ⟨?_, ?_⟩
        · simp only [findNow, hs, g3]
        · simp only [ER]
          exact ⟨_, _, rfl, h1, h2, h3, g4⟩
theorem opDelete_sound {t : TypeId} {m key : V} {vm vk : Value} {K : T O → Bool} {ts : Array TypeId} {ty : TypeId} {args : Array Value} (hk : opDelete P t m key h K = true) (s : St ρ h nx w) (hm : VR ρ m vm) (hkey : VR ρ key vk)
    (ht : ts[0]? = some t) (ha : args[0]? = some vm) (hb : args[1]? = some vk) :
    ∃ h' w', K h' = true ∧ St ρ h' nx w' ∧ Ext ρ h w ρ h' w' ∧ (Builtin.delete_ ts ty args).run P w = .ok (.tuple #[]) w' := by
  obtain ⟨e0, hk1⟩ := ite1_spec hk
  have hmap := mapKT_spec (_n := 0) (beq_spec e0)
  clear hk
  obtain ⟨e1, hk2⟩ := ite1_spec hk1
  clear hk1
  have hck : ∀ b, (checkKey b 10000 (mapKT P t) vk).run P w = .ok () w := fun b => checkKey_ok e1 hkey
  cases m <;> first | exact Bool.noConfusion hk2 | skip
  case mn =>
    simp only [VR] at hm
    subst hm
    have hk3 : K h = true := hk2
    refine ⟨_, w, hk3, s, Ext.refl _ _ _, ?_⟩
    simp only [Builtin.delete_, ht, ha, hb, Sem.run_bind, run_und hmap, Result.andThen_ok, hck, Sem.run_pure]
  case m id =>
    obtain ⟨es, clock, ho, hk4⟩ := oM_spec (show oM (gt O.none id h) (fun es clock => delE (mkc P t) key es fun es' => stK O.none (O.mp es' clock) id h K) = true from hk2)
    obtain ⟨L, es', hL, rfl, hh, her⟩ := s.map ho hm
    obtain ⟨d, hud⟩ : ∃ d, P.underlying (mapKT P t) = some d := by
      obtain ⟨d, hu, _⟩ := lookE_spec (P := P) (no := true) (yes := fun _ => true) hkey e1 (es := .nil) (l := []) 0 rfl (by simp [ER])
      exact ⟨d, hu⟩
    obtain ⟨es2, q1, hc⟩ := delE_spec hud hkey 0 hk4 her
    rw [stK_eq] at q1
    rcases hc with ⟨j, v, g1, g2⟩ | ⟨g1, g2⟩
    · have her2 : ER ρ es2 (es'.eraseIdxIfInBounds j).toList := by
        have e : (es'.eraseIdxIfInBounds j).toList = es'.toList.eraseIdx j := by
          unfold Array.eraseIdxIfInBounds
          split
          · simp
          · rw [List.eraseIdx_of_length_le (by simp; omega)]
        rw [e]; exact g2
      obtain ⟨r1, r2⟩ := s.write (id := id) (L := L) (by rw [ho]; trivial) hL (o := .mp es2 clock) (ob := .map (es'.eraseIdxIfInBounds j) clock)
        ⟨_, rfl, her2⟩ (w' := { w with heap := w.heap.setIfInBounds L.blk (.map (es'.eraseIdxIfInBounds j) clock) }) rfl rfl rfl rfl
      refine ⟨_, _, q1, r1, r2, ?_⟩
      rw [Nat.zero_add] at g1
      simp only [Builtin.delete_, ht, ha, hb, Sem.run_bind, run_und hmap, Result.andThen_ok, run_getMap hh, hck, findKey_of hud g1, run_setMap hh, Sem.run_pure]
    · obtain ⟨r1, r2⟩ := s.write (id := id) (L := L) (by rw [ho]; trivial) hL (o := .mp es2 clock) (ob := .map es' clock)
        ⟨_, rfl, g2⟩ (w' := { w with heap := w.heap.setIfInBounds L.blk (.map es' clock) }) rfl rfl rfl rfl
      refine ⟨_, _, q1, r1, r2, ?_⟩
      simp only [Builtin.delete_, ht, ha, hb, Sem.run_bind, run_und hmap, Result.andThen_ok, run_getMap hh, hck, findKey_of hud g1, run_setMap hh, Sem.run_pure]
end
end Go.Mx
