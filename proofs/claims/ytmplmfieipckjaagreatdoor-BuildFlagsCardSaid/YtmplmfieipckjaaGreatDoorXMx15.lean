/-
  A part of a small executor of the model, proved sound (Mx15 of 46). No condition.
-/
import Derived.Test.YtmplmfieipckjaaGreatDoorXMx14
import Derived.Laws.BytesString
import Derived.Laws.BytesArg
namespace Go.Mx
open Instr Builtin
noncomputable section
variable {P : Program} {ρ : Ren} {h : T O} {nx : Nat} {w : World}
theorem dstK_spec {t : TypeId} {k : IntKind} (h : dstK P t = some k) : P.underlying t = some (.int k) := by
  unfold dstK at h
  split at h
  · rename_i k' hu; simp at h; subst h; exact hu
  · simp at h
theorem bchK_spec {c : V} : ∀ {k : List Nat → Bool}, bchK c k = true → isC c → ∃ l, k l = true ∧ (∀ n ∈ l, n < 256) ∧ ∀ ρ vs, VRs ρ c vs → vs = l.map fun b : Nat => Value.int .u8 (b : Int) := by
  induction c with
  | nil => intro k hk _; exact ⟨[], hk, by simp, fun ρ vs hv => by simp only [VRs] at hv; subst hv; rfl⟩
  | cons x c _ ih =>
    intro k hk hc
    obtain ⟨kd, n, rfl, hk2⟩ := vI_spec (show vI x _ = true from hk)
    cases kd <;> first | exact Bool.noConfusion hk2 | skip
    cases n with
    | negSucc n => exact Bool.noConfusion hk2
    | ofNat m =>
      have hk3 : (Bool.rec false (bchK c fun l => k (m :: l)) (Nat.ble m 255) : Bool) = true := hk2
      cases e : Nat.ble m 255 with
      | false => rw [e] at hk3; exact Bool.noConfusion hk3
      | true =>
        rw [e] at hk3
        obtain ⟨l, h1, h2, h3⟩ := ih (k := fun l => k (m :: l)) hk3 hc
        have hm := Nat.le_of_ble_eq_true e
        refine ⟨m :: l, h1, ?_, fun ρ vs hv => ?_⟩
        · intro n hn
          rcases List.mem_cons.1 hn with rfl | hn
          · omega
          · exact h2 n hn
        · simp only [VRs, VR] at hv
          obtain ⟨y, ys, rfl, rfl, hv⟩ := hv
          rw [h3 ρ ys hv]
          rfl
  | _ => intro k hk hc; exact absurd hc (by simp [isC])
theorem bytesToString_run {A : Addr} {len cap : Nat} {l : List Nat} (hl : (loadCells A len).run P w = .ok (l.map fun b : Nat => Value.int .u8 (b : Int)).toArray w) :
    (Conv.bytesToString (.slice (some A) len cap)).run P w = .ok (.string (bs l)) w := by
  have e : (l.map fun b : Nat => Value.int .u8 (b : Int)) = (l.map fun b : Nat => (b : Int)).map (Value.int .u8) := by simp
  rw [e] at hl
  rw [run_bytesToString w A len cap _ hl, foldl_push_bytes]
  congr 2
  apply ByteArray.ext
  simp [bs]
theorem freeze_push (w : World) (arr : Array Value) (e : TypeId) :
    (((w.alloc (.cells arr e)).freeze ⟨w.heap.size, arr.size, none⟩ 1)).heap = (w.alloc (.cells arr e (arr.size, arr.size + 1))).heap := by
  apply Array.ext_getElem?
  intro q
  simp only [World.freeze, Nat.one_ne_zero, if_false]
  show ((w.heap.push _).modify w.heap.size _)[q]? = (w.heap.push _)[q]?
  rw [Array.getElem?_modify, Array.getElem?_push, Array.getElem?_push]
  by_cases h : q = w.heap.size
  · subst h; simp
  · have : ¬ w.heap.size = q := fun e => h e.symm
    simp [h, this]
theorem stringToBytes_sound {e : TypeId} {l : List Nat} {K : KV} {c : V} (hk : newK c e h nx (fun id h' nx' => K (.sl id 0 l.length 1) h' nx') = true) (s : St ρ h nx w)
    (hc : ∀ ρ, VRs ρ c (l.map fun b : Nat => Value.int .u8 (b : Int))) (hl : ∀ n ∈ l, n < 256) :
    ∃ ρ' x h' nx' v w', K x h' nx' = true ∧ VR ρ' x v ∧ St ρ' h' nx' w' ∧ Ext ρ h w ρ' h' w' ∧ (Conv.stringToBytes e (bs l)).run P w = .ok v w' := by
  unfold newK at hk
  rw [stK_eq] at hk
  have hcap := cut_ge l.length 0 e (w.tape w.drawn (.appendCap l.length 0 e))
  generalize hC : (Question.appendCap l.length 0 e).cut (w.tape w.drawn (.appendCap l.length 0 e)) = cap at hcap
  let arr : Array Value := ⟨l.map fun b : Nat => Value.int .u8 (b : Int)⟩ ++ Array.replicate (cap - l.length) (.int .u8 0)
  have hsz : arr.size = cap := by simp [arr]; omega
  have s1 : St ρ h nx w.drew := s.heap rfl
  have hor : OR (upd ρ nx ⟨w.drew.heap.size, 0, cap⟩) ⟨w.drew.heap.size, 0, cap⟩ (.c c e true) (.cells arr e (arr.size, arr.size + 1)) := by
    refine ⟨arr, _, rfl, hsz, ?_, Nat.zero_le _, ?_⟩
    · intro q hq
      show ¬ (arr.size ≤ q ∧ (q < arr.size + 1 ∨ arr.size + 1 < arr.size))
      have : q < cap := hq
      omega
    · show CR _ c (arr.toList.drop 0)
      have : arr.toList.drop 0 = (l.map fun b : Nat => Value.int .u8 (b : Int)) ++ List.replicate (cap - l.length) (.int .u8 0) := by simp [arr]
      rw [this]
      exact (hc _).CR _
  obtain ⟨q1, q2⟩ := s1.alloc hor
  have hheap := freeze_push w.drew arr e
  refine ⟨_, _, _, _, .slice (some ⟨w.heap.size, 0, none⟩) l.length cap, (w.drew.alloc (.cells arr e)).freeze ⟨w.heap.size, arr.size, none⟩ 1, hk, ?_, q1.heap hheap, ?_, ?_⟩
  · exact VR_sl (upd_same _ _ _) hcap (by simp) rfl
  · exact Ext.trans (Ext.same (w := w) (w' := w.drew) rfl rfl rfl rfl) (Ext.trans q2 (Ext.same hheap rfl rfl rfl))
  · unfold Conv.stringToBytes
    have hch : (choose (.appendCap l.length 0 e)).run P w = .ok cap w.drew := by
      simp only [run_choose, Question.forced, Bool.false_eq_true, if_false, hC]
      rfl
    simp only [Sem.run_bind, hch, Result.andThen_ok, newRow, run_newObj, Sem.run_pure, bs_cells hl, bs_size, markStringish, run_shape]
    have hshape : (w.drew.alloc (.cells arr e)).shape? w.heap.size = some (e, arr.size) := by
      show (match (w.heap.push (.cells arr e))[w.heap.size]? with | some (.cells c elem _) => some (elem, c.size) | _ => none) = _
      simp
    change (((Sem.run P (match (w.drew.alloc (.cells arr e)).shape? w.heap.size with | some (_, n) => freeze ⟨w.heap.size, n, none⟩ 1 | _ => pure ()) (w.drew.alloc (.cells arr e)))).andThen fun _ w' => Result.ok (Value.slice (some ⟨w.heap.size, 0, none⟩) l.length cap) w') = _
    rw [hshape]
    rfl
theorem encode_ascii {m : Nat} (h : m < 128) : Utf8.encode (m : Int) = bs [m] := by
  have h1 : Utf8.valid (m : Int) = true := by simp [Utf8.valid]; omega
  have h2 : m < 0x80 := h
  simp [Utf8.encode, h1, h2, bs]
theorem decode_ascii {l : List Nat} {pos c : Nat} (hg : l[pos]? = some c) (h : c < 128) : Utf8.decode (bs l) pos = (c, 1) := by
  have hp : pos < l.length := (List.getElem?_eq_some_iff.1 hg).1
  have hv := (List.getElem?_eq_some_iff.1 hg).2
  have e : ((bs l).get! (pos + 0)).toNat = c := by
    have : (bs l).get! pos = UInt8.ofNat c := by
      show (bs l).data[pos]! = _
      simp [bs, hp, hv]
    rw [Nat.add_zero, this, UInt8.toNat_ofNat', Nat.mod_eq_of_lt (by omega)]
  unfold Utf8.decode
  simp only [e]
  rw [if_pos (by omega)]
theorem tyk_unsafe {t : TypeId} (h : Nat.beq (tyk P t) 27 = true) : P.underlying t = some .unsafePointer := by
  have h := beq_spec h
  unfold tyk at h
  cases hu : P.underlying t with
  | none => rw [hu] at h; simp at h
  | some d =>
    rw [hu] at h
    cases d <;> first | rfl | (simp at h; done) | skip
    case int k => cases k <;> simp [ikn] at h
    case slice e => cases he : P.underlying e with
      | none => simp [he] at h
      | some d2 => simp only [he] at h; split at h <;> simp_all
theorem cvP_sound {a d : TypeId} {id off : Nat} {K : V → Bool} {vx : Value} (hk : cvP P a d id off h K = true) (s : St ρ h nx w) (hx : VR ρ (.p id off) vx) :
    ∃ y r, K y = true ∧ VR ρ y r ∧ (convert a d vx).run P w = .ok r w := by
  unfold cvP at hk
  cases e1 : Nat.beq (tyk P a) 25 with
  | true =>
    rw [e1] at hk
    obtain ⟨e2, hk2⟩ := ite1_spec (show ite1 (Nat.beq (tyk P d) 27) (ite1 (Nat.blt 1 (szk P (ptE P a))) <| oC (gt O.none id h) fun l _ _ => nthK l off fun _ => K (.p id off)) = true from hk)
    obtain ⟨e3, hk3⟩ := ite1_spec hk2
    obtain ⟨l, ty, wr, ho, hk4⟩ := oC_spec hk3
    obtain ⟨x, hk5, hn⟩ := nthK_spec hk4
    obtain ⟨L, arr, fz, hL, rfl, h2, h4, h5, h6, h7⟩ := s.at ho hx
    obtain ⟨v, hv, _⟩ := hn ρ _ h7
    obtain ⟨el, hu⟩ := (tyk_cases (P := P) a).2.2.2.2.1 (beq_spec e1)
    have hel : ptE P a = el := by simp [ptE, hu]
    rw [hel] at e3
    have e3 := Nat.blt_eq.mp e3
    obtain ⟨i, hi, hsz⟩ := szk_spec (P := P) (t := el) (n := szk P el - 1) (by omega)
    refine ⟨_, _, hk5, hx, ?_⟩
    have hsh : w.shape? L.blk = some (ty, arr.size) := by simp [World.shape?, h2]
    have hoff : L.base + off < arr.size := by
      rw [List.getElem?_drop, Array.getElem?_toList] at hv
      exact (Array.getElem?_eq_some_iff.1 hv).1
    exact Lib.run_to_unsafe w ⟨L.blk, L.base + off, none⟩ hu (tyk_unsafe e2) hi (by omega) hsh hoff
  | false =>
    rw [e1] at hk
    obtain ⟨e2, hk2⟩ := ite1_spec (show ite1 (Nat.beq (tyk P a) 27) (ite1 (Nat.beq (tyk P d) 25) <| oV (gt O.none id h) fun l ty => lenK l 0 fun n => ite1 (Nat.blt 0 n) <| ite1 (Nat.beq (szk P ty) (Nat.succ n)) <| ite1 (Nat.blt 0 (szk P (ptE P d))) <| ite1 (liesAt P P.depth ty 1 off (ptE P d) 1) <| K (.p id off)) = true from hk)
    obtain ⟨e3, hk4⟩ := ite1_spec hk2
    obtain ⟨l, ty, ho, hk6⟩ := oV_spec hk4
    have hx2 := hx
    simp only [VR] at hx2
    obtain ⟨L, hL, rfl⟩ := hx2
    obtain ⟨o, h2, h3⟩ := s.rel id L (by rw [ho]; trivial) hL
    rw [ho] at h3
    obtain ⟨vs, rfl, h4, h5, h6⟩ := h3
    obtain ⟨n, hk7, hlen, _⟩ := lenK_spec hk6 (VRs_isC h6)
    rw [Nat.zero_add] at hk7
    have hlen := hlen ρ _ h6
    obtain ⟨e6, hk8⟩ := ite1_spec hk7
    obtain ⟨e7, hk9⟩ := ite1_spec hk8
    obtain ⟨e8, hk10⟩ := ite1_spec hk9
    obtain ⟨e9, hk11⟩ := ite1_spec hk10
    have e6 := Nat.blt_eq.mp e6
    have e8 := Nat.blt_eq.mp e8
    obtain ⟨i, hi, hsz⟩ := szk_spec (P := P) (t := ty) (n := n) (beq_spec e7)
    obtain ⟨el, hu⟩ := (tyk_cases (P := P) d).2.2.2.2.1 (beq_spec e3)
    have hel : ptE P d = el := by simp [ptE, hu]
    rw [hel] at e8 e9
    obtain ⟨i2, hi2, _⟩ := szk_spec (P := P) (t := el) (n := szk P el - 1) (by omega)
    refine ⟨_, _, hk11, hx, ?_⟩
    have hsh : w.shape? L.blk = some (ty, vs.length) := by simp [World.shape?, h2]
    have hco : P.cellsOf ty = n := by simp [Program.cellsOf, hi, hsz]
    refine Lib.run_from_unsafe w ⟨L.blk, L.base + off, none⟩ (tyk_unsafe e2) hu hi2 hsh ?_
    rw [h5, hco, show vs.length / n = 1 by rw [← hlen]; exact Nat.div_self (by omega), Nat.zero_add]
    exact e9
def markFz (fz : Nat × Nat) (n : Nat) : Nat × Nat := if fz.1 == fz.2 then (n, n + 1) else (min fz.1 n, max fz.2 (n + 1))
theorem markFz_ok {fz : Nat × Nat} {n m : Nat} (h4 : n = m) (h5 : ∀ q, q < m → ¬ (fz.1 ≤ q ∧ (q < fz.2 ∨ fz.2 < fz.1))) : ∀ q, q < m → ¬ ((markFz fz n).1 ≤ q ∧ (q < (markFz fz n).2 ∨ (markFz fz n).2 < (markFz fz n).1)) := by
  intro q hq
  unfold markFz
  split
  · simp only; omega
  · rename_i hne
    have hne : fz.1 ≠ fz.2 := by simpa using hne
    have : m ≤ fz.1 := by
      rcases Nat.lt_or_ge fz.1 m with h | h
      · exact absurd ⟨Nat.le_refl _, by omega⟩ (h5 fz.1 h)
      · exact h
    simp only
    omega
theorem convertSame_sound {a d : TypeId} {id off len sz : Nat} {vx : Value} {K : KV} (e1 : Nat.beq (tyk P a) 20 = true)
    (hk : ite1 (Nat.beq a d) (oC (gt O.none id h) fun l ty wr => ite1 wr <| stK O.none (O.c l ty true) id h fun h' => K (.sl id off len sz) h' nx) = true) (s : St ρ h nx w) (hx : VR ρ (.sl id off len sz) vx) :
    ∃ ρ' y h' nx' v w', K y h' nx' = true ∧ VR ρ' y v ∧ St ρ' h' nx' w' ∧ Ext ρ h w ρ' h' w' ∧ (convert a d vx).run P w = .ok v w' := by
  obtain ⟨e2, hk3⟩ := ite1_spec hk
  have e2 := beq_spec e2
  subst e2
  obtain ⟨l, bty, wr, ho, hk4⟩ := oC_spec hk3
  obtain ⟨ewr, hk5⟩ := ite1_spec hk4
  subst ewr
  rw [stK_eq] at hk5
  have hx0 := hx
  simp only [VR] at hx
  obtain ⟨L, cap, hL, hc1, hc2, rfl⟩ := hx
  obtain ⟨o, h2, h3⟩ := s.relC ho hL
  obtain ⟨arr, fz, rfl, h4, h5, h6, h7⟩ := h3
  obtain ⟨e, hu, hue⟩ := (tyk_cases (P := P) a).2.2.2.2.2.2.1 (beq_spec e1)
  have hsh : w.shape? L.blk = some (bty, arr.size) := by
    unfold World.shape?
    rw [h2]
  have hfr : (w.freeze ⟨L.blk, arr.size, none⟩ 1).heap = w.heap.setIfInBounds L.blk (.cells arr bty (markFz fz arr.size)) := by
    simp only [World.freeze, markFz]
    rw [if_neg (by decide)]
    obtain ⟨lo, hi⟩ := fz
    apply Array.ext_getElem?
    intro k
    by_cases hkb : L.blk = k
    · subst hkb
      have hlt : L.blk < w.heap.size := (Array.getElem?_eq_some_iff.1 h2).1
      rw [Array.getElem?_modify, h2]
      simp [hlt]
    · rw [Array.getElem?_modify, Array.getElem?_setIfInBounds_ne hkb]
      simp [hkb]
  have hos : (w.freeze ⟨L.blk, arr.size, none⟩ 1).os = w.os ∧ (w.freeze ⟨L.blk, arr.size, none⟩ 1).tape = w.tape ∧ (w.freeze ⟨L.blk, arr.size, none⟩ 1).output = w.output := by
    simp [World.freeze]
  obtain ⟨k1, k2⟩ := s.write (asC_wr ho) hL (o := O.c l bty true) (ob := .cells arr bty (markFz fz arr.size)) ⟨arr, _, rfl, h4, markFz_ok h4 h5, h6, h7⟩ hfr hos.1 hos.2.1 hos.2.2
  refine ⟨ρ, _, _, nx, _, _, hk5, hx0, k1, k2, ?_⟩
  unfold convert
  simp [Sem.run_bind, run_und hu, run_und hue, Result.andThen_ok, markStringish, run_shape, hsh]
theorem opConvert_sound {a d : TypeId} {x : V} {vx : Value} {K : KV} (hk : opConvert P a d x h nx K = true) (s : St ρ h nx w) (hx : VR ρ x vx) :
    ∃ ρ' y h' nx' v w', K y h' nx' = true ∧ VR ρ' y v ∧ St ρ' h' nx' w' ∧ Ext ρ h w ρ' h' w' ∧ (convert a d vx).run P w = .ok v w' := by
  have bytes : ∀ {l : List Nat}, Nat.beq (tyk P a) 20 = true → Nat.beq (tyk P d) 1 = true → (Conv.bytesToString vx).run P w = .ok (.string (bs l)) w → (∃ A n c, vx = .slice A n c) → (convert a d vx).run P w = .ok (.string (bs l)) w := by
    intro l h1 h2 h3 h4
    obtain ⟨e, hu, hue⟩ := (tyk_cases (P := P) a).2.2.2.2.2.2.1 (beq_spec h1)
    have hd := (tyk_cases (P := P) d).1 (beq_spec h2)
    obtain ⟨A, n, c, rfl⟩ := h4
    rw [run_convert_bytes_string w a d e A n c hu hue hd]
    exact h3
  cases x <;> first | exact Bool.noConfusion hk | skip
  case p id off =>
    obtain ⟨y, r, q1, q2, q3⟩ := cvP_sound (show cvP P a d id off h (fun v => K v h nx) = true from hk) s hx
    exact ⟨ρ, y, h, nx, r, w, q1, q2, s, Ext.refl _ _ _, q3⟩
  case i k n =>
    obtain ⟨e1, hk2⟩ := ite1_spec (show ite1 (Nat.blt 0 (tyk P a)) (Option.rec (motive := fun _ => Bool) (ite1 (Nat.beq (tyk P d) 1) <| Int.rec (motive := fun _ => Bool) (fun m => ite1 (Nat.blt m 128) <| K (.s [m]) h nx) (fun _ => false) n) (fun kd => wrK kd n fun m => K (.i kd m) h nx) (dstK P d)) = true from hk)
    have e1 := Nat.blt_eq.mp e1
    obtain ⟨ds, hs⟩ := (tyk_cases (P := P) a).2.2.2.2.2.2.2.1 (Nat.pos_iff_ne_zero.1 e1)
    simp only [VR] at hx
    subst hx
    cases hd : dstK P d with
    | some kd =>
      rw [hd] at hk2
      have hk3 : wrK kd n (fun m => K (.i kd m) h nx) = true := hk2
      rw [wrK_eq] at hk3
      refine ⟨ρ, _, h, nx, _, w, hk3, VRi _ _ _, s, Ext.refl _ _ _, ?_⟩
      unfold convert
      simp only [Sem.run_bind, run_und hs, run_und (dstK_spec hd), Result.andThen_ok]
      rfl
    | none =>
      rw [hd] at hk2
      obtain ⟨e2, hk3⟩ := ite1_spec (show ite1 (Nat.beq (tyk P d) 1) (Int.rec (motive := fun _ => Bool) (fun m => ite1 (Nat.blt m 128) <| K (.s [m]) h nx) (fun _ => false) n) = true from hk2)
      have hu := (tyk_cases (P := P) d).1 (beq_spec e2)
      cases n with
      | negSucc n => exact Bool.noConfusion hk3
      | ofNat m =>
        obtain ⟨e3, hk4⟩ := ite1_spec hk3
        have e3 := Nat.blt_eq.mp e3
        refine ⟨ρ, _, h, nx, _, w, hk4, VRst ρ (by simp; omega), s, Ext.refl _ _ _, ?_⟩
        unfold convert
        simp only [Sem.run_bind, run_und hs, run_und hu, Result.andThen_ok]
        show (Conv.intToString (Int.ofNat m)).run P w = _
        rw [show Conv.intToString (Int.ofNat m) = pure (.string (Utf8.encode (m : Int))) from rfl, encode_ascii e3]
        rfl
  case s l =>
    obtain ⟨e1, hk2⟩ := ite1_spec (show ite1 (Nat.blt 0 (tyk P a)) (Bool.rec (ite1 (Nat.beq (tyk P d) 20) <| chbK l fun c => slenK l 0 fun n => newK c (slT P d) h nx fun id h' nx' => K (.sl id 0 n 1) h' nx') (K (.s l) h nx) (Nat.beq (tyk P d) 1)) = true from hk)
    have e1 := Nat.blt_eq.mp e1
    obtain ⟨ds, hs⟩ := (tyk_cases (P := P) a).2.2.2.2.2.2.2.1 (Nat.pos_iff_ne_zero.1 e1)
    simp only [VR] at hx
    obtain ⟨rfl, hl⟩ := hx
    cases e2 : Nat.beq (tyk P d) 1 with
    | true =>
      rw [e2] at hk2
      have hu := (tyk_cases (P := P) d).1 (beq_spec e2)
      refine ⟨ρ, _, h, nx, _, w, hk2, VRst ρ hl, s, Ext.refl _ _ _, ?_⟩
      unfold convert
      simp only [Sem.run_bind, run_und hs, run_und hu, Result.andThen_ok]
      rfl
    | false =>
      rw [e2] at hk2
      obtain ⟨e3, hk3⟩ := ite1_spec (show ite1 (Nat.beq (tyk P d) 20) (chbK l fun c => slenK l 0 fun n => newK c (slT P d) h nx fun id h' nx' => K (.sl id 0 n 1) h' nx') = true from hk2)
      obtain ⟨e, hu, hue⟩ := (tyk_cases (P := P) d).2.2.2.2.2.2.1 (beq_spec e3)
      obtain ⟨c, hk4, hc⟩ := chbK_spec hk3
      rw [slenK_eq, Nat.zero_add] at hk4
      have hslt : slT P d = e := by simp [slT, hu]
      rw [hslt] at hk4
      obtain ⟨ρ', y, h', nx', v, w', q1, q2, q3, q4, q5⟩ := stringToBytes_sound (P := P) hk4 s hc hl
      refine ⟨ρ', y, h', nx', v, w', q1, q2, q3, q4, ?_⟩
      unfold convert
      simp only [Sem.run_bind, run_und hs, run_und hu, Result.andThen_ok, run_und hue]
      exact q5
  case sl id off len sz =>
    obtain ⟨e1, hk1⟩ := ite1_spec (show ite1 (Nat.beq (tyk P a) 20) (Bool.rec (ite1 (Nat.beq (tyk P d) 1) <| ite1 (Nat.beq sz 1) <| oC (gt O.none id h) fun l _ _ => dropK l off fun r => takeK r len fun c => bchK c fun t => K (.s t) h nx) (ite1 (Nat.beq a d) <| oC (gt O.none id h) fun l ty wr => ite1 wr <| stK O.none (O.c l ty true) id h fun h' => K (.sl id off len sz) h' nx) (Nat.beq (tyk P d) 20)) = true from hk)
    cases e20 : Nat.beq (tyk P d) 20 with
    | true =>
      rw [e20] at hk1
      exact convertSame_sound e1 hk1 s hx
    | false =>
    rw [e20] at hk1
    have hk2 : ite1 (Nat.beq (tyk P d) 1) (ite1 (Nat.beq sz 1) <| oC (gt O.none id h) fun l _ _ => dropK l off fun r => takeK r len fun c => bchK c fun t => K (.s t) h nx) = true := hk1
    obtain ⟨e2, hk3⟩ := ite1_spec hk2
    obtain ⟨e3, hk4⟩ := ite1_spec hk3
    have e3 := beq_spec e3
    subst e3
    obtain ⟨l, bty, wr, ho, hk5⟩ := oC_spec hk4
    simp only [VR] at hx
    obtain ⟨L, cap, hL, hc1, hc2, rfl⟩ := hx
    obtain ⟨o, h2, h3⟩ := s.relC ho hL
    obtain ⟨arr, fz, rfl, h4, h5, h6, h7⟩ := h3
    obtain ⟨r, hk6, hrc, hr⟩ := dropK_spec hk5 (CR_isC h7)
    obtain ⟨c, hk7, hc⟩ := takeK_spec hk6 hrc
    obtain ⟨g1, g2⟩ := hr ρ _ h7
    obtain ⟨g3, g4⟩ := hc ρ _ g1
    obtain ⟨t, hk8, ht, hts⟩ := bchK_spec hk7 (VRs_isC g3)
    have hcells := hts ρ _ g3
    simp only [Nat.mul_one] at hc2
    have hload := run_loadCells_of P w L.blk (L.base + off) len bty fz arr h2 (by omega)
    rw [← List.drop_drop, hcells] at hload
    refine ⟨ρ, _, h, nx, _, w, hk8, VRst ρ ht, s, Ext.refl _ _ _, ?_⟩
    exact bytes e1 e2 (bytesToString_run hload) ⟨_, _, _, rfl⟩
  all_goals
    obtain ⟨e1, hk2⟩ := ite1_spec (show ite1 (Nat.beq (tyk P a) 20) (ite1 (Nat.beq (tyk P d) 1) <| K (.s []) h nx) = true from hk)
    obtain ⟨e2, hk3⟩ := ite1_spec hk2
    simp only [VR] at hx
    first
      | subst hx
      | obtain ⟨A, c, rfl⟩ := hx
      | obtain ⟨A, rfl⟩ := hx
    refine ⟨ρ, _, h, nx, _, w, hk3, VRst ρ (by simp), s, Ext.refl _ _ _, ?_⟩
    refine bytes e1 e2 ?_ ⟨_, _, _, rfl⟩
    first
      | rfl
      | exact bytesToString_run (l := []) (by simp [loadCells, loadCellsFrom])
end
end Go.Mx
