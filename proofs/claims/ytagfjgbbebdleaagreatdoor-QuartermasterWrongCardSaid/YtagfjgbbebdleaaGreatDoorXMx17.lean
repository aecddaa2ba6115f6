/-
  A part of a small executor of the model, proved sound (Mx17 of 46). No condition.
-/
import Derived.Test.YtagfjgbbebdleaaGreatDoorXMx16
namespace Go.Mx
open Instr Builtin
noncomputable section
variable {P : Program} {ρ : Ren} {h : T O} {nx : Nat} {w : World}
theorem newO_sound {o : O} {ob : Obj} {K : Nat → T O → Nat → Bool} (hk : newO o h nx K = true) (s : St ρ h nx w) (ho : ∀ ρ', Ren.le ρ ρ' → OR ρ' ⟨w.heap.size, 0, 0⟩ o ob) :
    ∃ h', K nx h' (nx + 1) = true ∧ St (upd ρ nx ⟨w.heap.size, 0, 0⟩) h' (nx + 1) (w.alloc ob) ∧ Ext ρ h w (upd ρ nx ⟨w.heap.size, 0, 0⟩) h' (w.alloc ob) := by
  unfold newO at hk
  rw [stK_eq] at hk
  exact ⟨_, hk, s.alloc (ho _ (upd_le (s.fresh nx (Nat.le_refl _))))⟩
theorem opMakeMap_sound {t : TypeId} {r : Option V} {vr : Option Value} {K : KV} (hk : opMakeMap P t r h nx K = true) (s : St ρ h nx w) (hr : OpR ρ r vr) :
    ∃ ρ' y h' nx' v w', K y h' nx' = true ∧ VR ρ' y v ∧ St ρ' h' nx' w' ∧ Ext ρ h w ρ' h' w' ∧ (Instr.makeMap t vr).run P w = .ok v w' := by
  have fin : newO (.mp .nil 0) h nx (fun id h' nx' => K (.m id) h' nx') = true → ∃ h', K (.m nx) h' (nx + 1) = true ∧ St (upd ρ nx ⟨w.heap.size, 0, 0⟩) h' (nx + 1) (w.alloc (.map #[] 0)) ∧ Ext ρ h w (upd ρ nx ⟨w.heap.size, 0, 0⟩) h' (w.alloc (.map #[] 0)) :=
    fun hk => newO_sound (K := fun id h' nx' => K (.m id) h' nx') hk s fun ρ' _ => ⟨#[], rfl, by simp [ER]⟩
  have hv : VR (upd ρ nx ⟨w.heap.size, 0, 0⟩) (.m nx) (.map (some w.heap.size)) := by simp only [VR]; exact ⟨_, upd_same _ _ _, rfl⟩
  cases r with
  | none =>
    cases vr with
    | some v => exact hr.elim
    | none =>
      obtain ⟨h', g1, g2, g3⟩ := fin hk
      refine ⟨_, _, h', _, _, _, g1, hv, g2, g3, ?_⟩
      simp [Instr.makeMap]
  | some x =>
    cases vr with
    | none => exact hr.elim
    | some v =>
      obtain ⟨e, hk2⟩ := ite1_spec (show ite1 (Nat.beq (tyk P t) 22) (vI x fun _ _ => newO (.mp .nil 0) h nx fun id h' nx' => K (.m id) h' nx') = true from hk)
      obtain ⟨k, n, rfl, hk3⟩ := vI_spec hk2
      obtain ⟨h', g1, g2, g3⟩ := fin hk3
      simp only [OpR, VR] at hr
      subst hr
      obtain ⟨kt, et, hu⟩ := (tyk_cases (P := P) t).2.2.1 (beq_spec e)
      refine ⟨_, _, h', _, _, _, g1, hv, g2, g3, ?_⟩
      simp [Instr.makeMap, run_und hu, asInt, asIntOf]
theorem cntE_spec {k : Nat → Bool} {ρ : Ren} : ∀ {es : E} {l : List MapEntry} {n : Nat}, cntE es n k = true → ER ρ es l → k (n + l.length) = true := by
  intro es
  induction es with
  | nil => intro l n hk hr; simp only [ER] at hr; subst hr; exact hk
  | cons a b c r ih =>
    intro l n hk hr
    simp only [ER] at hr
    obtain ⟨x, xs, rfl, _, _, _, h4⟩ := hr
    have := ih (n := n + 1) hk h4
    rw [List.length_cons, show n + (xs.length + 1) = n + 1 + xs.length by omega]
    exact this
theorem opLen_sound {t ty : TypeId} {ts : Array TypeId} {x : V} {vx : Value} {args : Array Value} {K : V → Bool} (hk : opLen P t x h K = true) (s : St ρ h nx w) (hx : VR ρ x vx) (ht : ts[0]? = some t) (ha : args[0]? = some vx) :
    ∃ y r, K y = true ∧ VR ρ y r ∧ (len_ ts ty args).run P w = .ok r w := by
  cases x <;> first | exact Bool.noConfusion hk | skip
  case s l =>
    obtain ⟨e, hk2⟩ := ite1_spec (show ite1 (Nat.beq (tyk P t) 1) (slenK l 0 fun n => K (.i .i64 (Int.ofNat n))) = true from hk)
    rw [slenK_eq, Nat.zero_add] at hk2
    have hu := (tyk_cases (P := P) t).1 (beq_spec e)
    simp only [VR] at hx
    obtain ⟨rfl, _⟩ := hx
    refine ⟨_, _, hk2, VRi _ _ _, ?_⟩
    unfold len_
    simp only [ht, ha, Sem.run_bind, run_und hu, Result.andThen_ok, bs_size]
    rfl
  case m id =>
    obtain ⟨e, hk2⟩ := ite1_spec (show ite1 (Nat.beq (tyk P t) 22) (oM (gt O.none id h) fun es _ => cntE es 0 fun n => K (.i .i64 (Int.ofNat n))) = true from hk)
    obtain ⟨es, clock, ho, hk3⟩ := oM_spec hk2
    obtain ⟨L, es', hL, rfl, hh, her⟩ := s.map ho hx
    have hk4 := cntE_spec hk3 her
    rw [Nat.zero_add] at hk4
    obtain ⟨kt, et, hu⟩ := (tyk_cases (P := P) t).2.2.1 (beq_spec e)
    refine ⟨_, _, hk4, VRi _ _ _, ?_⟩
    unfold len_
    simp only [ht, ha, Sem.run_bind, run_und hu, Result.andThen_ok, run_getMap hh, Array.length_toList]
    rfl
  case mn =>
    obtain ⟨e, hk2⟩ := ite1_spec (show ite1 (Nat.beq (tyk P t) 22) (K (.i .i64 (Int.ofNat 0))) = true from hk)
    obtain ⟨kt, et, hu⟩ := (tyk_cases (P := P) t).2.2.1 (beq_spec e)
    simp only [VR] at hx
    subst hx
    refine ⟨_, _, hk2, VRi _ _ _, ?_⟩
    unfold len_
    simp only [ht, ha, Sem.run_bind, run_und hu, Result.andThen_ok]
    rfl
  case sl id off len sz =>
    obtain ⟨e, hk2⟩ := ite1_spec (show ite1 (Nat.blt 0 (slE P t)) (K (.i .i64 (Int.ofNat len))) = true from hk)
    obtain ⟨i, hu, _⟩ := slE_pos e
    simp only [VR] at hx
    obtain ⟨L, c, _, _, _, rfl⟩ := hx
    refine ⟨_, _, hk2, VRi _ _ _, ?_⟩
    unfold len_
    simp only [ht, ha, Sem.run_bind, run_und hu, Result.andThen_ok]
    rfl
  all_goals
    obtain ⟨e, hk2⟩ := ite1_spec (show ite1 (Nat.blt 0 (slE P t)) (K (.i .i64 (Int.ofNat 0))) = true from hk)
    obtain ⟨i, hu, _⟩ := slE_pos e
    simp only [VR] at hx
    first
      | subst hx
      | obtain ⟨A, c, rfl⟩ := hx
      | obtain ⟨A, rfl⟩ := hx
    refine ⟨_, _, hk2, VRi _ _ _, ?_⟩
    unfold len_
    simp only [ht, ha, Sem.run_bind, run_und hu, Result.andThen_ok]
    rfl
theorem opRange_sound {t : TypeId} {x : V} {vx : Value} {K : KV} (hk : opRange P t x h nx K = true) (s : St ρ h nx w) (hx : VR ρ x vx) :
    ∃ ρ' y h' nx' v w', K y h' nx' = true ∧ VR ρ' y v ∧ St ρ' h' nx' w' ∧ Ext ρ h w ρ' h' w' ∧ (Instr.range t vx).run P w = .ok v w' := by
  cases e : Nat.beq (tyk P t) 1 with
  | true =>
    have hk2 : (Bool.rec (motive := fun _ => Bool) _ (vS x fun l => newO (.si l 0) h nx fun id h' nx' => K (.p id 0) h' nx') (Nat.beq (tyk P t) 1) : Bool) = true := hk
    rw [e] at hk2
    obtain ⟨l, rfl, hk3⟩ := vS_spec (show vS x (fun l => newO (.si l 0) h nx fun id h' nx' => K (.p id 0) h' nx') = true from hk2)
    simp only [VR] at hx
    obtain ⟨rfl, hl⟩ := hx
    obtain ⟨h', g1, g2, g3⟩ := newO_sound (ob := .stringIter (bs l) 0) hk3 s fun ρ' _ => ⟨rfl, hl, rfl⟩
    refine ⟨_, _, h', _, .pointer (some ⟨w.heap.size, 0, none⟩), _, g1, by simp only [VR]; exact ⟨_, upd_same _ _ _, rfl⟩, g2, g3, ?_⟩
    have hu := (tyk_cases (P := P) t).1 (beq_spec e)
    simp only [Instr.range, Sem.run_bind, run_und hu, Result.andThen_ok, Sem.run_pure, run_newObj]
    rfl
  | false =>
    unfold opRange at hk
    rw [e] at hk
    obtain ⟨e2, hk2⟩ := ite1_spec hk
    obtain ⟨kt, et, hu⟩ := (tyk_cases (P := P) t).2.2.1 (beq_spec e2)
    cases x <;> first | exact Bool.noConfusion hk2 | skip
    case mn =>
      have hk3 : newO (.mi .mn 0 [] 0) h nx (fun id h' nx' => K (.p id 0) h' nx') = true := hk2
      simp only [VR] at hx
      subst hx
      obtain ⟨h', g1, g2, g3⟩ := newO_sound (ob := .mapIter none 0 #[] 0) hk3 s fun ρ' _ => ⟨none, rfl, by simp [VR], rfl⟩
      refine ⟨_, _, h', _, .pointer (some ⟨w.heap.size, 0, none⟩), _, g1, by simp only [VR]; exact ⟨_, upd_same _ _ _, rfl⟩, g2, g3, ?_⟩
      simp only [Instr.range, Sem.run_bind, run_und hu, Result.andThen_ok, Sem.run_pure, run_newObj]
      rfl
    case m mid =>
      obtain ⟨es, clock, ho, hk3⟩ := oM_spec (show oM (gt O.none mid h) (fun _ clock => newO (.mi (.m mid) clock [] clock) h nx fun id h' nx' => K (.p id 0) h' nx') = true from hk2)
      have hx2 := hx
      simp only [VR] at hx2
      obtain ⟨L, hL, rfl⟩ := hx2
      obtain ⟨o, h2, h3⟩ := s.rel mid L (by rw [ho]; trivial) hL
      rw [ho] at h3
      obtain ⟨es', rfl, _⟩ := h3
      have hget : (getObj L.blk).run P w = .ok (.map es' clock) w := by simp only [getObj, Sem.run, h2]
      obtain ⟨h', g1, g2, g3⟩ := newO_sound (ob := .mapIter (some L.blk) clock #[] clock) hk3 s fun ρ' hle => ⟨some L.blk, rfl, by simp only [VR]; exact ⟨L, hle _ _ hL, rfl⟩, rfl⟩
      refine ⟨_, _, h', _, .pointer (some ⟨w.heap.size, 0, none⟩), _, g1, by simp only [VR]; exact ⟨_, upd_same _ _ _, rfl⟩, g2, g3, ?_⟩
      simp only [Instr.range, Sem.run_bind, run_und hu, Result.andThen_ok, hget, Sem.run_pure, run_newObj]
      rfl
theorem opNextS_sound {it : V} {ty : TypeId} {vi : Value} {K : V → T O → Bool} (hk : opNextS it h K = true) (s : St ρ h nx w) (hi : VR ρ it vi) :
    ∃ y h' v w', K y h' = true ∧ VR ρ y v ∧ St ρ h' nx w' ∧ Ext ρ h w ρ h' w' ∧ (Instr.next vi true ty).run P w = .ok v w' := by
  obtain ⟨id, off, rfl, hk3⟩ := vP_spec hk
  clear hk
  obtain ⟨e, hk4⟩ := ite1_spec hk3
  clear hk3
  have e := beq_spec e
  subst e
  obtain ⟨l, pos, ho, hk5⟩ := oS_spec hk4
  rw [slenK_eq, Nat.zero_add] at hk5
  simp only [VR] at hi
  obtain ⟨L, hL, rfl⟩ := hi
  obtain ⟨o, h2, h3⟩ := s.rel id L (by rw [ho]; trivial) hL
  rw [ho] at h3
  obtain ⟨rfl, hl, hb⟩ := h3
  have hget : (getObj L.blk).run P w = .ok (.stringIter (bs l) pos) w := by simp only [getObj, Sem.run, h2]
  cases e2 : Nat.blt pos l.length with
  | false =>
    rw [e2] at hk5
    have hlt : ¬ pos < l.length := fun h => by rw [Nat.blt_eq.mpr h] at e2; cases e2
    refine ⟨_, h, .tuple #[.bool false], w, hk5, ?_, s, Ext.refl _ _ _, ?_⟩
    · simp only [VR, VRs]; exact ⟨[.bool false], ⟨_, _, rfl, rfl, rfl⟩, rfl⟩
    · simp only [Instr.next, hb, Nat.add_zero, Sem.run_bind, hget, Result.andThen_ok, bs_size, hlt, if_false, Sem.run_pure]
  | true =>
    rw [e2] at hk5
    have hlt := Nat.blt_eq.mp e2
    obtain ⟨c, hc, hk6⟩ := snthK_spec (show snthK l pos (fun c => ite1 (Nat.blt c 128) <| stK O.none (O.si l (Nat.succ pos)) id h fun h' => K (.t (.cons (.b true) (.cons (.i .i64 (Int.ofNat pos)) (.cons (.i .i32 (Int.ofNat c)) .nil)))) h') = true from hk5)
    obtain ⟨e3, hk7⟩ := ite1_spec hk6
    have e3 := Nat.blt_eq.mp e3
    rw [stK_eq] at hk7
    obtain ⟨r1, r2⟩ := s.write (id := id) (L := L) (by rw [ho]; trivial) hL (o := .si l (Nat.succ pos)) (ob := .stringIter (bs l) (pos + 1)) ⟨rfl, hl, hb⟩
      (w' := { w with heap := w.heap.setIfInBounds L.blk (.stringIter (bs l) (pos + 1)) }) rfl rfl rfl rfl
    refine ⟨_, _, .tuple #[.bool true, .int .i64 (pos : Int), .int .i32 (c : Int)], _, hk7, ?_, r1, r2, ?_⟩
    · simp only [VR, VRs]
      exact ⟨[_, _, _], ⟨_, _, rfl, rfl, _, _, rfl, rfl, _, _, rfl, rfl, rfl⟩, rfl⟩
    · have hset : (setObj L.blk (.stringIter (bs l) (pos + 1))).run P w = .ok () { w with heap := w.heap.setIfInBounds L.blk (.stringIter (bs l) (pos + 1)) } := by simp only [setObj, Sem.run, h2]
      simp only [Instr.next, hb, Nat.add_zero, Sem.run_bind, hget, Result.andThen_ok, bs_size, hlt, if_true, decode_ascii hc e3, hset, Sem.run_pure]
      rfl
theorem run_getObj_of {b : Nat} {o : Obj} (h : w.heap[b]? = some o) (hn : ∀ a c f, o ≠ .cells a c f) : (getObj b).run P w = .ok o w := by
  cases o with
  | cells a c f => exact (hn _ _ _ rfl).elim
  | _ => simp only [getObj, Sem.run, h]
theorem run_mapNext1 : (choose (.mapNext 1)).run P w = .ok 0 w := by simp [choose, Sem.run, Question.forced]
theorem opNextM_sound {it : V} {ty : TypeId} {vi : Value} {K : V → T O → Bool} (hk : opNextM it h K = true) (s : St ρ h nx w) (hi : VR ρ it vi) :
    ∃ y h' v w', K y h' = true ∧ VR ρ y v ∧ St ρ h' nx w' ∧ Ext ρ h w ρ h' w' ∧ (Instr.next vi false ty).run P w = .ok v w' := by
  obtain ⟨id, off, rfl, hk2⟩ := vP_spec hk
  obtain ⟨e, hk3⟩ := ite1_spec hk2
  have e := beq_spec e
  subst e
  obtain ⟨m, since, seen, last, ho, hk4⟩ := oI_spec hk3
  clear hk hk2 hk3
  simp only [VR] at hi
  obtain ⟨L, hL, rfl⟩ := hi
  obtain ⟨o, h2, h3⟩ := s.rel id L (by rw [ho]; trivial) hL
  rw [ho] at h3
  obtain ⟨mm, rfl, hm, hb⟩ := h3
  have hget := run_getObj_of (P := P) h2 (by simp)
  have hover : VR ρ overV (.tuple #[.bool false]) := by simp only [overV, VR, VRs]; exact ⟨[.bool false], ⟨_, _, rfl, rfl, rfl⟩, rfl⟩
  cases m <;> first | exact Bool.noConfusion hk4 | skip
  case mn =>
    have hk5 : K overV h = true := hk4
    simp only [VR, Value.map.injEq] at hm
    subst hm
    refine ⟨_, h, .tuple #[.bool false], w, hk5, hover, s, Ext.refl _ _ _, ?_⟩
    simp only [Instr.next, hb, Nat.add_zero, Sem.run_bind, hget, Result.andThen_ok, Sem.run_pure]
  case m mid =>
    obtain ⟨es, clock, ho2, hk5⟩ := oM_spec (show oM (gt O.none mid h) (fun es clock => nextM id (.m mid) since seen last clock es h K) = true from hk4)
    have hm2 := hm
    simp only [VR] at hm2
    obtain ⟨M, hM, hmm⟩ := hm2
    cases hmm
    obtain ⟨o2, h4, h5⟩ := s.rel mid M (by rw [ho2]; trivial) hM
    rw [ho2] at h5
    obtain ⟨es', rfl, her⟩ := h5
    have hget2 := run_getObj_of (P := P) h4 (by simp)
    cases es with
    | nil =>
      have hk6 : K overV h = true := hk5
      simp only [ER] at her
      have hes : es' = #[] := by apply Array.ext'; simpa using her
      subst hes
      refine ⟨_, h, .tuple #[.bool false], w, hk6, hover, s, Ext.refl _ _ _, ?_⟩
      simp [Instr.next, hb, hget, hget2, choose, Sem.run, Question.forced]
    | cons k v born rest =>
      cases rest with
      | cons _ _ _ _ => exact Bool.noConfusion hk5
      | nil =>
        simp only [ER] at her
        obtain ⟨x, xs, hes, hkr, hvr, hbn, hxs⟩ := her
        subst hxs
        have hes : es' = #[x] := by apply Array.ext'; simpa using hes
        subst hes
        subst hbn
        cases seen with
        | nil =>
          obtain ⟨e1, hk6⟩ := ite1_spec (show ite1 (Nat.blt x.born since) (stK O.none (O.mi (.m mid) since [x.born] clock) id h fun h' => K (.t (.cons (.b true) (.cons k (.cons v .nil)))) h') = true from hk5)
          have e1 := Nat.blt_eq.mp e1
          rw [stK_eq] at hk6
          obtain ⟨r1, r2⟩ := s.write (id := id) (L := L) (by rw [ho]; trivial) hL (o := .mi (.m mid) since [x.born] clock) (ob := .mapIter (some M.blk) since #[x.born] clock) ⟨some M.blk, rfl, hm, hb⟩
            (w' := { w with heap := w.heap.setIfInBounds L.blk (.mapIter (some M.blk) since #[x.born] clock) }) rfl rfl rfl rfl
          refine ⟨_, _, .tuple #[.bool true, x.key, x.val], _, hk6, ?_, r1, r2, ?_⟩
          · simp only [VR, VRs]
            exact ⟨[_, _, _], ⟨_, _, rfl, rfl, _, _, rfl, hkr, _, _, rfl, hvr, rfl⟩, rfl⟩
          · have hset : (setObj L.blk (.mapIter (some M.blk) since #[x.born] clock)).run P w = .ok () { w with heap := w.heap.setIfInBounds L.blk (.mapIter (some M.blk) since #[x.born] clock) } := by simp only [setObj, Sem.run, h2]
            have n1 : ¬ since ≤ x.born := by omega
            simp [Instr.next, hb, hget, hget2, choose, Sem.run, Question.forced, e1, n1, hset]
        | cons b r =>
          cases r with
          | cons _ _ => exact Bool.noConfusion hk5
          | nil =>
            obtain ⟨e1, hk6⟩ := ite1_spec (show ite1 (Nat.beq b x.born) (ite1 (Nat.blt x.born last) <| K overV h) = true from hk5)
            obtain ⟨e2, hk7⟩ := ite1_spec hk6
            have e1 := beq_spec e1
            have e2 := Nat.blt_eq.mp e2
            subst e1
            have n1 : ¬ last ≤ x.born := by omega
            refine ⟨_, h, .tuple #[.bool false], w, hk7, hover, s, Ext.refl _ _ _, ?_⟩
            simp [Instr.next, hb, hget, hget2, choose, Sem.run, Question.forced, n1]
theorem opNext_sound {it : V} {str : Bool} {ty : TypeId} {vi : Value} {K : V → T O → Bool} (hk : opNext it str h K = true) (s : St ρ h nx w) (hi : VR ρ it vi) :
    ∃ y h' v w', K y h' = true ∧ VR ρ y v ∧ St ρ h' nx w' ∧ Ext ρ h w ρ h' w' ∧ (Instr.next vi str ty).run P w = .ok v w' := by
  cases str with
  | true => exact opNextS_sound hk s hi
  | false => exact opNextM_sound hk s hi
theorem opAssert_sound {x : V} {xT t : TypeId} {ok : Bool} {vx : Value} {K : V → Bool} (hk : opAssert P x t ok K = true) (hx : VR ρ x vx) :
    ∃ y r, K y = true ∧ VR ρ y r ∧ (Instr.typeAssert vx xT t ok).run P w = .ok r w := by
  obtain ⟨e, hk2⟩ := ite1_spec hk
  clear hk
  have hd : ∃ d, P.underlying t = some d ∧ ∀ m, d ≠ .interface m := by
    unfold conc at e
    cases e2 : Nat.beq (tyk P t) 23 with
    | true => rw [e2] at e; exact Bool.noConfusion e
    | false =>
      rw [e2] at e
      have e := Nat.blt_eq.mp (show Nat.blt 0 (tyk P t) = true from e)
      obtain ⟨d, hu⟩ := (tyk_cases (P := P) t).2.2.2.2.2.2.2.1 (Nat.pos_iff_ne_zero.1 e)
      refine ⟨d, hu, fun m hm => ?_⟩
      subst hm
      simp [tyk, hu] at e2
  obtain ⟨d, hu, hni⟩ := hd
  cases x <;> first | exact Bool.noConfusion hk2 | skip
  case e t' y =>
    have hk3 : (Bool.rec (Bool.rec false (Option.rec (motive := fun _ => Bool) false (fun z => K (v2 z (.b false))) (zeroV P t)) ok) (K (okay ok y true)) (Nat.beq t' t) : Bool) = true := hk2
    simp only [VR] at hx
    obtain ⟨z, hz, rfl⟩ := hx
    cases e3 : Nat.beq t' t with
    | true =>
      rw [e3] at hk3
      have e3 := beq_spec e3
      subst e3
      refine ⟨_, _, hk3, VR_okay hz, ?_⟩
      unfold Instr.typeAssert
      simp only [Sem.run_bind, run_und hu, Result.andThen_ok]
      cases d <;> first | exact (hni _ rfl).elim | (cases ok <;> simp)
    | false =>
      rw [e3] at hk3
      have hne : ¬ t' = t := fun e => by rw [e, Nat.beq_refl] at e3; cases e3
      cases ok with
      | false => exact Bool.noConfusion hk3
      | true =>
        cases hzv : zeroV P t with
        | none => rw [hzv] at hk3; exact Bool.noConfusion hk3
        | some zz =>
          rw [hzv] at hk3
          obtain ⟨zr, hz1, hz2⟩ := zeroV_spec hzv
          refine ⟨_, _, hk3, VR_v2 (hz2 ρ) (VRb _ _), ?_⟩
          unfold Instr.typeAssert
          simp only [Sem.run_bind, run_und hu, Result.andThen_ok]
          cases d <;> first | exact (hni _ rfl).elim | simp [hne, hz1]
  case en =>
    have hk3 : (Bool.rec false (Option.rec (motive := fun _ => Bool) false (fun z => K (v2 z (.b false))) (zeroV P t)) ok : Bool) = true := hk2
    simp only [VR] at hx
    subst hx
    cases ok with
    | false => exact Bool.noConfusion hk3
    | true =>
      cases hzv : zeroV P t with
      | none => rw [hzv] at hk3; exact Bool.noConfusion hk3
      | some zz =>
        rw [hzv] at hk3
        obtain ⟨zr, hz1, hz2⟩ := zeroV_spec hzv
        refine ⟨_, _, hk3, VR_v2 (hz2 ρ) (VRb _ _), ?_⟩
        unfold Instr.typeAssert
        simp only [Sem.run_bind, run_und hu, Result.andThen_ok]
        cases d <;> first | exact (hni _ rfl).elim | simp [hz1]
end
end Go.Mx
