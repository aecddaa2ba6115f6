/-
  A part of a small executor of the model, proved sound (Mx17 of 46). No condition.
-/
import Derived.Test.YtmplmfieipckjaaGreatDoorXMx16
namespace Go.Mx
open Instr Builtin
noncomputable section
variable {P : Program} {ρ : Ren} {h : T O} {nx : Nat} {w : World}
theorem newO_sound {o : O} {ob : Obj} {K : Nat → T O → Nat → Bool} (hk : newO o h nx K = true) (s : St ρ h nx w) (ho : ∀ ρ', Ren.le ρ ρ' → OR ρ' ⟨w.heap.size, 0, 0⟩ o ob) :
    ∃ h', K nx h' (nx + 1) = true ∧ St (upd ρ nx ⟨w.heap.size, 0, 0⟩) h' (nx + 1) (w.alloc ob) ∧ Ext ρ h w (upd ρ nx ⟨w.heap.size, 0, 0⟩) h' (w.alloc ob) := by
  unfold newO at hk
  rw [stK_eq] at hk
  exact ⟨_, hk, s.alloc (ho _ (upd_le (s.fresh nx (Nat.le_refl _))))⟩
theorem opMakeMap_sound {t : TypeId} {r : Option V} {vr : Option Value} {K : KV} (hk : opMakeMap P t r h nx K = true) (s : St ρ h nx w) (hr : OpR ρ r vr) :
    ∃ ρ' y h' nx' v w', K y h' nx' = true ∧ VR ρ' y v ∧ St ρ' h' nx' w' ∧ Ext ρ h w ρ' h' w' ∧ (Instr.makeMap t vr).run P w = .ok v w' := by
  have fin : newO (.mp .nil 0) h nx (fun id h' nx' => K (.m id) h' nx') = true → ∃ h', K (.m nx) h' (nx + 1) = true ∧ St (upd ρ nx ⟨w.heap.size, 0, 0⟩) h' (nx + 1) (w.alloc (.map #[] 0)) ∧ Ext ρ h w (upd ρ nx ⟨w.heap.size, 0, 0⟩) h' (w.alloc (.map #[] 0)) :=
    fun hk => newO_sound (K := fun id h' nx' => K (.m id) h' nx') hk s fun ρ' _ => ⟨#[], rfl, by simp [ER]⟩
  have hv : VR (upd ρ nx ⟨w.heap.size, 0, 0⟩) (.m nx) (.map (some w.heap.size)) := by simp only [VR]; exact ⟨_, upd_same _ _ _, rfl⟩
  cases r with
  | none =>
    cases vr with
    | some v => exact hr.elim
    | none =>
      obtain ⟨h', g1, g2, g3⟩ := fin hk
      refine ⟨_, _, h', _, _, _, g1, hv, g2, g3, ?_⟩
      simp [Instr.makeMap]
  | some x =>
    cases vr with
    | none => exact hr.elim
    | some v =>
      obtain ⟨e, hk2⟩ := ite1_spec (show ite1 (Nat.beq (tyk P t) 22) (vI x fun _ _ => newO (.mp .nil 0) h nx fun id h' nx' => K (.m id) h' nx') = true from hk)
      obtain ⟨k, n, rfl, hk3⟩ := vI_spec hk2
      obtain ⟨h', g1, g2, g3⟩ := fin hk3
      simp only [OpR, VR] at hr
      subst hr
      obtain ⟨kt, et, hu⟩ := (tyk_cases (P := P) t).2.2.1 (beq_spec e)
      refine ⟨_, _, h', _, _, _, g1, hv, g2, g3, ?_⟩
      simp [Instr.makeMap, run_und hu, asInt, asIntOf]
theorem cntE_spec {k : Nat → Bool} {ρ : Ren} : ∀ {es : E} {l : List MapEntry} {n : Nat}, cntE es n k = true → ER ρ es l → k (n + l.length) = true := by
  intro es
  induction es with
  | nil => intro l n hk hr; simp only [ER] at hr; subst hr; exact hk
  | cons a b c r ih =>
    intro l n hk hr
    simp only [ER] at hr
    obtain ⟨x, xs, rfl, _, _, _, h4⟩ := hr
    have := ih (n := n + 1) hk h4
    rw [List.length_cons, show n + (xs.length + 1) = n + 1 + xs.length by omega]
    exact this
theorem opLen_sound {t ty : TypeId} {ts : Array TypeId} {x : V} {vx : Value} {args : Array Value} {K : V → Bool} (hk : opLen P t x h K = true) (s : St ρ h nx w) (hx : VR ρ x vx) (ht : ts[0]? = some t) (ha : args[0]? = some vx) :
    ∃ y r, K y = true ∧ VR ρ y r ∧ (len_ ts ty args).run P w = .ok r w := by
  cases x <;> first | exact Bool.noConfusion hk | skip
  case s l =>
    obtain ⟨e, hk2⟩ := ite1_spec (show ite1 (Nat.beq (tyk P t) 1) (slenK l 0 fun n => K (.i .i64 (Int.ofNat n))) = true from hk)
    rw [slenK_eq, Nat.zero_add] at hk2
    have hu := (tyk_cases (P := P) t).1 (beq_spec e)
    simp only [VR] at hx
    obtain ⟨rfl, _⟩ := hx
    refine ⟨_, _, hk2, VRi _ _ _, ?_⟩
    unfold len_
    simp only [ht, ha, Sem.run_bind, run_und hu, Result.andThen_ok, bs_size]
    rfl
  case m id =>
    obtain ⟨e, hk2⟩ := ite1_spec (show ite1 (Nat.beq (tyk P t) 22) (oM (gt O.none id h) fun es _ => cntE es 0 fun n => K (.i .i64 (Int.ofNat n))) = true from hk)
    obtain ⟨es, clock, ho, hk3⟩ := oM_spec hk2
    obtain ⟨L, es', hL, rfl, hh, her⟩ := s.map ho hx
    have hk4 := cntE_spec hk3 her
    rw [Nat.zero_add] at hk4
    obtain ⟨kt, et, hu⟩ := (tyk_cases (P := P) t).2.2.1 (beq_spec e)
    refine ⟨_, _, hk4, VRi _ _ _, ?_⟩
    unfold len_
    simp only [ht, ha, Sem.run_bind, run_und hu, Result.andThen_ok, run_getMap hh, Array.length_toList]
    rfl
  case mn =>
    obtain ⟨e, hk2⟩ := ite1_spec (show ite1 (Nat.beq (tyk P t) 22) (K (.i .i64 (Int.ofNat 0))) = true from hk)
    obtain ⟨kt, et, hu⟩ := (tyk_cases (P := P) t).2.2.1 (beq_spec e)
    simp only [VR] at hx
    subst hx
    refine ⟨_, _, hk2, VRi _ _ _, ?_⟩
    unfold len_
    simp only [ht, ha, Sem.run_bind, run_und hu, Result.andThen_ok]
    rfl
  case sl id off len sz =>
    obtain ⟨e, hk2⟩ := ite1_spec (show ite1 (Nat.blt 0 (slE P t)) (K (.i .i64 (Int.ofNat len))) = true from hk)
    obtain ⟨i, hu, _⟩ := slE_pos e
    simp only [VR] at hx
    obtain ⟨L, c, _, _, _, rfl⟩ := hx
    refine ⟨_, _, hk2, VRi _ _ _, ?_⟩
    unfold len_
    simp only [ht, ha, Sem.run_bind, run_und hu, Result.andThen_ok]
    rfl
  all_goals
    obtain ⟨e, hk2⟩ := ite1_spec (show ite1 (Nat.blt 0 (slE P t)) (K (.i .i64 (Int.ofNat 0))) = true from hk)
    obtain ⟨i, hu, _⟩ := slE_pos e
    simp only [VR] at hx
    first
      | subst hx
      | obtain ⟨A, c, rfl⟩ := hx
      | obtain ⟨A, rfl⟩ := hx
    refine ⟨_, _, hk2, VRi _ _ _, ?_⟩
    unfold len_
    simp only [ht, ha, Sem.run_bind, run_und hu, Result.andThen_ok]
    rfl
theorem opRange_sound {t : TypeId} {x : V} {vx : Value} {K : KV} (hk : opRange P t x h nx K = true) (s : St ρ h nx w) (hx : VR ρ x vx) :
    ∃ ρ' y h' nx' v w', K y h' nx' = true ∧ VR ρ' y v ∧ St ρ' h' nx' w' ∧ Ext ρ h w ρ' h' w' ∧ (Instr.range t vx).run P w = .ok v w' := by
  cases e : Nat.beq (tyk P t) 1 with
  | true =>
    have hk2 : (Bool.rec (motive := fun _ => Bool) _ (vS x fun l => newO (.si l 0) h nx fun id h' nx' => K (.p id 0) h' nx') (Nat.beq (tyk P t) 1) : Bool) = true := hk
    rw [e] at hk2
    obtain ⟨l, rfl, hk3⟩ := vS_spec (show vS x (fun l => newO (.si l 0) h nx fun id h' nx' => K (.p id 0) h' nx') = true from hk2)
    simp only [VR] at hx
    obtain ⟨rfl, hl⟩ := hx
    obtain ⟨h', g1, g2, g3⟩ := newO_sound (ob := .stringIter (bs l) 0) hk3 s fun ρ' _ => ⟨rfl, hl, rfl⟩
    refine ⟨_, _, h', _, .pointer (some ⟨w.heap.size, 0, none⟩), _, g1, by simp only [VR]; exact ⟨_, upd_same _ _ _, rfl⟩, g2, g3, ?_⟩
    have hu := (tyk_cases (P := P) t).1 (beq_spec e)
    simp only [Instr.range, Sem.run_bind, run_und hu, Result.andThen_ok, Sem.run_pure, run_newObj]
    rfl
  | false =>
    unfold opRange at hk
    rw [e] at hk
    obtain ⟨e2, hk2⟩ := ite1_spec hk
    obtain ⟨kt, et, hu⟩ := (tyk_cases (P := P) t).2.2.1 (beq_spec e2)
    cases x <;> first | exact Bool.noConfusion hk2 | skip
    case mn =>
      have hk3 : newO (.mi .mn 0 [] 0) h nx (fun id h' nx' => K (.p id 0) h' nx') = true := hk2
      simp only [VR] at hx
      subst hx
      obtain ⟨h', g1, g2, g3⟩ := newO_sound (ob := .mapIter none 0 #[] 0) hk3 s fun ρ' _ => ⟨none, rfl, by simp [VR], rfl⟩
      refine ⟨_, _, h', _, .pointer (some ⟨w.heap.size, 0, none⟩), _, g1, by simp only [VR]; exact ⟨_, upd_same _ _ _, rfl⟩, g2, g3, ?_⟩
      simp only [Instr.range, Sem.run_bind, run_und hu, Result.andThen_ok, Sem.run_pure, run_newObj]
      rfl
    case m mid =>
      obtain ⟨es, clock, ho, hk3⟩ := oM_spec (show oM (gt O.none mid h) (fun _ clock => newO (.mi (.m mid) clock [] clock) h nx fun id h' nx' => K (.p id 0) h' nx') = true from hk2)
      have hx2 := hx
      simp only [VR] at hx2
      obtain ⟨L, hL, rfl⟩ := hx2
      obtain ⟨o, h2, h3⟩ := s.rel mid L (by rw [ho]; trivial) hL
      rw [ho] at h3
      obtain ⟨es', rfl, _⟩ := h3
      have hget : (getObj L.blk).run P w = .ok (.map es' clock) w := by simp only [getObj, Sem.run, h2]
      obtain ⟨h', g1, g2, g3⟩ := newO_sound (ob := .mapIter (some L.blk) clock #[] clock) hk3 s fun ρ' hle => ⟨some L.blk, rfl, by simp only [VR]; exact ⟨L, hle _ _ hL, rfl⟩, rfl⟩
      refine ⟨_, _, h', _, .pointer (some ⟨w.heap.size, 0, none⟩), _, g1, by simp only [VR]; exact ⟨_, upd_same _ _ _, rfl⟩, g2, g3, ?_⟩
      simp only [Instr.range, Sem.run_bind, run_und hu, Result.andThen_ok, hget, Sem.run_pure, run_newObj]
      rfl
theorem opNextS_sound {it : V} {ty : TypeId} {vi : Value} {K : V → T O → Bool} (hk : opNextS it h K = true) (s : St ρ h nx w) (hi : VR ρ it vi) :
    ∃ y h' v w', K y h' = true ∧ VR ρ y v ∧ St ρ h' nx w' ∧ Ext ρ h w ρ h' w' ∧ (Instr.next vi true ty).run P w = .ok v w' := by
  obtain ⟨id, off, rfl, hk3⟩ := vP_spec hk
  clear hk
  obtain ⟨e, hk4⟩ := ite1_spec hk3
  clear hk3
  have e := beq_spec e
  subst e
  obtain ⟨l, pos, ho, hk5⟩ := oS_spec hk4
  rw [slenK_eq, Nat.zero_add] at hk5
  simp only [VR] at hi
  obtain ⟨L, hL, rfl⟩ := hi
  obtain ⟨o, h2, h3⟩ := s.rel id L (by rw [ho]; trivial) hL
  rw [ho] at h3
  obtain ⟨rfl, hl, hb⟩ := h3
  have hget : (getObj L.blk).run P w = .ok (.stringIter (bs l) pos) w := by simp only [getObj, Sem.run, h2]
  cases e2 : Nat.blt pos l.length with
  | false =>
    rw [e2] at hk5
    have hlt : ¬ pos < l.length := fun h => by rw [Nat.blt_eq.mpr h] at e2; cases e2
    refine ⟨_, h, .tuple #[.bool false], w, hk5, ?_, s, Ext.refl _ _ _, ?_⟩
    · simp only [VR, VRs]; exact ⟨[.bool false], ⟨_, _, rfl, rfl, rfl⟩, rfl⟩
    · simp only [Instr.next, hb, Nat.add_zero, Sem.run_bind, hget, Result.andThen_ok, bs_size, hlt, if_false, Sem.run_pure]
  | true =>
    rw [e2] at hk5
    have hlt := Nat.blt_eq.mp e2
    obtain ⟨c, hc, hk6⟩ := snthK_spec (show snthK l pos (fun c => ite1 (Nat.blt c 128) <| stK O.none (O.si l (Nat.succ pos)) id h fun h' => K (.t (.cons (.b true) (.cons (.i .i64 (Int.ofNat pos)) (.cons (.i .i32 (Int.ofNat c)) .nil)))) h') = true from hk5)
    obtain ⟨e3, hk7⟩ := ite1_spec hk6
    have e3 := Nat.blt_eq.mp e3
    rw [stK_eq] at hk7
    obtain ⟨r1, r2⟩ := s.write (id := id) (L := L) (by rw [ho]; trivial) hL (o := .si l (Nat.succ pos)) (ob := .stringIter (bs l) (pos + 1)) ⟨rfl, hl, hb⟩
      (w' := { w with heap := w.heap.setIfInBounds L.blk (.stringIter (bs l) (pos + 1)) }) rfl rfl rfl rfl
    refine ⟨_, _, .tuple #[.bool true, .int .i64 (pos : Int), .int .i32 (c : Int)], _, hk7, ?_, r1, r2, ?_⟩
    · simp only [VR, VRs]
      exact ⟨[_, _, _], ⟨_, _, rfl, rfl, _, _, rfl, rfl, _, _, rfl, rfl, rfl⟩, rfl⟩
    · have hset : (setObj L.blk (.stringIter (bs l) (pos + 1))).run P w = .ok () { w with heap := w.heap.setIfInBounds L.blk (.stringIter (bs l) (pos + 1)) } := by simp only [setObj, Sem.run, h2]
      simp only [Instr.next, hb, Nat.add_zero, Sem.run_bind, hget, Result.andThen_ok, bs_size, hlt, if_true, decode_ascii hc e3, hset, Sem.run_pure]
      rfl
theorem run_getObj_of {b : Nat} {o : Obj} (h : w.heap[b]? = some o) (hn : ∀ a c f, o ≠ .cells a c f) : (getObj b).run P w = .ok o w := by
  cases o with
  | cells a c f => exact (hn _ _ _ rfl).elim
  | _ => simp only [getObj, Sem.run, h]
theorem run_mapNext1 : (choose (.mapNext 1)).run P w = .ok 0 w := by simp [choose, Sem.run, Question.forced]
theorem memN_eq (b : Nat) : ∀ seen : List Nat, memN b seen = seen.contains b
  | [] => rfl
  | x :: r => by
    show Bool.rec (motive := fun _ => Bool) (memN b r) true (Nat.beq x b) = _
    rw [memN_eq b r, List.contains_cons]
    by_cases e : x = b
    · subst e; rw [Nat.beq_refl]; simp
    · have h1 : Nat.beq x b = false := by cases h : Nat.beq x b with
        | false => rfl
        | true => exact (e (beq_spec h)).elim
      have h2 : (b == x) = false := by simpa using fun h => e h.symm
      rw [h1, h2]; rfl
theorem snocN_eq (b : Nat) : ∀ seen : List Nat, snocN b seen = seen ++ [b]
  | [] => rfl
  | x :: r => by show x :: snocN b r = _; rw [snocN_eq b r]; rfl
theorem bornsOK_spec {since : Nat} : ∀ {es : E} {l : List MapEntry}, bornsOK since es = true → ER ρ es l → ∀ x ∈ l, x.born < since := by
  intro es
  induction es with
  | nil => intro l _ he; simp only [ER] at he; subst he; intro x hx; cases hx
  | cons k v born r ih =>
    intro l hk he
    obtain ⟨e1, hk⟩ := ite1_spec (show ite1 (Nat.blt born since) (bornsOK since r) = true from hk)
    simp only [ER] at he
    obtain ⟨y, ys, rfl, _, _, hb, hr⟩ := he
    intro x hx
    rcases List.mem_cons.1 hx with rfl | hx
    · rw [hb]; exact Nat.blt_eq.mp e1
    · exact ih hk hr x hx
theorem noCand_spec {seen : List Nat} : ∀ {es : E} {l : List MapEntry}, ER ρ es l → (noCand seen es = true → ∀ x ∈ l, seen.contains x.born = true) ∧ (noCand seen es = false → ∃ x ∈ l, seen.contains x.born = false) := by
  intro es
  induction es with
  | nil => intro l he; simp only [ER] at he; subst he; exact ⟨fun _ x hx => (by cases hx), fun h => (by cases h)⟩
  | cons k v born r ih =>
    intro l he
    simp only [ER] at he
    obtain ⟨y, ys, rfl, _, _, hb, hr⟩ := he
    have e : noCand seen (.cons k v born r) = ite1 (memN born seen) (noCand seen r) := rfl
    rw [e, memN_eq]
    cases hc : seen.contains born with
    | true =>
      refine ⟨fun h x hx => ?_, fun h => ?_⟩
      · rcases List.mem_cons.1 hx with rfl | hx
        · rw [hb]; exact hc
        · exact (ih hr).1 h x hx
      · obtain ⟨x, hx, hx2⟩ := (ih hr).2 h
        exact ⟨x, List.mem_cons_of_mem _ hx, hx2⟩
    | false => exact ⟨fun h => (by cases h), fun _ => ⟨y, List.mem_cons_self .., by rw [hb]; exact hc⟩⟩
theorem allCand_spec {seen : List Nat} {kc : V → V → Nat → Bool} : ∀ {es : E} {l : List MapEntry}, allCand seen kc es = true → ER ρ es l → ∀ x ∈ l, seen.contains x.born = false → ∃ k v, VR ρ k x.key ∧ VR ρ v x.val ∧ kc k v x.born = true := by
  intro es
  induction es with
  | nil => intro l _ he; simp only [ER] at he; subst he; intro x hx; cases hx
  | cons k v born r ih =>
    intro l hk he x hx hs
    simp only [ER] at he
    obtain ⟨y, ys, rfl, hkr, hvr, hb, hr⟩ := he
    have e : allCand seen kc (.cons k v born r) = Bool.rec (ite1 (kc k v born) (allCand seen kc r)) (allCand seen kc r) (memN born seen) := rfl
    rw [e, memN_eq] at hk
    rcases List.mem_cons.1 hx with rfl | hx
    · rw [hb] at hs
      rw [hs] at hk
      obtain ⟨e1, _⟩ := ite1_spec (show ite1 (kc k v born) (allCand seen kc r) = true from hk)
      exact ⟨k, v, hkr, hvr, by rw [hb]; exact e1⟩
    · cases hc : seen.contains born with
      | true => rw [hc] at hk; exact ih hk hr x hx hs
      | false =>
        rw [hc] at hk
        obtain ⟨_, hk⟩ := ite1_spec (show ite1 (kc k v born) (allCand seen kc r) = true from hk)
        exact ih hk hr x hx hs
theorem run_mapNext {n : Nat} (hn : 0 < n) : ∃ i w1, i < n ∧ (choose (.mapNext n)).run P w = .ok i w1 ∧ w1.heap = w.heap ∧ w1.os = w.os ∧ w1.tape = w.tape ∧ w1.output = w.output := by
  by_cases h : n ≤ 1
  · exact ⟨0, w, hn, by simp [choose, Sem.run, Question.forced, h], rfl, rfl, rfl, rfl⟩
  · exact ⟨(Question.mapNext n).cut (w.tape w.drawn (.mapNext n)), w.drew, Nat.mod_lt _ hn, by simp [run_choose, Question.forced, h], rfl, rfl, rfl, rfl⟩
theorem opNextM_sound {it : V} {ty : TypeId} {vi : Value} {K : V → T O → Bool} (hk : opNextM it h K = true) (s : St ρ h nx w) (hi : VR ρ it vi) :
    ∃ y h' v w', K y h' = true ∧ VR ρ y v ∧ St ρ h' nx w' ∧ Ext ρ h w ρ h' w' ∧ (Instr.next vi false ty).run P w = .ok v w' := by
  obtain ⟨id, off, rfl, hk2⟩ := vP_spec hk
  obtain ⟨e, hk3⟩ := ite1_spec hk2
  have e := beq_spec e
  subst e
  obtain ⟨m, since, seen, last, ho, hk4⟩ := oI_spec hk3
  clear hk hk2 hk3
  simp only [VR] at hi
  obtain ⟨L, hL, rfl⟩ := hi
  obtain ⟨o, h2, h3⟩ := s.rel id L (by rw [ho]; trivial) hL
  rw [ho] at h3
  obtain ⟨mm, rfl, hm, hb⟩ := h3
  have hget := run_getObj_of (P := P) h2 (by simp)
  have hover : VR ρ overV (.tuple #[.bool false]) := by simp only [overV, VR, VRs]; exact ⟨[.bool false], ⟨_, _, rfl, rfl, rfl⟩, rfl⟩
  cases m <;> first | exact Bool.noConfusion hk4 | skip
  case mn =>
    have hk5 : K overV h = true := hk4
    simp only [VR, Value.map.injEq] at hm
    subst hm
    refine ⟨_, h, .tuple #[.bool false], w, hk5, hover, s, Ext.refl _ _ _, ?_⟩
    simp only [Instr.next, hb, Nat.add_zero, Sem.run_bind, hget, Result.andThen_ok, Sem.run_pure]
  case m mid =>
    obtain ⟨es, clock, ho2, hk5⟩ := oM_spec (show oM (gt O.none mid h) (fun es clock => nextM id (.m mid) since seen last clock es h K) = true from hk4)
    have hm2 := hm
    simp only [VR] at hm2
    obtain ⟨M, hM, hmm⟩ := hm2
    cases hmm
    obtain ⟨o2, h4, h5⟩ := s.rel mid M (by rw [ho2]; trivial) hM
    rw [ho2] at h5
    obtain ⟨es', rfl, her⟩ := h5
    have hget2 := run_getObj_of (P := P) h4 (by simp)
    obtain ⟨e1, hk6⟩ := ite1_spec (show ite1 (bornsOK since es) (ite1 (ior (noneSeen seen) (bornsOK last es)) <| Bool.rec (allCand seen (fun k v born => stK O.none (O.mi (.m mid) since (snocN born seen) clock) id h fun h' => K (.t (.cons (.b true) (.cons k (.cons v .nil)))) h') es) (K overV h) (noCand seen es)) = true from hk5)
    obtain ⟨e2, hk7⟩ := ite1_spec hk6
    have hsince := bornsOK_spec e1 her
    have hgone : (!(⟨seen⟩ : Array Nat).isEmpty && !es'.isEmpty && es'.all (fun (e : MapEntry) => decide (e.born ≥ last))) = false := by
      rw [ior_eq, Bool.or_eq_true] at e2
      rcases e2 with e2 | e2
      · cases seen with
        | nil => simp
        | cons a r => exact Bool.noConfusion e2
      · have hl := bornsOK_spec e2 her
        cases hl2 : es'.toList with
        | nil =>
          have : es' = #[] := by apply Array.ext'; simpa using hl2
          subst this
          simp
        | cons x r =>
          have hx := hl x (by rw [hl2]; simp)
          have : es'.all (fun (e : MapEntry) => decide (e.born ≥ last)) = false := by
            rw [← Array.all_toList, hl2, List.all_cons]
            have : decide (x.born ≥ last) = false := by simpa using hx
            rw [this]; rfl
          rw [this]; simp
    obtain ⟨left, hdef⟩ : ∃ left : Array MapEntry, left = es'.filter fun e => !(⟨seen⟩ : Array Nat).contains e.born := ⟨_, rfl⟩
    have hleft : left.toList = es'.toList.filter fun e => !seen.contains e.born := by
      rw [hdef]
      simp
    have hold : left.filter (fun (e : MapEntry) => decide (e.born < since)) = left := by
      apply Array.ext'
      rw [Array.toList_filter, List.filter_eq_self]
      intro x hx
      rw [hleft] at hx
      simpa using hsince x (List.mem_filter.1 hx).1
    have hnew : left.filter (fun (e : MapEntry) => decide (e.born ≥ since)) = #[] := by
      apply Array.ext'
      rw [Array.toList_filter, List.filter_eq_nil_iff.2]
      intro x hx
      rw [hleft] at hx
      have := hsince x (List.mem_filter.1 hx).1
      simp; omega
    cases hno : noCand seen es with
    | true =>
      rw [hno] at hk7
      have hle : left = #[] := by
        apply Array.ext'
        rw [hleft, List.filter_eq_nil_iff.2]
        intro x hx
        simpa using (noCand_spec her).1 hno x hx
      refine ⟨_, h, .tuple #[.bool false], w, hk7, hover, s, Ext.refl _ _ _, ?_⟩
      simp only [Instr.next, hb, Nat.add_zero, Sem.run_bind, hget, Result.andThen_ok, hget2, hgone, Bool.false_eq_true, if_false]
      rw [← hdef, hold, hnew, hle]
      simp [choose, Sem.run, Question.forced]
    | false =>
      rw [hno] at hk7
      obtain ⟨x0, hx0, hx0s⟩ := (noCand_spec her).2 hno
      have hpos : 0 < left.size := by
        have : x0 ∈ left.toList := by rw [hleft]; exact List.mem_filter.2 ⟨hx0, by simpa using hx0s⟩
        have := List.length_pos_of_mem this
        simpa using this
      obtain ⟨i, w1, hi2, hrun, hw, h1, h2', h3'⟩ := run_mapNext (P := P) (w := w) hpos
      have hxi : left[i]? = some left[i] := Array.getElem?_eq_getElem hi2
      have hxm : left[i] ∈ es'.toList.filter fun e => !seen.contains e.born := by rw [← hleft]; exact Array.mem_toList_iff.2 (Array.mem_of_getElem? hxi)
      obtain ⟨hxm1, hxm2⟩ := List.mem_filter.1 hxm
      obtain ⟨k, v, hkr, hvr, hk8⟩ := allCand_spec hk7 her left[i] hxm1 (by simpa using hxm2)
      rw [stK_eq, snocN_eq] at hk8
      have s1 : St ρ h nx w1 := s.heap hw
      have hh2 : w1.heap[L.blk]? = some (.mapIter (some M.blk) since ⟨seen⟩ last) := by rw [hw]; exact h2
      obtain ⟨r1, r2⟩ := s1.write (id := id) (L := L) (by rw [ho]; trivial) hL (o := .mi (.m mid) since (seen ++ [left[i].born]) clock) (ob := .mapIter (some M.blk) since ⟨seen ++ [left[i].born]⟩ clock) ⟨some M.blk, rfl, hm, hb⟩
        (w' := { w1 with heap := w1.heap.setIfInBounds L.blk (.mapIter (some M.blk) since ⟨seen ++ [left[i].born]⟩ clock) }) rfl rfl rfl rfl
      refine ⟨_, _, .tuple #[.bool true, left[i].key, left[i].val], _, hk8, ?_, r1, (Ext.same hw h1 h2' h3').trans r2, ?_⟩
      · simp only [VR, VRs]
        exact ⟨[_, _, _], ⟨_, _, rfl, rfl, _, _, rfl, hkr, _, _, rfl, hvr, rfl⟩, rfl⟩
      · have hpush : (⟨seen⟩ : Array Nat).push left[i].born = ⟨seen ++ [left[i].born]⟩ := by simp
        have hset : (setObj L.blk (.mapIter (some M.blk) since ⟨seen ++ [left[i].born]⟩ clock)).run P w1 = .ok () { w1 with heap := w1.heap.setIfInBounds L.blk (.mapIter (some M.blk) since ⟨seen ++ [left[i].born]⟩ clock) } := by simp only [setObj, Sem.run, hh2]
        have hne : left.isEmpty = false := by
          cases hq : left.isEmpty with
          | false => rfl
          | true => rw [Array.isEmpty_iff] at hq; rw [hq] at hpos; simp at hpos
        simp only [Instr.next, hb, Nat.add_zero, Sem.run_bind, hget, Result.andThen_ok, hget2, hgone, Bool.false_eq_true, if_false]
        rw [← hdef, hold, hnew, hne]
        simp only [Bool.false_eq_true, if_false, Array.append_empty, Array.empty_append, Array.size_map, Sem.run_bind, hrun, Result.andThen_ok, Array.getElem?_map, hxi, Option.map_some, hpush, hset, Sem.run_pure]
theorem opNext_sound {it : V} {str : Bool} {ty : TypeId} {vi : Value} {K : V → T O → Bool} (hk : opNext it str h K = true) (s : St ρ h nx w) (hi : VR ρ it vi) :
    ∃ y h' v w', K y h' = true ∧ VR ρ y v ∧ St ρ h' nx w' ∧ Ext ρ h w ρ h' w' ∧ (Instr.next vi str ty).run P w = .ok v w' := by
  cases str with
  | true => exact opNextS_sound hk s hi
  | false => exact opNextM_sound hk s hi
theorem opAssert_sound {x : V} {xT t : TypeId} {ok : Bool} {vx : Value} {K : V → Bool} (hk : opAssert P x t ok K = true) (hx : VR ρ x vx) :
    ∃ y r, K y = true ∧ VR ρ y r ∧ (Instr.typeAssert vx xT t ok).run P w = .ok r w := by
  obtain ⟨e, hk2⟩ := ite1_spec hk
  clear hk
  have hd : ∃ d, P.underlying t = some d ∧ ∀ m, d ≠ .interface m := by
    unfold conc at e
    cases e2 : Nat.beq (tyk P t) 23 with
    | true => rw [e2] at e; exact Bool.noConfusion e
    | false =>
      rw [e2] at e
      have e := Nat.blt_eq.mp (show Nat.blt 0 (tyk P t) = true from e)
      obtain ⟨d, hu⟩ := (tyk_cases (P := P) t).2.2.2.2.2.2.2.1 (Nat.pos_iff_ne_zero.1 e)
      refine ⟨d, hu, fun m hm => ?_⟩
      subst hm
      simp [tyk, hu] at e2
  obtain ⟨d, hu, hni⟩ := hd
  cases x <;> first | exact Bool.noConfusion hk2 | skip
  case e t' y =>
    have hk3 : (Bool.rec (Bool.rec false (Option.rec (motive := fun _ => Bool) false (fun z => K (v2 z (.b false))) (zeroV P t)) ok) (K (okay ok y true)) (Nat.beq t' t) : Bool) = true := hk2
    simp only [VR] at hx
    obtain ⟨z, hz, rfl⟩ := hx
    cases e3 : Nat.beq t' t with
    | true =>
      rw [e3] at hk3
      have e3 := beq_spec e3
      subst e3
      refine ⟨_, _, hk3, VR_okay hz, ?_⟩
      unfold Instr.typeAssert
      simp only [Sem.run_bind, run_und hu, Result.andThen_ok]
      cases d <;> first | exact (hni _ rfl).elim | (cases ok <;> simp)
    | false =>
      rw [e3] at hk3
      have hne : ¬ t' = t := fun e => by rw [e, Nat.beq_refl] at e3; cases e3
      cases ok with
      | false => exact Bool.noConfusion hk3
      | true =>
        cases hzv : zeroV P t with
        | none => rw [hzv] at hk3; exact Bool.noConfusion hk3
        | some zz =>
          rw [hzv] at hk3
          obtain ⟨zr, hz1, hz2⟩ := zeroV_spec hzv
          refine ⟨_, _, hk3, VR_v2 (hz2 ρ) (VRb _ _), ?_⟩
          unfold Instr.typeAssert
          simp only [Sem.run_bind, run_und hu, Result.andThen_ok]
          cases d <;> first | exact (hni _ rfl).elim | simp [hne, hz1]
  case en =>
    have hk3 : (Bool.rec false (Option.rec (motive := fun _ => Bool) false (fun z => K (v2 z (.b false))) (zeroV P t)) ok : Bool) = true := hk2
    simp only [VR] at hx
    subst hx
    cases ok with
    | false => exact Bool.noConfusion hk3
    | true =>
      cases hzv : zeroV P t with
      | none => rw [hzv] at hk3; exact Bool.noConfusion hk3
      | some zz =>
        rw [hzv] at hk3
        obtain ⟨zr, hz1, hz2⟩ := zeroV_spec hzv
        refine ⟨_, _, hk3, VR_v2 (hz2 ρ) (VRb _ _), ?_⟩
        unfold Instr.typeAssert
        simp only [Sem.run_bind, run_und hu, Result.andThen_ok]
        cases d <;> first | exact (hni _ rfl).elim | simp [hz1]
end
end Go.Mx
