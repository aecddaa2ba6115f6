/-
  A part of a small executor of the model, proved sound (9 of 28). No condition.
-/
import Derived.Test.YthocoonhoilmdaaGreatDoorXMx16
import Derived.Laws.MakeOwn
namespace Go.Mx
open Instr Builtin
noncomputable section
variable {P : Program} {ρ : Ren} {h : T O} {nx : Nat} {w : World}
theorem newO_sound {o : O} {ob : Obj} {K : Nat → T O → Nat → Bool} (hk : newO o h nx K = true) (s : St ρ h nx w) (ho : ∀ ρ', Ren.le ρ ρ' → OR ρ' ⟨w.heap.size, 0, 0⟩ o ob) :
    ∃ h', K nx h' (nx + 1) = true ∧ St (upd ρ nx ⟨w.heap.size, 0, 0⟩) h' (nx + 1) (w.alloc ob) ∧ Ext ρ h w (upd ρ nx ⟨w.heap.size, 0, 0⟩) h' (w.alloc ob) := by
  unfold newO at hk
  rw [stK_eq] at hk
  exact ⟨_, hk, s.alloc (ho _ (upd_le (s.fresh nx (Nat.le_refl _))))⟩
theorem opMakeMap_sound {t : TypeId} {r : Option V} {vr : Option Value} {K : KV} (hk : opMakeMap P t r h nx K = true) (s : St ρ h nx w) (hr : OpR ρ r vr) :
    ∃ ρ' y h' nx' v w', K y h' nx' = true ∧ VR ρ' y v ∧ St ρ' h' nx' w' ∧ Ext ρ h w ρ' h' w' ∧ (Instr.makeMap t vr).run P w = .ok v w' := by
  have fin : newO (.mp .nil 0) h nx (fun id h' nx' => K (.m id) h' nx') = true → ∃ h', K (.m nx) h' (nx + 1) = true ∧ St (upd ρ nx ⟨w.heap.size, 0, 0⟩) h' (nx + 1) (w.alloc (.map #[] 0)) ∧ Ext ρ h w (upd ρ nx ⟨w.heap.size, 0, 0⟩) h' (w.alloc (.map #[] 0)) :=
    fun hk => newO_sound (K := fun id h' nx' => K (.m id) h' nx') hk s fun ρ' _ => ⟨#[], rfl, by simp [ER]⟩
  have hv : VR (upd ρ nx ⟨w.heap.size, 0, 0⟩) (.m nx) (.map (some w.heap.size)) := by simp only [VR]; exact ⟨_, upd_same _ _ _, rfl⟩
  cases r with
  | none =>
    cases vr with
    | some v => exact hr.elim
    | none =>
      obtain ⟨h', g1, g2, g3⟩ := fin hk
      refine ⟨_, _, h', _, _, _, g1, hv, g2, g3, ?_⟩
      simp [Instr.makeMap]
  | some x =>
    cases vr with
    | none => exact hr.elim
    | some v =>
      obtain ⟨e, hk2⟩ := ite1_spec (show ite1 (Nat.beq (tyk P t) 22) (vI x fun _ _ => newO (.mp .nil 0) h nx fun id h' nx' => K (.m id) h' nx') = true from hk)
      obtain ⟨k, n, rfl, hk3⟩ := vI_spec hk2
      obtain ⟨h', g1, g2, g3⟩ := fin hk3
      simp only [OpR, VR] at hr
      subst hr
      obtain ⟨kt, et, hu⟩ := (tyk_cases (P := P) t).2.2.1 (beq_spec e)
      refine ⟨_, _, h', _, _, _, g1, hv, g2, g3, ?_⟩
      simp [Instr.makeMap, run_und hu, asInt, asIntOf]
theorem cntE_spec {k : Nat → Bool} {ρ : Ren} : ∀ {es : E} {l : List MapEntry} {n : Nat}, cntE es n k = true → ER ρ es l → k (n + l.length) = true := by
  intro es
  induction es with
  | nil => intro l n hk hr; simp only [ER] at hr; subst hr; exact hk
  | cons a b c r ih =>
    intro l n hk hr
    simp only [ER] at hr
    obtain ⟨x, xs, rfl, _, _, _, h4⟩ := hr
    have := ih (n := n + 1) hk h4
    rw [List.length_cons, show n + (xs.length + 1) = n + 1 + xs.length by omega]
    exact this
theorem opLen_sound {t ty : TypeId} {ts : Array TypeId} {x : V} {vx : Value} {args : Array Value} {K : V → Bool} (hk : opLen P t x h K = true) (s : St ρ h nx w) (hx : VR ρ x vx) (ht : ts[0]? = some t) (ha : args[0]? = some vx) :
    ∃ y r, K y = true ∧ VR ρ y r ∧ (len_ ts ty args).run P w = .ok r w := by
  cases x <;> first | exact Bool.noConfusion hk | skip
  case s l =>
    obtain ⟨e, hk2⟩ := ite1_spec (show ite1 (Nat.beq (tyk P t) 1) (slenK l 0 fun n => K (.i .i64 (Int.ofNat n))) = true from hk)
    rw [slenK_eq, Nat.zero_add] at hk2
    have hu := (tyk_cases (P := P) t).1 (beq_spec e)
    simp only [VR] at hx
    obtain ⟨rfl, _⟩ := hx
    refine ⟨_, _, hk2, VRi _ _ _, ?_⟩
    unfold len_
    simp only [ht, ha, Sem.run_bind, run_und hu, Result.andThen_ok, bs_size]
    rfl
  case w l =>
    obtain ⟨e, hk2⟩ := ite1_spec (show ite1 (Nat.beq (tyk P t) 1) (lenK l 0 fun n => K (.i .i64 (Int.ofNat n))) = true from hk)
    have hu := (tyk_cases (P := P) t).1 (beq_spec e)
    simp only [VR] at hx
    obtain ⟨x, rfl, hx⟩ := hx
    obtain ⟨n, hk3, hn, _⟩ := lenK_spec hk2 (VRs_isC hx)
    rw [Nat.zero_add] at hk3
    have hn := hn ρ _ hx
    rw [bytesV_length] at hn
    subst hn
    refine ⟨_, _, hk3, VRi _ _ _, ?_⟩
    unfold len_
    simp only [ht, ha, Sem.run_bind, run_und hu, Result.andThen_ok]
    rfl
  case y l a lo hi =>
    obtain ⟨e, hk2⟩ := ite1_spec (show ite1 (Nat.beq (tyk P t) 1) (K (.x a .i64 lo hi)) = true from hk)
    have hu := (tyk_cases (P := P) t).1 (beq_spec e)
    simp only [VR] at hx
    obtain ⟨x, L, n, rfl, q1, q2, q3, q4, _⟩ := hx
    refine ⟨_, .int .i64 (x.size : Int), hk2, by simp only [VR]; exact ⟨L, q1, by omega, by omega, by rw [q2]⟩, ?_⟩
    unfold len_
    simp only [ht, ha, Sem.run_bind, run_und hu, Result.andThen_ok]
    rfl
  case o t' l a x' y' =>
    have hk1 : (Bool.rec (ite1 (Nat.beq t' 0) <| ite1 (Nat.beq (tyk P t) 1) <| lenR l fun m => mkI 3 m K) (ite1 (Nat.blt 0 (slE P t)) <| mkI 3 l K) (Nat.beq t' 3) : Bool) = true := hk
    cases e3 : Nat.beq t' 3 with
    | true =>
      rw [e3] at hk1
      obtain ⟨e, hk2⟩ := ite1_spec hk1
      obtain ⟨i, hu, _⟩ := slE_pos e
      obtain ⟨L, n, cap, hL, hn, hc1, hc2, rfl⟩ := slice_of (beq_spec e3) hx
      obtain ⟨y, hk3, hy⟩ := mkI_spec hk2
      refine ⟨y, .int .i64 (n : Int), hk3, hy ρ _ hn, ?_⟩
      unfold len_
      simp only [ht, ha, Sem.run_bind, run_und hu, Result.andThen_ok]
      rfl
    | false =>
      rw [e3] at hk1
      obtain ⟨e0, hk2⟩ := ite1_spec hk1
      obtain ⟨e, hk3⟩ := ite1_spec hk2
      have hu := (tyk_cases (P := P) t).1 (beq_spec e)
      obtain ⟨b, rfl, hb⟩ := rope_of (beq_spec e0) hx
      obtain ⟨m, hk4, _, hm⟩ := lenR_spec hk3
      obtain ⟨y, hk5, hy⟩ := mkI_spec hk4
      refine ⟨y, .int .i64 (b.size : Int), hk5, hy ρ _ (hm ρ _ hb), ?_⟩
      unfold len_
      simp only [ht, ha, Sem.run_bind, run_und hu, Result.andThen_ok]
      rfl
  case m id =>
    obtain ⟨e, hk2⟩ := ite1_spec (show ite1 (Nat.beq (tyk P t) 22) (oM (gt O.none id h) fun es _ => cntE es 0 fun n => K (.i .i64 (Int.ofNat n))) = true from hk)
    obtain ⟨es, clock, ho, hk3⟩ := oM_spec hk2
    obtain ⟨L, es', hL, rfl, hh, her⟩ := s.map ho hx
    have hk4 := cntE_spec hk3 her
    rw [Nat.zero_add] at hk4
    obtain ⟨kt, et, hu⟩ := (tyk_cases (P := P) t).2.2.1 (beq_spec e)
    refine ⟨_, _, hk4, VRi _ _ _, ?_⟩
    unfold len_
    simp only [ht, ha, Sem.run_bind, run_und hu, Result.andThen_ok, run_getMap hh, Array.length_toList]
    rfl
  case mn =>
    obtain ⟨e, hk2⟩ := ite1_spec (show ite1 (Nat.beq (tyk P t) 22) (K (.i .i64 (Int.ofNat 0))) = true from hk)
    obtain ⟨kt, et, hu⟩ := (tyk_cases (P := P) t).2.2.1 (beq_spec e)
    simp only [VR] at hx
    subst hx
    refine ⟨_, _, hk2, VRi _ _ _, ?_⟩
    unfold len_
    simp only [ht, ha, Sem.run_bind, run_und hu, Result.andThen_ok]
    rfl
  case sl id off len sz =>
    obtain ⟨e, hk2⟩ := ite1_spec (show ite1 (Nat.blt 0 (slE P t)) (K (.i .i64 (Int.ofNat len))) = true from hk)
    obtain ⟨i, hu, _⟩ := slE_pos e
    simp only [VR] at hx
    obtain ⟨L, c, _, _, _, rfl⟩ := hx
    refine ⟨_, _, hk2, VRi _ _ _, ?_⟩
    unfold len_
    simp only [ht, ha, Sem.run_bind, run_und hu, Result.andThen_ok]
    rfl
  all_goals
    obtain ⟨e, hk2⟩ := ite1_spec (show ite1 (Nat.blt 0 (slE P t)) (K (.i .i64 (Int.ofNat 0))) = true from hk)
    obtain ⟨i, hu, _⟩ := slE_pos e
    simp only [VR] at hx
    first
      | subst hx
      | obtain ⟨A, c, rfl⟩ := hx
      | obtain ⟨A, rfl⟩ := hx
    refine ⟨_, _, hk2, VRi _ _ _, ?_⟩
    unfold len_
    simp only [ht, ha, Sem.run_bind, run_und hu, Result.andThen_ok]
    rfl
theorem opRange_sound {t : TypeId} {x : V} {vx : Value} {K : KV} (hk : opRange P t x h nx K = true) (s : St ρ h nx w) (hx : VR ρ x vx) :
    ∃ ρ' y h' nx' v w', K y h' nx' = true ∧ VR ρ' y v ∧ St ρ' h' nx' w' ∧ Ext ρ h w ρ' h' w' ∧ (Instr.range t vx).run P w = .ok v w' := by
  cases e : Nat.beq (tyk P t) 1 with
  | true =>
    have hk2 : (Bool.rec (motive := fun _ => Bool) _ (vS x fun l => newO (.si l 0) h nx fun id h' nx' => K (.p id 0) h' nx') (Nat.beq (tyk P t) 1) : Bool) = true := hk
    rw [e] at hk2
    obtain ⟨l, rfl, hk3⟩ := vS_spec (show vS x (fun l => newO (.si l 0) h nx fun id h' nx' => K (.p id 0) h' nx') = true from hk2)
    simp only [VR] at hx
    obtain ⟨rfl, hl⟩ := hx
    obtain ⟨h', g1, g2, g3⟩ := newO_sound (ob := .stringIter (bs l) 0) hk3 s fun ρ' _ => ⟨rfl, hl, rfl⟩
    refine ⟨_, _, h', _, .pointer (some ⟨w.heap.size, 0, none⟩), _, g1, by simp only [VR]; exact ⟨_, upd_same _ _ _, rfl⟩, g2, g3, ?_⟩
    have hu := (tyk_cases (P := P) t).1 (beq_spec e)
    simp only [Instr.range, Sem.run_bind, run_und hu, Result.andThen_ok, Sem.run_pure, run_newObj]
    rfl
  | false =>
    unfold opRange at hk
    rw [e] at hk
    obtain ⟨e2, hk2⟩ := ite1_spec hk
    obtain ⟨kt, et, hu⟩ := (tyk_cases (P := P) t).2.2.1 (beq_spec e2)
    cases x <;> first | exact Bool.noConfusion hk2 | skip
    case mn =>
      have hk3 : newO (.mi .mn 0 [] 0) h nx (fun id h' nx' => K (.p id 0) h' nx') = true := hk2
      simp only [VR] at hx
      subst hx
      obtain ⟨h', g1, g2, g3⟩ := newO_sound (ob := .mapIter none 0 #[] 0) hk3 s fun ρ' _ => ⟨none, rfl, by simp [VR], rfl⟩
      refine ⟨_, _, h', _, .pointer (some ⟨w.heap.size, 0, none⟩), _, g1, by simp only [VR]; exact ⟨_, upd_same _ _ _, rfl⟩, g2, g3, ?_⟩
      simp only [Instr.range, Sem.run_bind, run_und hu, Result.andThen_ok, Sem.run_pure, run_newObj]
      rfl
    case m mid =>
      obtain ⟨es, clock, ho, hk3⟩ := oM_spec (show oM (gt O.none mid h) (fun _ clock => newO (.mi (.m mid) clock [] clock) h nx fun id h' nx' => K (.p id 0) h' nx') = true from hk2)
      have hx2 := hx
      simp only [VR] at hx2
      obtain ⟨L, hL, rfl⟩ := hx2
      obtain ⟨o, h2, h3⟩ := s.rel mid L (by rw [ho]; trivial) hL
      rw [ho] at h3
      obtain ⟨es', rfl, _⟩ := h3
      have hget : (getObj L.blk).run P w = .ok (.map es' clock) w := by simp only [getObj, Sem.run, h2]
      obtain ⟨h', g1, g2, g3⟩ := newO_sound (ob := .mapIter (some L.blk) clock #[] clock) hk3 s fun ρ' hle => ⟨some L.blk, rfl, by simp only [VR]; exact ⟨L, hle _ _ hL, rfl⟩, rfl⟩
      refine ⟨_, _, h', _, .pointer (some ⟨w.heap.size, 0, none⟩), _, g1, by simp only [VR]; exact ⟨_, upd_same _ _ _, rfl⟩, g2, g3, ?_⟩
      simp only [Instr.range, Sem.run_bind, run_und hu, Result.andThen_ok, hget, Sem.run_pure, run_newObj]
      rfl
theorem opNextS_sound {it : V} {ty : TypeId} {vi : Value} {K : V → T O → Bool} (hk : opNextS it h K = true) (s : St ρ h nx w) (hi : VR ρ it vi) :
    ∃ y h' v w', K y h' = true ∧ VR ρ y v ∧ St ρ h' nx w' ∧ Ext ρ h w ρ h' w' ∧ (Instr.next vi true ty).run P w = .ok v w' := by
  obtain ⟨id, off, rfl, hk3⟩ := vP_spec hk
  clear hk
  obtain ⟨e, hk4⟩ := ite1_spec hk3
  clear hk3
  have e := beq_spec e
  subst e
  obtain ⟨l, pos, ho, hk5⟩ := oS_spec hk4
  rw [slenK_eq, Nat.zero_add] at hk5
  simp only [VR] at hi
  obtain ⟨L, hL, rfl⟩ := hi
  obtain ⟨o, h2, h3⟩ := s.rel id L (by rw [ho]; trivial) hL
  rw [ho] at h3
  obtain ⟨rfl, hl, hb⟩ := h3
  have hget : (getObj L.blk).run P w = .ok (.stringIter (bs l) pos) w := by simp only [getObj, Sem.run, h2]
  cases e2 : Nat.blt pos l.length with
  | false =>
    rw [e2] at hk5
    have hlt : ¬ pos < l.length := fun h => by rw [Nat.blt_eq.mpr h] at e2; cases e2
    refine ⟨_, h, .tuple #[.bool false], w, hk5, ?_, s, Ext.refl _ _ _, ?_⟩
    · simp only [VR, VRs]; exact ⟨[.bool false], ⟨_, _, rfl, rfl, rfl⟩, rfl⟩
    · simp only [Instr.next, hb, Nat.add_zero, Sem.run_bind, hget, Result.andThen_ok, bs_size, hlt, if_false, Sem.run_pure]
  | true =>
    rw [e2] at hk5
    have hlt := Nat.blt_eq.mp e2
    obtain ⟨c, hc, hk6⟩ := snthK_spec (show snthK l pos (fun c => ite1 (Nat.blt c 128) <| stK O.none (O.si l (Nat.succ pos)) id h fun h' => K (.t (.cons (.b true) (.cons (.i .i64 (Int.ofNat pos)) (.cons (.i .i32 (Int.ofNat c)) .nil)))) h') = true from hk5)
    obtain ⟨e3, hk7⟩ := ite1_spec hk6
    have e3 := Nat.blt_eq.mp e3
    rw [stK_eq] at hk7
    obtain ⟨r1, r2⟩ := s.write (id := id) (L := L) (by rw [ho]; trivial) hL (o := .si l (Nat.succ pos)) (ob := .stringIter (bs l) (pos + 1)) ⟨rfl, hl, hb⟩
      (w' := { w with heap := w.heap.setIfInBounds L.blk (.stringIter (bs l) (pos + 1)) }) rfl rfl rfl rfl
    refine ⟨_, _, .tuple #[.bool true, .int .i64 (pos : Int), .int .i32 (c : Int)], _, hk7, ?_, r1, r2, ?_⟩
    · simp only [VR, VRs]
      exact ⟨[_, _, _], ⟨_, _, rfl, rfl, _, _, rfl, rfl, _, _, rfl, rfl, rfl⟩, rfl⟩
    · have hset : (setObj L.blk (.stringIter (bs l) (pos + 1))).run P w = .ok () { w with heap := w.heap.setIfInBounds L.blk (.stringIter (bs l) (pos + 1)) } := by simp only [setObj, Sem.run, h2]
      simp only [Instr.next, hb, Nat.add_zero, Sem.run_bind, hget, Result.andThen_ok, bs_size, hlt, if_true, decode_ascii hc e3, hset, Sem.run_pure]
      rfl
theorem run_getObj_of {b : Nat} {o : Obj} (h : w.heap[b]? = some o) (hn : ∀ a c f, o ≠ .cells a c f) : (getObj b).run P w = .ok o w := by
  cases o with
  | cells a c f => exact (hn _ _ _ rfl).elim
  | _ => simp only [getObj, Sem.run, h]
theorem memN_eq (b : Nat) : ∀ seen : List Nat, memN b seen = seen.contains b
  | [] => rfl
  | x :: r => by
    show Bool.rec (motive := fun _ => Bool) (memN b r) true (Nat.beq x b) = _
    rw [memN_eq b r, List.contains_cons]
    by_cases e : x = b
    · subst e; rw [Nat.beq_refl]; simp
    · have h1 : Nat.beq x b = false := by cases h : Nat.beq x b with
        | false => rfl
        | true => exact (e (beq_spec h)).elim
      have h2 : (b == x) = false := by simpa using fun h => e h.symm
      rw [h1, h2]; rfl
theorem snocN_eq (b : Nat) : ∀ seen : List Nat, snocN b seen = seen ++ [b]
  | [] => rfl
  | x :: r => by show x :: snocN b r = _; rw [snocN_eq b r]; rfl
theorem bornsOK_spec {since : Nat} : ∀ {es : E} {l : List MapEntry}, bornsOK since es = true → ER ρ es l → ∀ x ∈ l, x.born < since := by
  intro es
  induction es with
  | nil => intro l _ he; simp only [ER] at he; subst he; intro x hx; cases hx
  | cons k v born r ih =>
    intro l hk he
    obtain ⟨e1, hk⟩ := ite1_spec (show ite1 (Nat.blt born since) (bornsOK since r) = true from hk)
    simp only [ER] at he
    obtain ⟨y, ys, rfl, _, _, hb, hr⟩ := he
    intro x hx
    rcases List.mem_cons.1 hx with rfl | hx
    · rw [hb]; exact Nat.blt_eq.mp e1
    · exact ih hk hr x hx
theorem noCand_spec {seen : List Nat} : ∀ {es : E} {l : List MapEntry}, ER ρ es l → (noCand seen es = true → ∀ x ∈ l, seen.contains x.born = true) ∧ (noCand seen es = false → ∃ x ∈ l, seen.contains x.born = false) := by
  intro es
  induction es with
  | nil => intro l he; simp only [ER] at he; subst he; exact ⟨fun _ x hx => (by cases hx), fun h => (by cases h)⟩
  | cons k v born r ih =>
    intro l he
    simp only [ER] at he
    obtain ⟨y, ys, rfl, _, _, hb, hr⟩ := he
    have e : noCand seen (.cons k v born r) = ite1 (memN born seen) (noCand seen r) := rfl
    rw [e, memN_eq]
    cases hc : seen.contains born with
    | true =>
      refine ⟨fun h x hx => ?_, fun h => ?_⟩
      · rcases List.mem_cons.1 hx with rfl | hx
        · rw [hb]; exact hc
        · exact (ih hr).1 h x hx
      · obtain ⟨x, hx, hx2⟩ := (ih hr).2 h
        exact ⟨x, List.mem_cons_of_mem _ hx, hx2⟩
    | false => exact ⟨fun h => (by cases h), fun _ => ⟨y, List.mem_cons_self .., by rw [hb]; exact hc⟩⟩
theorem allCand_spec {seen : List Nat} {kc : V → V → Nat → Bool} : ∀ {es : E} {l : List MapEntry}, allCand seen kc es = true → ER ρ es l → ∀ x ∈ l, seen.contains x.born = false → ∃ k v, VR ρ k x.key ∧ VR ρ v x.val ∧ kc k v x.born = true := by
  intro es
  induction es with
  | nil => intro l _ he; simp only [ER] at he; subst he; intro x hx; cases hx
  | cons k v born r ih =>
    intro l hk he x hx hs
    simp only [ER] at he
    obtain ⟨y, ys, rfl, hkr, hvr, hb, hr⟩ := he
    have e : allCand seen kc (.cons k v born r) = Bool.rec (ite1 (kc k v born) (allCand seen kc r)) (allCand seen kc r) (memN born seen) := rfl
    rw [e, memN_eq] at hk
    rcases List.mem_cons.1 hx with rfl | hx
    · rw [hb] at hs
      rw [hs] at hk
      obtain ⟨e1, _⟩ := ite1_spec (show ite1 (kc k v born) (allCand seen kc r) = true from hk)
      exact ⟨k, v, hkr, hvr, by rw [hb]; exact e1⟩
    · cases hc : seen.contains born with
      | true => rw [hc] at hk; exact ih hk hr x hx hs
      | false =>
        rw [hc] at hk
        obtain ⟨_, hk⟩ := ite1_spec (show ite1 (kc k v born) (allCand seen kc r) = true from hk)
        exact ih hk hr x hx hs
theorem run_mapNext {n : Nat} (hn : 0 < n) : ∃ i w1, i < n ∧ (choose (.mapNext n)).run P w = .ok i w1 ∧ w1.heap = w.heap ∧ w1.os = w.os ∧ w1.tape = w.tape ∧ w1.output = w.output := by
  by_cases h : n ≤ 1
  · exact ⟨0, w, hn, by simp [choose, Sem.run, Question.forced, h], rfl, rfl, rfl, rfl⟩
  · exact ⟨(Question.mapNext n).cut (w.tape w.drawn (.mapNext n)), w.drew, Nat.mod_lt _ hn, by simp [run_choose, Question.forced, h], rfl, rfl, rfl, rfl⟩
theorem opNextM_sound {it : V} {ty : TypeId} {vi : Value} {K : V → T O → Bool} (hk : opNextM it h K = true) (s : St ρ h nx w) (hi : VR ρ it vi) :
    ∃ y h' v w', K y h' = true ∧ VR ρ y v ∧ St ρ h' nx w' ∧ Ext ρ h w ρ h' w' ∧ (Instr.next vi false ty).run P w = .ok v w' := by
  obtain ⟨id, off, rfl, hk2⟩ := vP_spec hk
  obtain ⟨e, hk3⟩ := ite1_spec hk2
  have e := beq_spec e
  subst e
  obtain ⟨m, since, seen, last, ho, hk4⟩ := oI_spec hk3
  clear hk hk2 hk3
  simp only [VR] at hi
  obtain ⟨L, hL, rfl⟩ := hi
  obtain ⟨o, h2, h3⟩ := s.rel id L (by rw [ho]; trivial) hL
  rw [ho] at h3
  obtain ⟨mm, rfl, hm, hb⟩ := h3
  have hget := run_getObj_of (P := P) h2 (by simp)
  have hover : VR ρ overV (.tuple #[.bool false]) := by simp only [overV, VR, VRs]; exact ⟨[.bool false], ⟨_, _, rfl, rfl, rfl⟩, rfl⟩
  cases m <;> first | exact Bool.noConfusion hk4 | skip
  case mn =>
    have hk5 : K overV h = true := hk4
    simp only [VR, Value.map.injEq] at hm
    subst hm
    refine ⟨_, h, .tuple #[.bool false], w, hk5, hover, s, Ext.refl _ _ _, ?_⟩
    simp only [Instr.next, hb, Nat.add_zero, Sem.run_bind, hget, Result.andThen_ok, Sem.run_pure]
  case m mid =>
    obtain ⟨es, clock, ho2, hk5⟩ := oM_spec (show oM (gt O.none mid h) (fun es clock => nextM id (.m mid) since seen last clock es h K) = true from hk4)
    have hm2 := hm
    simp only [VR] at hm2
    obtain ⟨M, hM, hmm⟩ := hm2
    cases hmm
    obtain ⟨o2, h4, h5⟩ := s.rel mid M (by rw [ho2]; trivial) hM
    rw [ho2] at h5
    obtain ⟨es', rfl, her⟩ := h5
    have hget2 := run_getObj_of (P := P) h4 (by simp)
    obtain ⟨e1, hk6⟩ := ite1_spec (show ite1 (bornsOK since es) (ite1 (ior (noneSeen seen) (bornsOK last es)) <| Bool.rec (allCand seen (fun k v born => stK O.none (O.mi (.m mid) since (snocN born seen) clock) id h fun h' => K (.t (.cons (.b true) (.cons k (.cons v .nil)))) h') es) (K overV h) (noCand seen es)) = true from hk5)
    obtain ⟨e2, hk7⟩ := ite1_spec hk6
    have hsince := bornsOK_spec e1 her
    have hgone : (!(⟨seen⟩ : Array Nat).isEmpty && !es'.isEmpty && es'.all (fun (e : MapEntry) => decide (e.born ≥ last))) = false := by
      rw [ior_eq, Bool.or_eq_true] at e2
      rcases e2 with e2 | e2
      · cases seen with
        | nil => simp
        | cons a r => exact Bool.noConfusion e2
      · have hl := bornsOK_spec e2 her
        cases hl2 : es'.toList with
        | nil =>
          have : es' = #[] := by apply Array.ext'; simpa using hl2
          subst this
          simp
        | cons x r =>
          have hx := hl x (by rw [hl2]; simp)
          have : es'.all (fun (e : MapEntry) => decide (e.born ≥ last)) = false := by
            rw [← Array.all_toList, hl2, List.all_cons]
            have : decide (x.born ≥ last) = false := by simpa using hx
            rw [this]; rfl
          rw [this]; simp
    obtain ⟨left, hdef⟩ : ∃ left : Array MapEntry, left = es'.filter fun e => !(⟨seen⟩ : Array Nat).contains e.born := ⟨_, rfl⟩
    have hleft : left.toList = es'.toList.filter fun e => !seen.contains e.born := by
      rw [hdef]
      simp
    have hold : left.filter (fun (e : MapEntry) => decide (e.born < since)) = left := by
      apply Array.ext'
      rw [Array.toList_filter, List.filter_eq_self]
      intro x hx
      rw [hleft] at hx
      simpa using hsince x (List.mem_filter.1 hx).1
    have hnew : left.filter (fun (e : MapEntry) => decide (e.born ≥ since)) = #[] := by
      apply Array.ext'
      rw [Array.toList_filter, List.filter_eq_nil_iff.2]
      intro x hx
      rw [hleft] at hx
      have := hsince x (List.mem_filter.1 hx).1
      simp; omega
    cases hno : noCand seen es with
    | true =>
      rw [hno] at hk7
      have hle : left = #[] := by
        apply Array.ext'
        rw [hleft, List.filter_eq_nil_iff.2]
        intro x hx
        simpa using (noCand_spec her).1 hno x hx
      refine ⟨_, h, .tuple #[.bool false], w, hk7, hover, s, Ext.refl _ _ _, ?_⟩
      simp only [Instr.next, hb, Nat.add_zero, Sem.run_bind, hget, Result.andThen_ok, hget2, hgone, Bool.false_eq_true, if_false]
      rw [← hdef, hold, hnew, hle]
      simp [choose, Sem.run, Question.forced]
    | false =>
      rw [hno] at hk7
      obtain ⟨x0, hx0, hx0s⟩ := (noCand_spec her).2 hno
      have hpos : 0 < left.size := by
        have : x0 ∈ left.toList := by rw [hleft]; exact List.mem_filter.2 ⟨hx0, by simpa using hx0s⟩
        have := List.length_pos_of_mem this
        simpa using this
      obtain ⟨i, w1, hi2, hrun, hw, h1, h2', h3'⟩ := run_mapNext (P := P) (w := w) hpos
      have hxi : left[i]? = some left[i] := Array.getElem?_eq_getElem hi2
      have hxm : left[i] ∈ es'.toList.filter fun e => !seen.contains e.born := by rw [← hleft]; exact Array.mem_toList_iff.2 (Array.mem_of_getElem? hxi)
      obtain ⟨hxm1, hxm2⟩ := List.mem_filter.1 hxm
      obtain ⟨k, v, hkr, hvr, hk8⟩ := allCand_spec hk7 her left[i] hxm1 (by simpa using hxm2)
      rw [stK_eq, snocN_eq] at hk8
      have s1 : St ρ h nx w1 := s.heap hw
      have hh2 : w1.heap[L.blk]? = some (.mapIter (some M.blk) since ⟨seen⟩ last) := by rw [hw]; exact h2
      obtain ⟨r1, r2⟩ := s1.write (id := id) (L := L) (by rw [ho]; trivial) hL (o := .mi (.m mid) since (seen ++ [left[i].born]) clock) (ob := .mapIter (some M.blk) since ⟨seen ++ [left[i].born]⟩ clock) ⟨some M.blk, rfl, hm, hb⟩
        (w' := { w1 with heap := w1.heap.setIfInBounds L.blk (.mapIter (some M.blk) since ⟨seen ++ [left[i].born]⟩ clock) }) rfl rfl rfl rfl
      refine ⟨_, _, .tuple #[.bool true, left[i].key, left[i].val], _, hk8, ?_, r1, (Ext.same hw h1 h2' h3').trans r2, ?_⟩
      · simp only [VR, VRs]
        exact ⟨[_, _, _], ⟨_, _, rfl, rfl, _, _, rfl, hkr, _, _, rfl, hvr, rfl⟩, rfl⟩
      · have hpush : (⟨seen⟩ : Array Nat).push left[i].born = ⟨seen ++ [left[i].born]⟩ := by simp
        have hset : (setObj L.blk (.mapIter (some M.blk) since ⟨seen ++ [left[i].born]⟩ clock)).run P w1 = .ok () { w1 with heap := w1.heap.setIfInBounds L.blk (.mapIter (some M.blk) since ⟨seen ++ [left[i].born]⟩ clock) } := by simp only [setObj, Sem.run, hh2]
        have hne : left.isEmpty = false := by
          cases hq : left.isEmpty with
          | false => rfl
          | true => rw [Array.isEmpty_iff] at hq; rw [hq] at hpos; simp at hpos
        simp only [Instr.next, hb, Nat.add_zero, Sem.run_bind, hget, Result.andThen_ok, hget2, hgone, Bool.false_eq_true, if_false]
        rw [← hdef, hold, hnew, hne]
        simp only [Bool.false_eq_true, if_false, Array.append_empty, Array.empty_append, Array.size_map, Sem.run_bind, hrun, Result.andThen_ok, Array.getElem?_map, hxi, Option.map_some, hpush, hset, Sem.run_pure]
theorem lastO_spec : ∀ {seen : List Nat} {st : Nat}, lastO seen = some st → (⟨seen⟩ : Array Nat).back? = some st
  | [], st, h => by cases h
  | x :: r, st, h => by
    have h2 : some (Option.rec (motive := fun _ => Nat) x (fun y => y) (lastO r)) = some st := h
    cases hr : lastO r with
    | none =>
      cases r with
      | nil => rw [hr] at h2; simpa using h2
      | cons a b => exact absurd hr (by show ¬ (some _ = none); simp)
    | some z =>
      rw [hr] at h2
      have e : z = st := Option.some.inj h2
      subst e
      have ih := lastO_spec hr
      have h3 : r.getLast? = some z := by simpa using ih
      have hne : r ≠ [] := by intro e; rw [e] at h3; simp at h3
      simp only [List.back?_toArray]
      rw [List.getLast?_cons]
      simp [h3]
theorem findE_spec {stamp : Nat} {k : V → V → Bool} : ∀ {es : E} {l : List MapEntry}, findE stamp k es = true → ER ρ es l → ∃ x kv vv, l.find? (fun e => e.born == stamp) = some x ∧ VR ρ kv x.key ∧ VR ρ vv x.val ∧ k kv vv = true := by
  intro es
  induction es with
  | nil => intro l h _; exact Bool.noConfusion h
  | cons key v born r ih =>
    intro l h he
    simp only [ER] at he
    obtain ⟨y, ys, rfl, h1, h2, hb, hr⟩ := he
    have e : findE stamp k (.cons key v born r) = Bool.rec (findE stamp k r) (k key v) (Nat.beq born stamp) := rfl
    rw [e] at h
    cases hc : Nat.beq born stamp with
    | true =>
      rw [hc] at h
      have := beq_spec hc
      exact ⟨y, key, v, by rw [List.find?_cons]; simp [hb, this], h1, h2, h⟩
    | false =>
      rw [hc] at h
      obtain ⟨x, kv, vv, g1, g2, g3, g4⟩ := ih h hr
      have hne : (y.born == stamp) = false := by
        rw [hb]
        cases hq : (born == stamp) with
        | false => rfl
        | true =>
          have : born = stamp := by simpa using hq
          rw [this, Nat.beq_refl] at hc; cases hc
      exact ⟨x, kv, vv, by rw [List.find?_cons, hne]; exact g1, g2, g3, g4⟩
theorem opEntry_sound {it : V} {vi : Value} {K : V → Bool} (hk : opEntry it h K = true) (s : St ρ h nx w) (hi : VR ρ it vi) :
    ∃ y v, K y = true ∧ VR ρ y v ∧ (Instr.entry vi).run P w = .ok v w := by
  obtain ⟨id, off, rfl, hk2⟩ := vP_spec hk
  obtain ⟨e, hk3⟩ := ite1_spec hk2
  have e := beq_spec e
  subst e
  obtain ⟨m, since, seen, last, ho, hk4⟩ := oI_spec hk3
  clear hk hk2 hk3
  simp only [VR] at hi
  obtain ⟨L, hL, rfl⟩ := hi
  obtain ⟨o, h2, h3⟩ := s.rel id L (by rw [ho]; trivial) hL
  rw [ho] at h3
  obtain ⟨mm, rfl, hm, hb⟩ := h3
  have hget := run_getObj_of (P := P) h2 (by simp)
  obtain ⟨mid, rfl, hk5⟩ := vM_spec hk4
  simp only [VR] at hm
  obtain ⟨M, hM, hmm⟩ := hm
  cases hmm
  cases hlo : lastO seen with
  | none => rw [hlo] at hk5; exact Bool.noConfusion hk5
  | some st =>
    rw [hlo] at hk5
    obtain ⟨es, clock, ho2, hk6⟩ := oM_spec (show oM (gt O.none mid h) (fun es clock => ite1 (Nat.beq clock last) <| findE st (fun k v => K (.t (.cons k (.cons v .nil)))) es) = true from hk5)
    obtain ⟨e1, hk7⟩ := ite1_spec hk6
    have e1 := beq_spec e1
    subst e1
    obtain ⟨o2, h4, h5⟩ := s.rel mid M (by rw [ho2]; trivial) hM
    rw [ho2] at h5
    obtain ⟨es', rfl, her⟩ := h5
    have hget2 := run_getObj_of (P := P) h4 (by simp)
    obtain ⟨x, kv, vv, g1, g2, g3, g4⟩ := findE_spec hk7 her
    have hf : es'.find? (fun e => e.born == st) = some x := by rw [← Array.find?_toList]; exact g1
    refine ⟨_, .tuple #[x.key, x.val], g4, ?_, ?_⟩
    · simp only [VR, VRs]
      exact ⟨[_, _], ⟨_, _, rfl, g2, _, _, rfl, g3, rfl⟩, rfl⟩
    · simp only [Instr.entry, hb, Nat.add_zero, Sem.run_bind, hget, Result.andThen_ok, lastO_spec hlo, hget2, bne_self_eq_false, Bool.false_eq_true, if_false, hf, Sem.run_pure]
theorem opNext_sound {it : V} {str : Bool} {ty : TypeId} {vi : Value} {K : V → T O → Bool} (hk : opNext it str h K = true) (s : St ρ h nx w) (hi : VR ρ it vi) :
    ∃ y h' v w', K y h' = true ∧ VR ρ y v ∧ St ρ h' nx w' ∧ Ext ρ h w ρ h' w' ∧ (Instr.next vi str ty).run P w = .ok v w' := by
  cases str with
  | true => exact opNextS_sound hk s hi
  | false => exact opNextM_sound hk s hi
theorem opAssert_sound {x : V} {xT t : TypeId} {ok : Bool} {vx : Value} {K : V → Bool} (hk : opAssert P x t ok K = true) (hx : VR ρ x vx) :
    ∃ y r, K y = true ∧ VR ρ y r ∧ (Instr.typeAssert vx xT t ok).run P w = .ok r w := by
  obtain ⟨e, hk2⟩ := ite1_spec hk
  clear hk
  have hd : ∃ d, P.underlying t = some d ∧ ∀ m, d ≠ .interface m := by
    unfold conc at e
    cases e2 : Nat.beq (tyk P t) 23 with
    | true => rw [e2] at e; exact Bool.noConfusion e
    | false =>
      rw [e2] at e
      have e := Nat.blt_eq.mp (show Nat.blt 0 (tyk P t) = true from e)
      obtain ⟨d, hu⟩ := (tyk_cases (P := P) t).2.2.2.2.2.2.2.1 (Nat.pos_iff_ne_zero.1 e)
      refine ⟨d, hu, fun m hm => ?_⟩
      subst hm
      simp [tyk, hu] at e2
  obtain ⟨d, hu, hni⟩ := hd
  cases x <;> first | exact Bool.noConfusion hk2 | skip
  case e t' y =>
    have hk3 : (Bool.rec (Bool.rec false (Option.rec (motive := fun _ => Bool) false (fun z => K (v2 z (.b false))) (zeroV P t)) ok) (K (okay ok y true)) (Nat.beq t' t) : Bool) = true := hk2
    simp only [VR] at hx
    obtain ⟨z, hz, rfl⟩ := hx
    cases e3 : Nat.beq t' t with
    | true =>
      rw [e3] at hk3
      have e3 := beq_spec e3
      subst e3
      refine ⟨_, _, hk3, VR_okay hz, ?_⟩
      unfold Instr.typeAssert
      simp only [Sem.run_bind, run_und hu, Result.andThen_ok]
      cases d <;> first | exact (hni _ rfl).elim | (cases ok <;> simp)
    | false =>
      rw [e3] at hk3
      have hne : ¬ t' = t := fun e => by rw [e, Nat.beq_refl] at e3; cases e3
      cases ok with
      | false => exact Bool.noConfusion hk3
      | true =>
        cases hzv : zeroV P t with
        | none => rw [hzv] at hk3; exact Bool.noConfusion hk3
        | some zz =>
          rw [hzv] at hk3
          obtain ⟨zr, hz1, hz2⟩ := zeroV_spec hzv
          refine ⟨_, _, hk3, VR_v2 (hz2 ρ) (VRb _ _), ?_⟩
          unfold Instr.typeAssert
          simp only [Sem.run_bind, run_und hu, Result.andThen_ok]
          cases d <;> first | exact (hni _ rfl).elim | simp [hne, hz1]
  case en =>
    have hk3 : (Bool.rec false (Option.rec (motive := fun _ => Bool) false (fun z => K (v2 z (.b false))) (zeroV P t)) ok : Bool) = true := hk2
    simp only [VR] at hx
    subst hx
    cases ok with
    | false => exact Bool.noConfusion hk3
    | true =>
      cases hzv : zeroV P t with
      | none => rw [hzv] at hk3; exact Bool.noConfusion hk3
      | some zz =>
        rw [hzv] at hk3
        obtain ⟨zr, hz1, hz2⟩ := zeroV_spec hzv
        refine ⟨_, _, hk3, VR_v2 (hz2 ρ) (VRb _ _), ?_⟩
        unfold Instr.typeAssert
        simp only [Sem.run_bind, run_und hu, Result.andThen_ok]
        cases d <;> first | exact (hni _ rfl).elim | simp [hz1]
end
end Go.Mx
namespace Go.Mx
open Instr Builtin
noncomputable section
variable {P : Program} {ρ : Ren} {h : T O} {nx : Nat} {w : World}
theorem opCap_sound {t : TypeId} {v : V} {K : V → Bool} {x : Value} {ts : Array TypeId} {args : Array Value} {ty : TypeId} (hk : opCap P t v K = true) (hv : VR ρ v x) (ht : ts[0]? = some t) (ha : args[0]? = some x) :
    ∃ y r, K y = true ∧ VR ρ y r ∧ (cap_ ts ty args).run P w = .ok r w := by
  obtain ⟨e1, hk⟩ := ite1_spec hk
  obtain ⟨ie, hu, hie⟩ := slE_pos e1
  have fin : ∀ A, x = .slice A 0 0 → (cap_ ts ty args).run P w = .ok (.int .i64 0) w := by
    intro A e
    subst e
    unfold cap_
    simp only [ht, ha, Sem.run_bind, run_und hu, Result.andThen_ok, Sem.run_pure, goInt]
    rfl
  cases v <;> first | exact Bool.noConfusion hk | skip
  case sn =>
    simp only [VR] at hv
    exact ⟨_, _, hk, VRi _ _ _, fin _ hv⟩
  case s0 =>
    simp only [VR] at hv
    obtain ⟨A, hv⟩ := hv
    exact ⟨_, _, hk, VRi _ _ _, fin _ hv⟩
theorem opSliceData_sound {v : V} {K : V → Bool} {x : Value} {ts : Array TypeId} {ty : TypeId} (hk : opSliceData v K = true) (hv : VR ρ v x) :
    ∃ y r, K y = true ∧ VR ρ y r ∧ (unsafeSliceData_ ts ty #[x]).run P w = .ok r w := by
  cases v <;> first | exact Bool.noConfusion hk | skip
  case sn =>
    simp only [VR] at hv
    subst hv
    exact ⟨.pn, .pointer none, hk, by simp [VR], rfl⟩
  case sl id off len sz =>
    obtain ⟨e1, hk⟩ := ite1_spec (show ite1 (Nat.blt 0 len) (K (.p id off)) = true from hk)
    have e1 := Nat.blt_eq.mp e1
    simp only [VR] at hv
    obtain ⟨L, cap, hL, h1, h2, rfl⟩ := hv
    have hc : cap ≠ 0 := by omega
    refine ⟨_, .pointer (some ⟨L.blk, L.base + off, none⟩), hk, by simp only [VR]; exact ⟨L, hL, rfl⟩, ?_⟩
    change Sem.run P (if cap ≠ 0 then pure (Value.pointer (some ⟨L.blk, L.base + off, none⟩)) else _) w = _
    rw [if_pos hc]
    rfl
  case o t l id x' y' =>
    obtain ⟨e1, hk2⟩ := ite1_spec (show ite1 (Nat.beq t 3) (rgK l fun lo _ => ite1 (ile (Int.ofNat 1) lo) <| K (.p id 0)) = true from hk)
    obtain ⟨L, n, cap, hL, hn, hc1, hc2, rfl⟩ := slice_of (beq_spec e1) hv
    obtain ⟨lo, hi, hk3, hr⟩ := rgK_spec hk2
    obtain ⟨e2, hk4⟩ := ite1_spec hk3
    have e2 := ile_spec e2
    have hb := hr ρ _ hn
    have z : Int.ofNat 1 = (1 : Int) := rfl
    have hc : cap ≠ 0 := by omega
    refine ⟨_, .pointer (some ⟨L.blk, L.base, none⟩), hk4, by simp only [VR]; exact ⟨L, hL, rfl⟩, ?_⟩
    change Sem.run P (if cap ≠ 0 then pure (Value.pointer (some ⟨L.blk, L.base, none⟩)) else _) w = _
    rw [if_pos hc]
    rfl
theorem opMakeSlice_sound {t : TypeId} {ln cp : V} {K : KV} {vl vc : Value} (hk : opMakeSlice P t ln cp h nx K = true) (s : St ρ h nx w) (hl : VR ρ ln vl) (hc : VR ρ cp vc) :
    ∃ ρ' x h' nx' v w', K x h' nx' = true ∧ VR ρ' x v ∧ St ρ' h' nx' w' ∧ Ext ρ h w ρ' h' w' ∧ (Instr.makeSlice t vl vc).run P w = .ok v w' := by
  obtain ⟨kl, n, rfl, hk⟩ := vN_spec hk
  obtain ⟨kc, m, rfl, hk⟩ := vN_spec (v := cp) hk
  obtain ⟨e1, hk⟩ := ite1_spec hk
  obtain ⟨e2, hk⟩ := ite1_spec hk
  obtain ⟨e3, hk⟩ := ite1_spec hk
  have e1 := Nat.le_of_ble_eq_true e1
  have e2 := Nat.le_of_ble_eq_true e2
  have e3 := Nat.le_of_ble_eq_true e3
  cases hE : slE P t with
  | zero => rw [hE] at hk; exact Bool.noConfusion hk
  | succ sz =>
    rw [hE] at hk
    obtain ⟨ie, hu, hie, hsz⟩ := slE_spec hE
    cases hz : zeroC P (slT P t) with
    | none => rw [hz] at hk; exact Bool.noConfusion hk
    | some z =>
      rw [hz] at hk
      obtain ⟨zv, hzv, hzr⟩ := zeroC_spec hz
      obtain ⟨zn, hk, hzn, _⟩ := lenK_spec (show lenK z 0 (fun zn => ite1 (Nat.beq zn sz) <| ite1 (Nat.blt 0 sz) <| repK z m fun c => newK c (slT P t) h nx fun id h' nx' => K (.sl id 0 n sz) h' nx') = true from hk) (VRs_isC (hzr ρ))
      rw [Nat.zero_add] at hk
      obtain ⟨e4, hk⟩ := ite1_spec hk
      obtain ⟨e5, hk⟩ := ite1_spec hk
      have e4 := beq_spec e4
      have e5 := Nat.blt_eq.mp e5
      have hzs : zv.cells.size = sz := by have := hzn ρ _ (hzr ρ); simp at this; omega
      obtain ⟨c, hk, hrep⟩ := repK_spec hk (VRs_isC (hzr ρ))
      have hcc := hrep ρ _ (hzr ρ)
      obtain ⟨h', w', g1, rfl, g3, g4⟩ := newK_sound (K := fun id h' nx' => K (.sl id 0 n sz) h' nx') (vs := (List.replicate m zv.cells.toList).flatten) hk s hcc.CR'
      simp only [VR] at hl hc
      subst hl
      subst hc
      have hfl : (List.replicate m zv.cells.toList).flatten.length = m * sz := by simp [hzs]
      obtain ⟨i2, hi2, hz2⟩ : ∃ i2, P.info? (slT P t) = some i2 ∧ i2.zero = some zv := by
        have := hzv w
        simp only [zeroValue, typeInfo, Sem.run_bind] at this
        simp [hie] at this
        cases hiz : ie.zero with
        | none => simp [hiz] at this
        | some z' => simp [hiz] at this; exact ⟨ie, hie, by rw [hiz, this]⟩
      rw [hie] at hi2
      cases hi2
      have hb : ie.bytes * m ≤ 281474976710656 := by rw [bytes_of hie] at e3; exact e3
      have hb' : (ie.bytes : Int) * (m : Int) ≤ 281474976710656 := by
        have h : ((ie.bytes * m : Nat) : Int) ≤ 281474976710656 := by omega
        rwa [Int.natCast_mul] at h
      have hrun := run_make (P := P) w t (slT P t) ie zv hu hie hz2 kl kc (n : Int) (m : Int) (by omega) (by omega) hb' (by omega)
      refine ⟨_, _, _, _, .slice (some ⟨w.heap.size, 0, none⟩) n m, _, g1, ?_, g3, g4, ?_⟩
      · refine VR_sl (upd_same _ _ _) e1 ?_ rfl
        simp [hfl]
      · have hc2 : madeCells zv.cells (m * ie.size) = ⟨(List.replicate m zv.cells.toList).flatten⟩ := by
          apply Array.ext'
          have := range_mod zv.cells (by omega) m
          rw [hsz, ← hzs]
          simp only [madeCells, Array.toList_map, Array.toList_range]
          exact this
        rw [← hc2]
        simpa using hrun
theorem opCopy_sound {t : TypeId} {d sv : V} {K : V → T O → Bool} {vd vs : Value} {ts : Array TypeId} {args : Array Value} {ty : TypeId} (hk : opCopy P t d sv h K = true) (s : St ρ h nx w) (hd : VR ρ d vd) (hs : VR ρ sv vs)
    (ht : ts[0]? = some t) (ha : args[0]? = some vd) (hb : args[1]? = some vs) :
    ∃ y r h' w', K y h' = true ∧ VR ρ y r ∧ St ρ h' nx w' ∧ Ext ρ h w ρ h' w' ∧ (copy_ ts ty args).run P w = .ok r w' := by
  cases hE : slE P t with
  | zero => unfold opCopy at hk; rw [hE] at hk; exact Bool.noConfusion hk
  | succ sz =>
    unfold opCopy at hk
    rw [hE] at hk
    obtain ⟨ie, hu, hie, hsz⟩ := slE_spec hE
    obtain ⟨new, n, cells, hk1, hnew, hlen, hlo, hfc⟩ := srcK_spec (P := P) (sz := sz) hk s hs
    clear hk
    have hk := hk1
    clear hk1
    have fin : ∀ (base : Option Addr) (dLen dCap : Nat) (w' : World), vd = .slice base dLen dCap → n ≤ dLen → (match base with | some a => (storeCells a cells).run P w = .ok () w' | none => w' = w) → (copy_ ts ty args).run P w = .ok (.int .i64 (n : Int)) w' := by
      intro base dLen dCap w' e hle hst
      subst e
      have hmin : Nat.min n dLen = n := Nat.min_eq_left hle
      unfold copy_
      simp only [ht, ha, hb, Sem.run_bind, run_und hu, Result.andThen_ok, hlo, hmin, run_size hie, hsz, hfc w rfl, goInt]
      cases base with
      | none => simp only at hst; subst hst; simp
      | some a => simp only at hst ⊢; simp [hst]
    cases d <;> first | exact Bool.noConfusion hk | skip
    case sl id off len sz' =>
      obtain ⟨e1, hk3⟩ := ite1_spec (show ite1 (Nat.beq sz sz') (ite1 (Nat.ble n len) <| Bool.rec (oC (gt O.none id h) fun l ty wr => ite1 wr <| putK l off new fun l' => stK O.none (O.c l' ty wr) id h fun h' => K (.i .i64 (Int.ofNat n)) h') (K (.i .i64 (Int.ofNat 0)) h) (Nat.beq n 0)) = true from hk)
      obtain ⟨e2, hk4z⟩ := ite1_spec hk3
      have e1 := beq_spec e1
      have e2 := Nat.le_of_ble_eq_true e2
      clear hk hk3
      subst e1
      by_cases en : n = 0
      · subst en
        have hk4 : K (.i .i64 (Int.ofNat 0)) h = true := hk4z
        have hnil : cells = [] := by apply List.eq_nil_of_length_eq_zero; omega
        subst hnil
        simp only [VR] at hd
        obtain ⟨L, cap, hL, hc1, hc2, hd⟩ := hd
        exact ⟨_, _, _, _, hk4, VRi _ _ _, s, Ext.refl _ _ _, fin _ _ _ w hd (Nat.zero_le _) (by simp [storeCells])⟩
      rw [nbeq_false en] at hk4z
      have hk4 : (oC (gt O.none id h) fun l ty wr => ite1 wr <| putK l off new fun l' => stK O.none (O.c l' ty wr) id h fun h' => K (.i .i64 (Int.ofNat n)) h') = true := hk4z
      obtain ⟨l, bty, wr, ho, hk5⟩ := oC_spec hk4
      clear hk4
      obtain ⟨hwr, hk⟩ := ite1_spec hk5
      clear hk5
      subst hwr
      simp only [VR] at hd
      obtain ⟨L, cap, hL, hc1, hc2, hd⟩ := hd
      obtain ⟨o, h2, h3⟩ := s.relC ho hL
      obtain ⟨arr, fz, rfl, h4, h5, h6, h7⟩ := h3
      obtain ⟨l', hk, _, hput, _⟩ := putK_spec hk (CR_isC h7) (VRs_isC hnew)
      rw [stK_eq] at hk
      obtain ⟨hcr', hle, hone⟩ := hput ρ _ _ h7 hnew
      simp only [List.length_drop, Array.length_toList] at hle
      have hsa : arr.toList.length = arr.size := by simp
      have hrun := run_storeCells_free P L.blk (L.base + off) bty fz cells 0 arr w h2 (by rw [h4]; exact h5 rfl) (by omega) hone
      have hor : OR ρ L (.c l' bty true) (.cells (lput arr.toList (L.base + off) cells).toArray bty fz) := by
        refine ⟨_, fz, rfl, ?_, h5, h6, ?_⟩
        · rw [List.size_toArray, lput_length _ _ _ (by omega)]; simpa using h4
        · have e := lput_drop arr.toList L.base off cells (by omega)
          simpa [e] using hcr'
      have hhe : (w.setRow L.blk (lput arr.toList (L.base + off) cells).toArray).heap = w.heap.setIfInBounds L.blk (.cells (lput arr.toList (L.base + off) cells).toArray bty fz) := setRow_heap_eq w _ _ _ _ _ h2
      have hst := s.write (id := id) (L := L) (asC_wr ho) hL hor hhe rfl rfl rfl
      refine ⟨_, _, _, _, hk, VRi _ _ _, hst.1, hst.2, ?_⟩
      exact fin _ _ _ _ hd e2 (by simpa using hrun)
    case sn =>
      obtain ⟨e1, hk⟩ := ite1_spec (show ite1 (Nat.beq n 0) (K (.i .i64 (Int.ofNat 0)) h) = true from hk)
      have e1 := beq_spec e1
      subst e1
      simp only [VR] at hd
      exact ⟨_, _, _, _, hk, VRi _ _ _, s, Ext.refl _ _ _, fin none 0 0 w hd (Nat.le_refl _) rfl⟩
    case se =>
      obtain ⟨e1, hk⟩ := ite1_spec (show ite1 (Nat.beq n 0) (K (.i .i64 (Int.ofNat 0)) h) = true from hk)
      have e1 := beq_spec e1
      subst e1
      have hnil : cells = [] := by apply List.eq_nil_of_length_eq_zero; omega
      subst hnil
      simp only [VR] at hd
      obtain ⟨A, c, hd⟩ := hd
      exact ⟨_, _, _, _, hk, VRi _ _ _, s, Ext.refl _ _ _, fin (some A) 0 c w hd (Nat.le_refl _) (by simp [storeCells])⟩
    case s0 =>
      obtain ⟨e1, hk⟩ := ite1_spec (show ite1 (Nat.beq n 0) (K (.i .i64 (Int.ofNat 0)) h) = true from hk)
      have e1 := beq_spec e1
      subst e1
      have hnil : cells = [] := by apply List.eq_nil_of_length_eq_zero; omega
      subst hnil
      simp only [VR] at hd
      obtain ⟨A, hd⟩ := hd
      exact ⟨_, _, _, _, hk, VRi _ _ _, s, Ext.refl _ _ _, fin (some A) 0 0 w hd (Nat.le_refl _) (by simp [storeCells])⟩
theorem tyk_u8 {t : TypeId} (h : Nat.beq (tyk P t) 7 = true) : P.underlying t = some (.int .u8) := by
  have h := beq_spec h
  obtain ⟨k, hk⟩ := tyk_int (P := P) (t := t) (by omega) (by omega)
  unfold tyk at h
  rw [hk] at h
  cases k <;> simp [ikn] at h <;> exact hk
theorem run_loadBytes (P : Program) (b : Nat) (ty : TypeId) (fz : Nat × Nat) (w : World) (arr : Array Value) (hh : w.heap[b]? = some (.cells arr ty fz)) :
    ∀ (l : List Nat) (off : Nat) (acc : ByteArray), (∀ j, j < l.length → arr[off + j]? = some (.int .u8 ((l.getD j 0 : Nat) : Int))) → (∀ n ∈ l, n < 256) →
      (loadBytes ⟨b, off, none⟩ acc l.length).run P w = .ok (l.foldl (fun a n => a.push (UInt8.ofNat n)) acc) w := by
  intro l
  induction l with
  | nil => intro off acc _ _; simp [loadBytes]
  | cons x l ih =>
    intro off acc ha hl
    have h0 := ha 0 (by simp)
    simp only [Nat.add_zero, List.getD_cons_zero] at h0
    have hr := run_load_of P w b off ty fz arr (.int .u8 (x : Int)) hh (by simpa using h0)
    simp only [List.length_cons, loadBytes, Sem.run_bind, hr, Result.andThen_ok, List.foldl_cons]
    have e : ((x : Int).toNat.toUInt8) = UInt8.ofNat x := by simp
    rw [e]
    have ha2 : ((⟨b, off, none⟩ : Addr).add 1) = ⟨b, off + 1, none⟩ := rfl
    rw [ha2]
    refine ih (off + 1) _ (fun j hj => ?_) (fun n hn => hl n (List.mem_cons_of_mem _ hn))
    have := ha (j + 1) (by simp; omega)
    simp only [List.getD_cons_succ] at this
    rw [show off + 1 + j = off + (j + 1) by omega]
    exact this
theorem foldl_push (l : List Nat) : ∀ acc : ByteArray, l.foldl (fun a n => a.push (UInt8.ofNat n)) acc = ⟨acc.data ++ (l.map UInt8.ofNat).toArray⟩ := by
  induction l with
  | nil => intro acc; simp
  | cons x l ih => intro acc; rw [List.foldl_cons, ih]; simp [ByteArray.push]
theorem opString0_sound {pt : TypeId} {v ln : V} {K : V → T O → Bool} {x vn : Value} {ts : Array TypeId} {ty : TypeId} (hk : opString0 P pt v ln h K = true) (s : St ρ h nx w) (hv : VR ρ v x) (hn : VR ρ ln vn) (ht : ts[0]? = some pt) :
    ∃ y r h' w', K y h' = true ∧ VR ρ y r ∧ St ρ h' nx w' ∧ Ext ρ h w ρ h' w' ∧ (unsafeString_ ts ty #[x, vn]).run P w = .ok r w' := by
  obtain ⟨kd, n, rfl, hkA⟩ := vN_spec hk
  obtain ⟨e1, hkB⟩ := ite1_spec hkA
  obtain ⟨e2, hkC⟩ := ite1_spec hkB
  clear hk hkA hkB
  have hk := hkC
  clear hkC
  have e1 := Nat.le_of_ble_eq_true e1
  have e2 := beq_spec e2
  obtain ⟨el, hu⟩ := (tyk_cases pt).2.2.2.2.1 e2
  simp only [VR] at hn
  subst hn
  have n1 : ¬ ((n : Int) < 0) := by omega
  have n2 : ¬ ((n : Int) > IntKind.i64.max) := by rw [IntKind.max_i64]; omega
  have pre := fun (p : Option Addr) (x : Value) => (show unsafeString_ ts ty #[.pointer p, x] = (asInt x >>= _) from rfl)
  have zero : n = 0 → ∀ p, (unsafeString_ ts ty #[.pointer p, .int kd (n : Int)]).run P w = .ok (.string (bs [])) w := by
    intro e p
    subst e
    rw [pre]
    have n2 : ¬ (IntKind.i64.max < 0) := by rw [IntKind.max_i64]; omega
    cases p <;> simp [asInt, asIntOf, ht, bs] <;> rfl
  cases v <;> first | exact Bool.noConfusion hk | skip
  case pn =>
    obtain ⟨e3, hk3⟩ := ite1_spec (show ite1 (Nat.beq n 0) (K (.s []) h) = true from hk)
    simp only [VR] at hv
    subst hv
    exact ⟨_, _, _, _, hk3, by simp [VR], s, Ext.refl _ _ _, zero (beq_spec e3) none⟩
  case p id off =>
    have hk2 : (Bool.rec (oC (gt O.none id h) fun l ty wr => ite1 wr <| ite1 (Nat.beq (tyk P ty) 7) <| ite1 (Nat.beq (szk P ty) 2) <| ite1 (Nat.beq (tyk P (ptE P pt)) 7) <| dropK l off fun r => takeK r n fun c => strK c fun v => stK O.none O.none id h fun h' => K v h') (K (.s []) h) (Nat.beq n 0) : Bool) = true := hk
    clear hk
    have hv2 := hv
    simp only [VR] at hv
    obtain ⟨L, hL, rfl⟩ := hv
    cases en : Nat.beq n 0 with
    | true =>
      rw [en] at hk2
      exact ⟨_, _, _, _, hk2, by simp [VR], s, Ext.refl _ _ _, zero (beq_spec en) _⟩
    | false =>
      rw [en] at hk2
      have hn0 : n ≠ 0 := fun e => by rw [e, Nat.beq_refl] at en; cases en
      obtain ⟨l, bty, wr, ho, hk3⟩ := oC_spec hk2
      clear hk2
      obtain ⟨hwr, hk4⟩ := ite1_spec hk3
      clear hk3
      subst hwr
      obtain ⟨e3, hk5⟩ := ite1_spec hk4
      obtain ⟨e4, hk6⟩ := ite1_spec hk5
      obtain ⟨e5, hk7⟩ := ite1_spec hk6
      clear hk4 hk5 hk6
      have u3 := tyk_u8 e3
      have u5 := tyk_u8 e5
      obtain ⟨i4, hi4, hs4⟩ := szk_spec (P := P) (t := bty) (n := 1) (beq_spec e4)
      obtain ⟨o, h2, h3⟩ := s.relC ho hL
      obtain ⟨arr, fz, rfl, h4, h5, h6, h7⟩ := h3
      obtain ⟨r, hk8, hrc, hr⟩ := dropK_spec hk7 (CR_isC h7)
      obtain ⟨c, hk9, hc⟩ := takeK_spec hk8 hrc
      obtain ⟨g1, g2⟩ := hr ρ _ h7
      obtain ⟨g3, g4⟩ := hc ρ _ g1
      obtain ⟨yt, hk10, hte⟩ := strK_nat hk9 (VRs_isC g3)
      rw [stK_eq] at hk10
      obtain ⟨tl, hcells, htl, hyt⟩ := hte ρ _ g3
      have htlen : tl.length = n := by
        have := congrArg List.length hcells
        simp only [List.length_take, List.length_map] at this
        omega
      simp only [List.length_drop, Array.length_toList] at g4
      have hle : L.base + off + n ≤ arr.size := by omega
      have hget : ∀ j, j < tl.length → arr[L.base + off + j]? = some (.int .u8 ((tl.getD j 0 : Nat) : Int)) := by
        intro j hj
        have e1 : (((arr.toList.drop L.base).drop off).take n)[j]? = arr[L.base + off + j]? := by
          rw [List.getElem?_take_of_lt (by omega), List.getElem?_drop, List.getElem?_drop, Array.getElem?_toList]
          rw [show L.base + (off + j) = L.base + off + j by omega]
        rw [← e1, hcells, List.getElem?_map]
        simp [List.getElem?_eq_getElem hj, List.getD_eq_getElem?_getD]
      have hload := run_loadBytes P L.blk bty fz w arr h2 tl (L.base + off) .empty hget htl
      rw [htlen, foldl_push] at hload
      have hbs : (⟨ByteArray.empty.data ++ (tl.map UInt8.ofNat).toArray⟩ : ByteArray) = bs tl := by simp [bs, ByteArray.empty, ByteArray.emptyWithCapacity]; rfl
      rw [hbs] at hload
      obtain ⟨el, hu⟩ : ∃ el, P.underlying pt = some (.pointer el) := ⟨el, hu⟩
      have hel : ptE P pt = el := by simp [ptE, hu]
      rw [hel] at u5
      have hvar : (variablesAt ⟨L.blk, L.base + off, none⟩ el n).run P w = .ok true w := by
        have hsh : w.shape? L.blk = some (bty, arr.size) := by simp [World.shape?, h2]
        have hco : P.cellsOf bty = 1 := by simp [Program.cellsOf, hi4, hs4]
        obtain ⟨d, hd⟩ : ∃ d, P.depth = d + 1 := ⟨_, rfl⟩
        have hsl : sameLayout P P.depth bty el = true := by rw [hd]; simp [sameLayout, u3, u5]
        have hrow : rowAt P (sameLayout P P.depth · el) P.depth bty (arr.size / 1) (L.base + off) n = true := by
          have hgen : ∀ f : TypeId → Bool, f bty = true → rowAt P f P.depth bty (arr.size / 1) (L.base + off) n = true := by
            intro f hf
            rw [hd]
            simp [rowAt, hco, hf, hle, Nat.mod_one]
          exact hgen _ hsl
        have hlies : liesAt P P.depth bty (arr.size / 1) (L.base + off) el n = true := by
          have : ∀ e, liesAt P (e + 1) bty (arr.size / 1) (L.base + off) el n = true := fun e => by unfold liesAt; rw [hrow]; rfl
          rw [hd]; exact this d
        unfold variablesAt
        simp only [Sem.run_bind, run_shape, Result.andThen_ok, hsh, hco, run_program, hlies, Sem.run_pure]
      have hfr : (w.freeze ⟨L.blk, L.base + off, none⟩ n).heap = w.heap.setIfInBounds L.blk (.cells arr bty (if fz.1 == fz.2 then (L.base + off, L.base + off + n) else (min fz.1 (L.base + off), max fz.2 (L.base + off + n)))) := by
        simp only [World.freeze, hn0, if_false]
        obtain ⟨lo, hi⟩ := fz
        apply Array.ext_getElem?
        intro k
        by_cases hkb : L.blk = k
        · subst hkb
          have hlt : L.blk < w.heap.size := (Array.getElem?_eq_some_iff.1 h2).1
          rw [Array.getElem?_modify, h2]
          simp [hlt]
        · rw [Array.getElem?_modify, Array.getElem?_setIfInBounds_ne hkb]
          simp [hkb]
      have hos : (w.freeze ⟨L.blk, L.base + off, none⟩ n).os = w.os ∧ (w.freeze ⟨L.blk, L.base + off, none⟩ n).tape = w.tape ∧ (w.freeze ⟨L.blk, L.base + off, none⟩ n).output = w.output := by
        simp [World.freeze, hn0]
      have hst := s.write (id := id) (L := L) (o := O.none) (asC_wr ho) hL (ob := .cells arr bty (if fz.1 == fz.2 then (L.base + off, L.base + off + n) else (min fz.1 (L.base + off), max fz.2 (L.base + off + n)))) trivial hfr hos.1 hos.2.1 hos.2.2
      refine ⟨_, .string (bs tl), _, _, hk10, hyt, hst.1, hst.2, ?_⟩
      show Sem.run P (unsafeString_ ts ty #[.pointer (some ⟨L.blk, L.base + off, none⟩), .int kd (n : Int)]) w = _
      rw [pre]
      have n3 : ¬ ((n : Int) = 0) := by omega
      have hel2 : (elemOf pt).run P w = .ok el w := by simp [elemOf, run_und hu]
      simp only [asInt, asIntOf, ht, n1, n2, n3, if_false, Sem.run_bind, Sem.run_pure, Result.andThen_ok, Int.toNat_natCast, hel2, hvar, if_true, hload, run_freeze]
set_option maxHeartbeats 800000 in
theorem strO_sound {pt : TypeId} {v ln : V} {K : V → T O → Bool} {x vn : Value} {ts : Array TypeId} {ty : TypeId} (hk : strO P pt v ln h K = true) (s : St ρ h nx w) (hv : VR ρ v x) (hn : VR ρ ln vn) (ht : ts[0]? = some pt) :
    ∃ y r h' w', K y h' = true ∧ VR ρ y r ∧ St ρ h' nx w' ∧ Ext ρ h w ρ h' w' ∧ (unsafeString_ ts ty #[x, vn]).run P w = .ok r w' := by
  obtain ⟨kd, l, hk1, hl⟩ := linK_spec hk
  obtain ⟨n0, hn0, rfl⟩ := hl ρ _ hn
  obtain ⟨e2, hk2⟩ := ite1_spec hk1
  obtain ⟨id, off, rfl, hk3⟩ := vP_spec hk2
  obtain ⟨e0, hk4⟩ := ite1_spec hk3
  have e0 := beq_spec e0
  subst e0
  obtain ⟨c, bty, wr, ho, hk5w⟩ := oR_spec hk4
  obtain ⟨ewr, hk5⟩ := ite1_spec hk5w
  subst ewr
  obtain ⟨m, hk6, _, hm⟩ := lenR_spec hk5
  obtain ⟨e1, hk7⟩ := ite1_spec hk6
  have e1 := sameV_eq e1
  subst e1
  obtain ⟨lo, hi, hk8, hr⟩ := rgK_spec hk7
  obtain ⟨q1, hk9⟩ := ite1_spec hk8
  obtain ⟨q2, hk10⟩ := ite1_spec hk9
  obtain ⟨e3, hk11⟩ := ite1_spec hk10
  obtain ⟨e4, hk12⟩ := ite1_spec hk11
  obtain ⟨e5, hk13⟩ := ite1_spec hk12
  rw [stK_eq] at hk13
  clear hk hk1 hk2 hk3 hk4 hk5w hk5 hk6 hk7 hk8 hk9 hk10 hk11 hk12
  have q1 := ile_spec q1
  have q2 := ile_spec q2
  simp only [VR] at hv
  obtain ⟨L, hL, rfl⟩ := hv
  obtain ⟨arr, fz, sb, h2, h4, h5, g4, g5, g6⟩ := s.relR ho hL
  have hlen := hm ρ _ g5
  have e6 := hn0.fn hlen
  subst e6
  have hb := hr ρ _ hlen
  have z1 : Int.ofNat 1 = (1 : Int) := rfl
  have z2 : Int.ofNat 9223372036854775807 = (9223372036854775807 : Int) := rfl
  obtain ⟨n, hnn⟩ : ∃ n, n = sb.length := ⟨_, rfl⟩
  rw [← hnn] at hb g4 g6 ⊢
  have hn0 : n ≠ 0 := by omega
  have n1 : ¬ ((n : Int) < 0) := by omega
  have n2 : ¬ ((n : Int) > IntKind.i64.max) := by rw [IntKind.max_i64]; omega
  have u3 := tyk_u8 e3
  have u5 := tyk_u8 e5
  obtain ⟨i4, hi4, hs4⟩ := szk_spec (P := P) (t := bty) (n := 1) (beq_spec e4)
  obtain ⟨el, hu⟩ := (tyk_cases pt).2.2.2.2.1 (beq_spec e2)
  have hel : ptE P pt = el := by simp [ptE, hu]
  rw [hel] at u5
  obtain ⟨y, hk14, hy⟩ := strR_spec hk13 (RR_isC g5)
  have pre := fun (p : Option Addr) (x : Value) => (show unsafeString_ ts ty #[.pointer p, x] = (asInt x >>= _) from rfl)
  obtain ⟨tl, htl0⟩ : ∃ tl : List Nat, tl = sb.map UInt8.toNat := ⟨_, rfl⟩
  have htl : ∀ n ∈ tl, n < 256 := by
    intro n hn
    rw [htl0] at hn
    obtain ⟨c, _, rfl⟩ := List.mem_map.1 hn
    exact UInt8.toNat_lt c
  have htlen : tl.length = n := by rw [htl0, List.length_map, hnn]
  have hcells : (arr.toList.drop L.base).take n = tl.map fun b : Nat => Value.int .u8 (b : Int) := by rw [g6, htl0]; simp [byteV]
  have hle : L.base + n ≤ arr.size := by omega
  have hget : ∀ j, j < tl.length → arr[L.base + j]? = some (.int .u8 ((tl.getD j 0 : Nat) : Int)) := by
    intro j hj
    have e1 : ((arr.toList.drop L.base).take n)[j]? = arr[L.base + j]? := by
      rw [List.getElem?_take_of_lt (by omega), List.getElem?_drop, Array.getElem?_toList]
    rw [← e1, hcells, List.getElem?_map]
    simp [List.getElem?_eq_getElem hj, List.getD_eq_getElem?_getD]
  have hload := run_loadBytes P L.blk bty fz w arr h2 tl L.base .empty hget htl
  rw [htlen, foldl_push] at hload
  have hbs : (⟨ByteArray.empty.data ++ (tl.map UInt8.ofNat).toArray⟩ : ByteArray) = bs tl := by simp [bs, ByteArray.empty, ByteArray.emptyWithCapacity]; rfl
  rw [hbs] at hload
  have hvar : (variablesAt ⟨L.blk, L.base, none⟩ el n).run P w = .ok true w := by
    have hsh : w.shape? L.blk = some (bty, arr.size) := by simp [World.shape?, h2]
    have hco : P.cellsOf bty = 1 := by simp [Program.cellsOf, hi4, hs4]
    obtain ⟨d, hd⟩ : ∃ d, P.depth = d + 1 := ⟨_, rfl⟩
    have hsl : sameLayout P P.depth bty el = true := by rw [hd]; simp [sameLayout, u3, u5]
    have hrow : rowAt P (sameLayout P P.depth · el) P.depth bty (arr.size / 1) L.base n = true := by
      have hgen : ∀ f : TypeId → Bool, f bty = true → rowAt P f P.depth bty (arr.size / 1) L.base n = true := by
        intro f hf
        rw [hd]
        simp [rowAt, hco, hf, hle, Nat.mod_one]
      exact hgen _ hsl
    have hlies : liesAt P P.depth bty (arr.size / 1) L.base el n = true := by
      have : ∀ e, liesAt P (e + 1) bty (arr.size / 1) L.base el n = true := fun e => by unfold liesAt; rw [hrow]; rfl
      rw [hd]; exact this d
    unfold variablesAt
    simp only [Sem.run_bind, run_shape, Result.andThen_ok, hsh, hco, run_program, hlies, Sem.run_pure]
  have hfr : (w.freeze ⟨L.blk, L.base, none⟩ n).heap = w.heap.setIfInBounds L.blk (.cells arr bty (if fz.1 == fz.2 then (L.base, L.base + n) else (min fz.1 L.base, max fz.2 (L.base + n)))) := by
    simp only [World.freeze, hn0, if_false]
    obtain ⟨lo, hi⟩ := fz
    apply Array.ext_getElem?
    intro k
    by_cases hkb : L.blk = k
    · subst hkb
      have hlt : L.blk < w.heap.size := (Array.getElem?_eq_some_iff.1 h2).1
      rw [Array.getElem?_modify, h2]
      simp [hlt]
    · rw [Array.getElem?_modify, Array.getElem?_setIfInBounds_ne hkb]
      simp [hkb]
  have hos : (w.freeze ⟨L.blk, L.base, none⟩ n).os = w.os ∧ (w.freeze ⟨L.blk, L.base, none⟩ n).tape = w.tape ∧ (w.freeze ⟨L.blk, L.base, none⟩ n).output = w.output := by
    simp [World.freeze, hn0]
  have hst := s.write (id := id) (L := L) (o := O.none) (by rw [ho]; exact rfl) hL (ob := .cells arr bty (if fz.1 == fz.2 then (L.base, L.base + n) else (min fz.1 L.base, max fz.2 (L.base + n)))) trivial hfr hos.1 hos.2.1 hos.2.2
  refine ⟨_, .string (bs tl), _, _, hk14, hy ρ _ (by rw [bs_data, htl0, map_ofNat_toNat]; exact g5), hst.1, hst.2, ?_⟩
  show Sem.run P (unsafeString_ ts ty #[.pointer (some ⟨L.blk, L.base + 0, none⟩), .int (kOfN kd) (n : Int)]) w = _
  rw [pre]
  have n3 : ¬ ((n : Int) = 0) := by omega
  have hel2 : (elemOf pt).run P w = .ok el w := by simp [elemOf, run_und hu]
  simp only [asInt, asIntOf, ht, n1, n2, n3, if_false, Sem.run_bind, Sem.run_pure, Result.andThen_ok, Int.toNat_natCast, hel2, Nat.add_zero, hvar, if_true, hload, run_freeze]
theorem opString_sound {pt : TypeId} {v ln : V} {K : V → T O → Bool} {x vn : Value} {ts : Array TypeId} {ty : TypeId} (hk : opString P pt v ln h K = true) (s : St ρ h nx w) (hv : VR ρ v x) (hn : VR ρ ln vn) (ht : ts[0]? = some pt) :
    ∃ y r h' w', K y h' = true ∧ VR ρ y r ∧ St ρ h' nx w' ∧ Ext ρ h w ρ h' w' ∧ (unsafeString_ ts ty #[x, vn]).run P w = .ok r w' := by
  unfold opString at hk
  cases e : isO ln with
  | false => rw [e] at hk; exact opString0_sound hk s hv hn ht
  | true => rw [e] at hk; exact strO_sound hk s hv hn ht
end
end Go.Mx
