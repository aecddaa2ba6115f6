/-
  A part of a small executor of the model, proved sound (Mx16 of 46). No condition.
-/
import Derived.Test.YtmplmfieipckjaaGreatDoorXMx15
namespace Go.Mx
open Instr Builtin
noncomputable section
variable {P : Program} {ρ : Ren} {h : T O} {nx : Nat} {w : World}
theorem veqK_spec {t : TypeId} {a b : V} {k : Bool → Bool} (hk : veqK (tyk P t) a b k = true) :
    ∃ r, k r = true ∧ ∃ d, P.underlying t = some d ∧ ∀ ρ x y, VR ρ a x → VR ρ b y → sameNow d x y = some r := by
  unfold veqK at hk
  cases e : Nat.beq (tyk P t) 1 with
  | true =>
    rw [e] at hk
    obtain ⟨l, rfl, hk2⟩ := vS_spec hk
    clear hk
    obtain ⟨l', rfl, hk⟩ := vS_spec hk2
    refine ⟨_, hk, _, (tyk_cases t).1 (beq_spec e), fun ρ x y hx hy => ?_⟩
    simp only [VR] at hx hy
    obtain ⟨rfl, hx⟩ := hx
    obtain ⟨rfl, hy⟩ := hy
    have := bs_eq_beq hx hy
    simp only [sameNow]
    rw [← this]
    congr 1
    show ((bs l).data == (bs l').data) = _
    rw [Bool.eq_iff_iff]
    simp only [beq_iff_eq]
    constructor
    · intro e; rw [ByteArray.toList_eq, ByteArray.toList_eq, e]
    · intro e
      rw [ByteArray.toList_eq, ByteArray.toList_eq] at e
      exact Array.ext' e
  | false =>
    rw [e] at hk
    obtain ⟨e1, hk1⟩ := ite1_spec hk
    obtain ⟨e2, hk2⟩ := ite1_spec hk1
    clear hk hk1
    obtain ⟨k1, n1, rfl, hkA⟩ := vI_spec hk2
    clear hk2
    obtain ⟨k2, n2, rfl, hkB⟩ := vI_spec hkA
    obtain ⟨e3, hkC⟩ := ite1_spec hkB
    have e3 := keq_eq e3
    subst e3
    have hk := hkC
    obtain ⟨kd, hu⟩ := tyk_int (Nat.le_of_ble_eq_true e1) (Nat.le_of_ble_eq_true e2)
    refine ⟨_, hk, _, hu, fun ρ x y hx hy => ?_⟩
    simp only [VR] at hx hy
    subst hx
    subst hy
    simp only [sameNow, if_true, ieq_eq]
    rfl
theorem checkKey_ok {t : TypeId} {a : V} {v : Value} {b : Bool} (hk : keyOk (tyk P t) a = true) (_ha : VR ρ a v) : (checkKey b 10000 t v).run P w = .ok () w := by
  have key : ∀ n, (checkKey b (n + 1) t v).run P w = .ok () w := by
    intro n
    unfold keyOk at hk
    cases e : Nat.beq (tyk P t) 1 with
    | true =>
      have hu := (tyk_cases (P := P) t).1 (beq_spec e)
      simp only [checkKey, Sem.run_bind, run_und hu, Result.andThen_ok]
      rfl
    | false =>
      rw [e] at hk
      obtain ⟨e1, hk⟩ := ite1_spec hk
      obtain ⟨e2, hk⟩ := ite1_spec hk
      obtain ⟨kd, hu⟩ := tyk_int (P := P) (Nat.le_of_ble_eq_true e1) (Nat.le_of_ble_eq_true e2)
      simp only [checkKey, Sem.run_bind, run_und hu, Result.andThen_ok]
      rfl
  exact key 9999
theorem findKey_of {t : TypeId} {d : TypeDesc} {v : Value} {es : List MapEntry} {r : Option (Nat × Value)} (hu : P.underlying t = some d) (h : findNow d v es 0 = some r) : (findKey t v es).run P w = .ok r w := by
  simp only [findKey, Sem.run_bind, run_und hu, Result.andThen_ok, h, Sem.run_pure]
theorem lookE_spec {t : TypeId} {key : V} {no : Bool} {yes : V → Bool} {kv : Value} (hkey : VR ρ key kv) (hko : keyOk (tyk P t) key = true) : ∀ {es : E} {l : List MapEntry} (i : Nat), lookE (tyk P t) key no yes es = true → ER ρ es l →
    ∃ d, P.underlying t = some d ∧ ((no = true ∧ findNow d kv l i = some none) ∨ ∃ x j v, yes x = true ∧ VR ρ x v ∧ findNow d kv l i = some (some (i + j, v)) ∧ (l[j]?).map (·.val) = some v) := by
  intro es
  induction es with
  | nil =>
    intro l i hk hr
    simp only [ER] at hr
    subst hr
    have : ∃ d, P.underlying t = some d := by
      unfold keyOk at hko
      cases e : Nat.beq (tyk P t) 1 with
      | true => exact ⟨_, (tyk_cases (P := P) t).1 (beq_spec e)⟩
      | false =>
        rw [e] at hko
        obtain ⟨e1, hk⟩ := ite1_spec hko
        obtain ⟨e2, hk⟩ := ite1_spec hk
        obtain ⟨kd, hu⟩ := tyk_int (P := P) (Nat.le_of_ble_eq_true e1) (Nat.le_of_ble_eq_true e2)
        exact ⟨_, hu⟩
    obtain ⟨d, hu⟩ := this
    exact ⟨d, hu, .inl ⟨hk, rfl⟩⟩
  | cons k v b r ih =>
    intro l i hk hr
    simp only [ER] at hr
    obtain ⟨x, xs, rfl, h1, h2, h3, h4⟩ := hr
    obtain ⟨q, hq, d, hu, hs⟩ := veqK_spec (P := P) (show veqK (tyk P t) key k (fun b => Bool.rec (lookE (tyk P t) key no yes r) (yes v) b) = true from hk)
    have hs := hs ρ _ _ hkey h1
    cases q with
    | true =>
      refine ⟨d, hu, .inr ⟨v, 0, x.val, hq, h2, ?_, rfl⟩⟩
      simp [findNow, hs]
    | false =>
      obtain ⟨d', hu', hc⟩ := ih (i + 1) hq h4
      rw [hu] at hu'
      cases hu'
      refine ⟨d, hu, ?_⟩
      rcases hc with ⟨g1, g2⟩ | ⟨y, j, u, g1, g2, g3, g4⟩
      · exact .inl ⟨g1, by simp [findNow, hs, g2]⟩
      · refine .inr ⟨y, j + 1, u, g1, g2, ?_, by simpa using g4⟩
        simp only [findNow, hs, g3]
        congr 3
        omega
theorem mapKT_spec {t : TypeId} {_n : Nat} (h : tyk P t = 22) : P.underlying t = some (.map (mapKT P t) (mapET P t)) := by
  obtain ⟨k, e, hu⟩ := (tyk_cases (P := P) t).2.2.1 h
  simp [mapKT, mapET, hu]
theorem St.map (s : St ρ h nx w) {id : Nat} {es : E} {clock : Nat} (ho : gt O.none id h = .mp es clock) {v : Value} (hv : VR ρ (.m id) v) :
    ∃ L es', ρ id = some L ∧ v = .map (some L.blk) ∧ w.heap[L.blk]? = some (.map es' clock) ∧ ER ρ es es'.toList := by
  simp only [VR] at hv
  obtain ⟨L, hL, rfl⟩ := hv
  obtain ⟨o, h2, h3⟩ := s.rel id L (by rw [ho]; trivial) hL
  rw [ho] at h3
  obtain ⟨es', rfl, h4⟩ := h3
  exact ⟨L, es', hL, rfl, h2, h4⟩
theorem run_getMap {b clock : Nat} {es : Array MapEntry} (hh : w.heap[b]? = some (.map es clock)) : (getObj b).run P w = .ok (.map es clock) w := by
  simp only [getObj, Sem.run, hh]
theorem keyOk_map {t : TypeId} {key : V} {_m : V} (_hk : keyOk (mkc P t) key = true) : ∃ k e, P.underlying t = some (.map k e) ∧ mapKT P t = k ∧ mapET P t = e ∨ mapKT P t = 0 := by
  unfold mapKT mapET
  cases P.underlying t with
  | none => exact ⟨0, 0, .inr rfl⟩
  | some d => cases d <;> first | exact ⟨0, 0, .inr rfl⟩ | exact ⟨_, _, .inl ⟨rfl, rfl, rfl⟩⟩
theorem VR_v2 {ρ : Ren} {x y : V} {a b : Value} (ha : VR ρ x a) (hb : VR ρ y b) : VR ρ (v2 x y) (.tuple #[a, b]) := by
  simp only [v2, VR, VRs]
  exact ⟨[a, b], ⟨_, _, rfl, ha, _, _, rfl, hb, rfl⟩, rfl⟩
theorem VR_okay {ρ : Ren} {ok : Bool} {x : V} {b : Bool} {a : Value} (ha : VR ρ x a) : VR ρ (okay ok x b) (if ok then .tuple #[a, .bool b] else a) := by
  cases ok
  · exact ha
  · exact VR_v2 ha (VRb _ _)
theorem opLookup_sound {t : TypeId} {m key : V} {ok : Bool} {vm vk : Value} {K : V → Bool} (hk : opLookup P t m key ok h K = true) (s : St ρ h nx w) (hm : VR ρ m vm) (hkey : VR ρ key vk) :
    ∃ y r, K y = true ∧ VR ρ y r ∧ (Instr.lookup t vm vk ok).run P w = .ok r w := by
  obtain ⟨e0, hk1⟩ := ite1_spec hk
  have hmap := mapKT_spec (_n := 0) (beq_spec e0)
  clear hk
  obtain ⟨e1, hk2⟩ := ite1_spec hk1
  clear hk1
  have hck : ∀ b, (checkKey b 10000 (mapKT P t) vk).run P w = .ok () w := fun b => checkKey_ok e1 hkey
  cases hz : zeroV P (mapET P t) with
  | none => rw [hz] at hk2; exact Bool.noConfusion hk2
  | some z =>
    rw [hz] at hk2
    obtain ⟨zv, hzv, hzr⟩ := zeroV_spec hz
    cases m <;> first | exact Bool.noConfusion hk2 | skip
    case mn =>
      simp only [VR] at hm
      subst hm
      have hk3 : K (okay ok z false) = true := hk2
      have hkt : ∃ d, P.underlying (mapKT P t) = some d := by
        obtain ⟨d, hu, _⟩ := lookE_spec (P := P) (no := true) (yes := fun _ => true) hkey e1 (es := .nil) (l := []) 0 rfl (by simp [ER])
        exact ⟨d, hu⟩
      obtain ⟨d, hud⟩ := hkt
      refine ⟨_, _, hk3, VR_okay (hzr ρ), ?_⟩
      have hfk : (findKey (mapKT P t) vk ([] : List MapEntry)).run P w = .ok none w := findKey_of hud rfl
      simp only [Instr.lookup, Sem.run_bind, run_und hmap, Result.andThen_ok, Sem.run_pure, hck]
      show ((Sem.run P (findKey (mapKT P t) vk []) w).andThen _) = _
      rw [hfk]
      simp only [Result.andThen_ok, Sem.run_bind, hzv, Sem.run_pure]
    case m id =>
      obtain ⟨es, clock, ho, hk3⟩ := oM_spec (show oM (gt O.none id h) (fun es _ => lookE (mkc P t) key (K (okay ok z false)) (fun v => K (okay ok v true)) es) = true from hk2)
      obtain ⟨L, es', hL, rfl, hh, her⟩ := s.map ho hm
      obtain ⟨d, hud, hc⟩ := lookE_spec (P := P) hkey e1 0 hk3 her
      rcases hc with ⟨g1, g2⟩ | ⟨x, j, v, g1, g2, g3, _⟩
      · refine ⟨_, _, g1, VR_okay (hzr ρ), ?_⟩
        simp only [Instr.lookup, Sem.run_bind, run_und hmap, Result.andThen_ok, run_getMap hh, Sem.run_pure, hck, findKey_of hud g2, hzv]
      · refine ⟨_, _, g1, VR_okay g2, ?_⟩
        simp only [Instr.lookup, Sem.run_bind, run_und hmap, Result.andThen_ok, run_getMap hh, Sem.run_pure, hck, findKey_of hud g3]
theorem sameBits_of {d : TypeDesc} {x y : Value} (h : sameNow d x y = some true) : sameBits 10000 y x = true := by
  have key : ∀ n, sameBits (n + 1) y x = true := by
    intro n
    unfold sameNow at h
    split at h
    · split at h
      · rename_i e
        simp at h
        subst e
        simp [sameBits, h]
      · simp at h
    · simp at h
      have : ∀ a b : ByteArray, (a == b) = true → (b == a) = true := by
        intro a b e
        have e : (a.data == b.data) = true := e
        show (b.data == a.data) = true
        rw [beq_iff_eq] at e ⊢
        exact e.symm
      simp only [sameBits]
      exact this _ _ h
    · simp at h
      simp [sameBits, h]
    · simp at h
  exact key 9999
theorem replE_spec {t : TypeId} {key val : V} {kv vv : Value} {ρ : Ren} (hkey : VR ρ key kv) (hval : VR ρ val vv) : ∀ {es : E} {l : List MapEntry} {c : E → Bool} (i : Nat), replE (tyk P t) key val es c = true → ER ρ es l →
    ∃ es' d j v ke, P.underlying t = some d ∧ c es' = true ∧ findNow d kv l i = some (some (i + j, v)) ∧ (l[j]?).map (·.key) = some ke ∧ sameBits 10000 ke kv = true ∧ ER ρ es' (l.modify j fun e => { e with key := kv, val := vv }) := by
  intro es
  induction es with
  | nil => intro l c i hk _; exact Bool.noConfusion hk
  | cons k v b r ih =>
    intro l c i hk hr
    simp only [ER] at hr
    obtain ⟨x, xs, rfl, h1, h2, h3, h4⟩ := hr
    obtain ⟨q, hq, d, hu, hs⟩ := veqK_spec (P := P) (show veqK (tyk P t) key k (fun b' => Bool.rec (replE (tyk P t) key val r fun r' => c (.cons k v b r')) (c (.cons key val b r)) b') = true from hk)
    have hs := hs ρ _ _ hkey h1
    cases q with
    | true =>
      refine ⟨_, d, 0, x.val, x.key, hu, hq, by simp [findNow, hs], rfl, sameBits_of hs, ?_⟩
      simp only [List.modify_zero_cons, ER]
      exact ⟨_, _, rfl, hkey, hval, h3, h4⟩
    | false =>
      obtain ⟨es', d', j, u, ke, g1, g2, g3, g4, g5, g6⟩ := ih (c := fun r' => c (.cons k v b r')) (i + 1) hq h4
      rw [hu] at g1
      cases g1
      refine ⟨_, d, j + 1, u, ke, hu, g2, ?_, by simpa using g4, g5, ?_⟩
      · simp only [findNow, hs, g3]
        congr 3
        omega
      · simp only [List.modify_succ_cons, ER]
        exact ⟨_, _, rfl, h1, h2, h3, g6⟩
theorem pushE_spec {key val : V} {kv vv : Value} {b : Nat} {ρ : Ren} (hkey : VR ρ key kv) (hval : VR ρ val vv) : ∀ {es : E} {l : List MapEntry} {c : E → Bool}, pushE key val b es c = true → ER ρ es l →
    ∃ es', c es' = true ∧ ER ρ es' (l ++ [{ key := kv, val := vv, born := b }]) := by
  intro es
  induction es with
  | nil =>
    intro l c hk hr
    simp only [ER] at hr
    subst hr
    exact ⟨_, hk, by simp only [List.nil_append, ER]; exact ⟨_, _, rfl, hkey, hval, rfl, rfl⟩⟩
  | cons k v b' r ih =>
    intro l c hk hr
    simp only [ER] at hr
    obtain ⟨x, xs, rfl, h1, h2, h3, h4⟩ := hr
    obtain ⟨es', g1, g2⟩ := ih (c := fun r' => c (.cons k v b' r')) hk h4
    exact ⟨_, g1, by simp only [List.cons_append, ER]; exact ⟨_, _, rfl, h1, h2, h3, g2⟩⟩
theorem run_setMap {b clock clock' : Nat} {es es' : Array MapEntry} (hh : w.heap[b]? = some (.map es clock)) : (setObj b (.map es' clock')).run P w = .ok () { w with heap := w.heap.setIfInBounds b (.map es' clock') } := by
  simp only [setObj, Sem.run, hh]
theorem opMapUpdate_sound {t : TypeId} {m key val : V} {vm vk vv : Value} {K : T O → Bool} (hk : opMapUpdate P t m key val h K = true) (s : St ρ h nx w) (hm : VR ρ m vm) (hkey : VR ρ key vk) (hval : VR ρ val vv) :
    ∃ h' w', K h' = true ∧ St ρ h' nx w' ∧ Ext ρ h w ρ h' w' ∧ (Instr.mapUpdate t vm vk vv).run P w = .ok () w' := by
  obtain ⟨e0, hk1⟩ := ite1_spec hk
  have hmap := mapKT_spec (_n := 0) (beq_spec e0)
  clear hk
  obtain ⟨e1, hk2⟩ := ite1_spec hk1
  clear hk1
  obtain ⟨id, rfl, hk3⟩ := vM_spec hk2
  clear hk2
  obtain ⟨es, clock, ho, hk4⟩ := oM_spec hk3
  clear hk3
  obtain ⟨L, es', hL, rfl, hh, her⟩ := s.map ho hm
  have hck : ∀ b, (checkKey b 10000 (mapKT P t) vk).run P w = .ok () w := fun b => checkKey_ok e1 hkey
  obtain ⟨d, hud, hc⟩ := lookE_spec (P := P) hkey e1 0 hk4 her
  rcases hc with ⟨g1, g2⟩ | ⟨x, j, v, g1, g2, g3, _⟩
  · obtain ⟨es2, q1, q2⟩ := pushE_spec hkey hval g1 her
    rw [stK_eq] at q1
    obtain ⟨r1, r2⟩ := s.write (id := id) (L := L) (by rw [ho]; trivial) hL (o := .mp es2 (Nat.succ clock)) (ob := .map (es'.push { key := vk, val := vv, born := clock }) (clock + 1))
      ⟨_, rfl, by simpa using q2⟩ (w' := { w with heap := w.heap.setIfInBounds L.blk (.map (es'.push { key := vk, val := vv, born := clock }) (clock + 1)) }) rfl rfl rfl rfl
    refine ⟨_, _, q1, r1, r2, ?_⟩
    simp only [Instr.mapUpdate, Sem.run_bind, run_und hmap, Result.andThen_ok, run_getMap hh, hck, findKey_of hud g2, run_setMap hh]
  · obtain ⟨es2, d', j2, v2, ke, q0, q1, q2, q3, q4, q5⟩ := replE_spec (P := P) hkey hval 0 g1 her
    rw [hud] at q0
    cases q0
    rw [stK_eq] at q1
    obtain ⟨r1, r2⟩ := s.write (id := id) (L := L) (by rw [ho]; trivial) hL (o := .mp es2 clock) (ob := .map (es'.modify j2 fun e => { e with key := vk, val := vv }) clock)
      ⟨_, rfl, by simpa [Array.toList_modify] using q5⟩ (w' := { w with heap := w.heap.setIfInBounds L.blk (.map (es'.modify j2 fun e => { e with key := vk, val := vv }) clock) }) rfl rfl rfl rfl
    refine ⟨_, _, q1, r1, r2, ?_⟩
    have hke : ((es'[j2]?).map (·.key)).getD vk = ke := by
      rw [← Array.getElem?_toList, q3]; rfl
    rw [Nat.zero_add] at q2
    simp only [Instr.mapUpdate, Sem.run_bind, run_und hmap, Result.andThen_ok, run_getMap hh, hck, findKey_of hud q2, hke, keyThatStays, q4, if_true, Sem.run_pure, run_setMap hh]
end
end Go.Mx
