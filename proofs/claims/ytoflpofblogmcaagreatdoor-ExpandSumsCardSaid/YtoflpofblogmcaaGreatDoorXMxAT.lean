/-
  A part of a small executor of the model, proved sound (29 of 34). No condition.
-/
import Derived.Test.YtoflpofblogmcaaGreatDoorXMxAM
import Derived.Test.YtoflpofblogmcaaGreatDoorXMxL
namespace Go.Mx
noncomputable section
variable {P : Program} {ng : Nat} {ρ : Ren}
def HasSaid (P : Program) (g : Nat) : Prop := ∀ (b o : Nat) (arr : Array Value) (ty : TypeId) (fz : Nat × Nat) (w : World) (c : Nat) (m : Nat → Nat), w.heap[b]? = some (.cells arr ty fz) → c < 256 → (∀ i, i < 4 → arr[o + i]? = some (.int .u64 (m i : Int)) ∧ m i ≤ 18446744073709551615) →
  Calls P g #[.pointer (some ⟨b, o, none⟩), .int .u8 (c : Int)] w fun e w' => ∃ t : Bool, e = .returned (.bool t) ∧ w' = w
def hkHas (e : HookF) : HookF := fun args h nx K => ior (e args h nx K) (arg0 args fun p r => arg0 r fun x r2 => ite1 (sameV r2 .nil) <| ite1 (rngK x fun kd _ hi _ => ite1 (keq kd .u8) <| Nat.ble hi 255) <|
  vP p fun id off => oC (gt O.none id h) fun l _ _ => nthK l off fun z0 => ite1 (is64 z0) <| nthK l (off + 1) fun z1 => ite1 (is64 z1) <| nthK l (off + 2) fun z2 => ite1 (is64 z2) <| nthK l (off + 3) fun z3 => ite1 (is64 z3) <|
    ite1 (K (.b true) h nx) (K (.b false) h nx))
theorem hkHas_ok (hn : NameOK P) {g : Nat} {fn : Func} {cd : Code} (hf : P.funcs[g]? = some fn) (hb : fn.body = some cd) {e : HookF} (he : HookOk P ng g e) (hC : HasSaid P g) : HookOk P ng g (hkHas e) := by
  intro args h nx K Kp hk ρ w vs s hg hvs
  have hk0 := ior_cases hk
  clear hk
  rcases hk0 with hk | hk
  · exact he _ h nx K Kp hk ρ w vs s hg hvs
  replace hk := arg0_spec hk
  obtain ⟨p, r, rfl, hk⟩ := hk
  replace hk := arg0_spec hk
  obtain ⟨x, r2, rfl, hk⟩ := hk
  replace hk := ite1_spec hk
  obtain ⟨e0, hk⟩ := hk
  have e0 := sameV_eq e0
  subst e0
  replace hk := ite1_spec hk
  obtain ⟨hc, hk⟩ := hk
  obtain ⟨kd, lo, hi, ii, hc2, hr⟩ := rngK_spec hc
  obtain ⟨e1, e2⟩ := ite1_spec hc2
  have e1 := keq_eq e1
  subst e1
  have e2 := Nat.le_of_ble_eq_true e2
  simp only [VRs] at hvs
  obtain ⟨v0, _, rfl, hp, v1, _, rfl, h1, rfl⟩ := hvs
  obtain ⟨n1, rfl, hin⟩ := hr ρ _ h1
  have hlt : n1 < 256 := by have := hin.2.1; omega
  replace hk := vP_spec hk
  obtain ⟨id, off, rfl, hk⟩ := hk
  replace hk := oC_spec hk
  obtain ⟨l, ty, wr, ho, hk⟩ := hk
  replace hk := nthK_spec hk
  obtain ⟨z0, hk, t0⟩ := hk
  replace hk := ite1_spec hk
  obtain ⟨u0, hk⟩ := hk
  replace hk := nthK_spec hk
  obtain ⟨z1, hk, t1⟩ := hk
  replace hk := ite1_spec hk
  obtain ⟨u1, hk⟩ := hk
  replace hk := nthK_spec hk
  obtain ⟨z2, hk, t2⟩ := hk
  replace hk := ite1_spec hk
  obtain ⟨u2, hk⟩ := hk
  replace hk := nthK_spec hk
  obtain ⟨z3, hk, t3⟩ := hk
  replace hk := ite1_spec hk
  obtain ⟨u3, hk⟩ := hk
  obtain ⟨kt, kf⟩ := ite1_spec hk
  obtain ⟨L, arr, fz, hL, rfl, hh, hsz, hfz, hbs, hcr⟩ := s.at ho hp
  obtain ⟨y0, k0, r0⟩ := t0 ρ _ hcr
  obtain ⟨y1, k1, r1⟩ := t1 ρ _ hcr
  obtain ⟨y2, k2, r2⟩ := t2 ρ _ hcr
  obtain ⟨y3, k3, r3⟩ := t3 ρ _ hcr
  obtain ⟨m0, rfl, b0⟩ := is64_spec u0 r0
  obtain ⟨m1, rfl, b1⟩ := is64_spec u1 r1
  obtain ⟨m2, rfl, b2⟩ := is64_spec u2 r2
  obtain ⟨m3, rfl, b3⟩ := is64_spec u3 r3
  simp only [List.getElem?_drop, Array.getElem?_toList] at k0 k1 k2 k3
  let m : Nat → Nat := fun i => if i = 0 then m0 else if i = 1 then m1 else if i = 2 then m2 else m3
  have hm : ∀ i, i < 4 → arr[L.base + off + i]? = some (.int .u64 (m i : Int)) ∧ m i ≤ 18446744073709551615 := by
    intro i hi
    match i, hi with
    | 0, _ => exact ⟨by rw [show L.base + off + 0 = L.base + off by omega]; exact k0, b0⟩
    | 1, _ => exact ⟨by rw [show L.base + off + 1 = L.base + (off + 1) by omega]; exact k1, b1⟩
    | 2, _ => exact ⟨by rw [show L.base + off + 2 = L.base + (off + 2) by omega]; exact k2, b2⟩
    | 3, _ => exact ⟨by rw [show L.base + off + 3 = L.base + (off + 3) by omega]; exact k3, b3⟩
  have hcall := hC L.blk (L.base + off) arr ty fz w n1 m hh hlt hm
  intro o a next Q g1 _
  show o.upon P a next Q ((callFunc g #[.pointer (some ⟨L.blk, L.base + off, none⟩), .int .u8 (n1 : Int)]).run P w)
  rw [callFunc_enter hn hf hb, Oper.upon_enter]
  refine hcall.mono fun e w' ⟨t, he1, hw⟩ => ?_
  subst he1
  subst hw
  cases t with
  | true => exact g1 _ (.b true) _ nx _ _ (VRb _ _) s (Ext.refl _ _ _) kt
  | false => exact g1 _ (.b false) _ nx _ _ (VRb _ _) s (Ext.refl _ _ _) kf
end
end Go.Mx
