/-
  Words of unknown length are read as what they are; Quote and Plain are met by contracts. No condition.
-/
import Derived.Test.YtdkpggfooahnnaaGreatDoorFam0
import Derived.Test.YtdkpggfooahnnaaGreatDoorFam1
import Derived.Test.YtdkpggfooahnnaaGreatDoorFam2
import Derived.Test.YtdkpggfooahnnaaGreatDoorFam3
import Derived.Test.YtdkpggfooahnnaaGreatDoorQuW
import Derived.Test.YtdkpggfooahnnaaGreatDoorXMxAN
import Derived.Test.YtdkpggfooahnnaaGreatDoorXMxAQ
import Derived.Test.YtdkpggfooahnnaaGreatDoorXMxAQ
open Go Go.Mx Go.Lib Go.RowKit Go.Shelf
namespace Go.Proofs.YtdkpggfooahnnaaGreatDoor
set_option maxRecDepth 1000000
noncomputable section
theorem tkAlla : ∀ n, n ≤ 40 → 1 ≤ ([120, 61] : List Nat).length + n → ∀ τ : Nat → Nat, tokaR n τ = true
  | 0, _, _ => tka0
  | 1, _, _ => tka1
  | 2, _, _ => tka2
  | 3, _, _ => tka3
  | 4, _, _ => tka4
  | 5, _, _ => tka5
  | 6, _, _ => tka6
  | 7, _, _ => tka7
  | 8, _, _ => tka8
  | 9, _, _ => tka9
  | 10, _, _ => tka10
  | 11, _, _ => tka11
  | 12, _, _ => tka12
  | 13, _, _ => tka13
  | 14, _, _ => tka14
  | 15, _, _ => tka15
  | 16, _, _ => tka16
  | 17, _, _ => tka17
  | 18, _, _ => tka18
  | 19, _, _ => tka19
  | 20, _, _ => tka20
  | 21, _, _ => tka21
  | 22, _, _ => tka22
  | 23, _, _ => tka23
  | 24, _, _ => tka24
  | 25, _, _ => tka25
  | 26, _, _ => tka26
  | 27, _, _ => tka27
  | 28, _, _ => tka28
  | 29, _, _ => tka29
  | 30, _, _ => tka30
  | 31, _, _ => tka31
  | 32, _, _ => tka32
  | 33, _, _ => tka33
  | 34, _, _ => tka34
  | 35, _, _ => tka35
  | 36, _, _ => tka36
  | 37, _, _ => tka37
  | 38, _, _ => tka38
  | 39, _, _ => tka39
  | 40, _, _ => tka40
  | n + 41, h, _ => absurd h (by omega)
theorem tkAllb : ∀ n, n ≤ 40 → 1 ≤ ([] : List Nat).length + n → ∀ τ : Nat → Nat, tokbR n τ = true
  | 0, _, h => absurd h (by decide)
  | 1, _, _ => tkb1
  | 2, _, _ => tkb2
  | 3, _, _ => tkb3
  | 4, _, _ => tkb4
  | 5, _, _ => tkb5
  | 6, _, _ => tkb6
  | 7, _, _ => tkb7
  | 8, _, _ => tkb8
  | 9, _, _ => tkb9
  | 10, _, _ => tkb10
  | 11, _, _ => tkb11
  | 12, _, _ => tkb12
  | 13, _, _ => tkb13
  | 14, _, _ => tkb14
  | 15, _, _ => tkb15
  | 16, _, _ => tkb16
  | 17, _, _ => tkb17
  | 18, _, _ => tkb18
  | 19, _, _ => tkb19
  | 20, _, _ => tkb20
  | 21, _, _ => tkb21
  | 22, _, _ => tkb22
  | 23, _, _ => tkb23
  | 24, _, _ => tkb24
  | 25, _, _ => tkb25
  | 26, _, _ => tkb26
  | 27, _, _ => tkb27
  | 28, _, _ => tkb28
  | 29, _, _ => tkb29
  | 30, _, _ => tkb30
  | 31, _, _ => tkb31
  | 32, _, _ => tkb32
  | 33, _, _ => tkb33
  | 34, _, _ => tkb34
  | 35, _, _ => tkb35
  | 36, _, _ => tkb36
  | 37, _, _ => tkb37
  | 38, _, _ => tkb38
  | 39, _, _ => tkb39
  | 40, _, _ => tkb40
  | n + 41, h, _ => absurd h (by omega)
def hkTka : HookF := hkTok tbl 12 97 122 M 40 250 355 [120, 61] (some 10) (hkRun RD 180)
theorem tkOka : HookOk Tryz.prog 12 180 hkTka := hkTok_ok r0 (hkRun_ok rd) tblIn mIn (by decide) tkAlla
def hkTkb : HookF := hkTok tbl 12 97 122 M 40 250 355 [] (some 32) (hkTka)
theorem tkOkb : HookOk Tryz.prog 12 180 hkTkb := hkTok_ok r0 (tkOka) tblIn mIn (by decide) tkAllb
theorem stays_belowW {w w' : World} (h : Below w.heap.size w w') : Stays w w' := ⟨h.size, h.os, h.tape, h.output, h.block⟩
theorem below_staysW {w w' : World} (h : Stays w w') : Below w.heap.size w w' := ⟨h.os, h.tape, h.output, h.size, h.heap⟩
theorem quBody : ∃ c, Tryz.f407.body = some c := ⟨_, rfl⟩
theorem plBody : ∃ c, Tryz.f359.body = some c := ⟨_, rfl⟩
theorem siBody : ∃ c, Tryz.f454.body = some c := ⟨_, rfl⟩
theorem singleSaid : single_said Tryz.prog 454 := fun c w => by
  obtain ⟨cd, hb⟩ := siBody
  have hlt : c.toNat < 256 := c.toNat_lt
  refine (calls_of_ck nameOK (run_sound follows nameOK hk0ok 100000) (fn := Tryz.f454) (by kernel_rfl) hb (args := .cons (.i .u8 (Int.ofNat c.toNat)) .nil) (vs := [.int .u8 c.toNat]) (fun ρ => by simp only [VRs]; exact ⟨_, _, rfl, by simp only [VR]; rfl, rfl⟩) (allN_spec single_run c.toNat hlt)
    (φ := fun v => ∃ a1 a2 a3 a4 : Nat, v = .agg #[.bool false, .int .u64 a1, .int .u64 a2, .int .u64 a3, .int .u64 a4, .bool true, .int .u8 c.toNat, .bool false]) (fun ρ' y v h' nx' hk hv => ?_) w).mono fun e w' ⟨v, h1, ⟨a1, a2, a3, a4, h2⟩, h3⟩ => ⟨a1, a2, a3, a4, by rw [h1, h2], below_staysW h3⟩
  obtain ⟨c1, c2, c3, c4, _, _, _, _, rfl⟩ := isSingle4_spec hk hv
  exact ⟨c1, c2, c3, c4, rfl⟩
theorem noSp_of {s : ByteArray} (h : ∀ x ∈ s.data.toList, (([42, 63, 91, 92] : List Nat).map UInt8.ofNat).contains x = false) : noSp s := fun c hc => by
  have h1 := h c hc
  simp only [List.map_cons, List.map_nil, List.contains_cons, List.contains_nil, Bool.or_false, Bool.or_eq_false_iff, beq_eq_false_iff_ne] at h1
  obtain ⟨a1, a2, a3, a4⟩ := h1
  refine ⟨fun e => a1 ?_, fun e => a2 ?_, fun e => a3 ?_, fun e => a4 ?_⟩ <;> exact UInt8.toNat_inj.1 (by rw [e]; rfl)
theorem four : ∀ n ∈ ([42, 63, 91, 92] : List Nat), n < 256 := by decide
theorem quOk : HookOk Tryz.prog 12 407 (hkKeepS [42, 63, 91, 92] false (hkRun R0 407)) := by
  obtain ⟨c, hb⟩ := quBody
  exact hkKeepS_ok nameOK (fn := Tryz.f407) (by kernel_rfl) hb (hkRun_ok r0) four fun s w h1 h2 => (quote_any s w h1 (noSp_of h2)).mono fun e w' h => ⟨h.1, stays_belowW h.2⟩
theorem plaOk : HookOk Tryz.prog 12 359 (hkKeepS [42, 63, 91, 92] true (hkRun R0 359)) := by
  obtain ⟨c, hb⟩ := plBody
  exact hkKeepS_ok nameOK (fn := Tryz.f359) (by kernel_rfl) hb (hkRun_ok r0) four fun s w h1 h2 => (plain_any singleSaid s w h1 (noSp_of h2)).mono fun e w' h => ⟨h.1, stays_belowW h.2⟩
theorem csqOkF : HookOk Tryz.prog 12 94 (hkO (hkOr hkCount hkCountW) hkCountQ) := hkO_ok h94 (hkCountQ_ok (fn := Tryz.f94) (by kernel_rfl) (by kernel_rfl) (by kernel_rfl) (by kernel_rfl) (by kernel_rfl))
def hkF : List (Nat × HookF) := (180, hkTkb) :: (233, hkAm) :: (234, hkIs) :: (235, hkAt0) :: (407, hkKeepS [42, 63, 91, 92] false (hkRun R0 407)) :: (359, hkKeepS [42, 63, 91, 92] true (hkRun R0 359)) :: (350, hkFi2) :: (94, hkO (hkOr hkCount hkCountW) hkCountQ) :: hkD
theorem hkFok : HKok Tryz.prog 12 (hkL hkF) := hkL_cons tkOkb (hkL_cons am (hkL_cons is0 (hkL_cons at0 (hkL_cons quOk (hkL_cons plaOk (hkL_cons fi2 (hkL_cons csqOkF hkDok)))))))
end
end Go.Proofs.YtdkpggfooahnnaaGreatDoor
