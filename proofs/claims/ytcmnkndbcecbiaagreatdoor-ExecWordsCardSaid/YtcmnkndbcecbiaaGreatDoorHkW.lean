/-
  bytes.trimRightByte, glob.Quote and glob.Plain are met by contracts. No condition.
-/
import Derived.Test.YtcmnkndbcecbiaaGreatDoorHkF
import Derived.Test.YtcmnkndbcecbiaaGreatDoorQuW
import Derived.Test.YtcmnkndbcecbiaaGreatDoorXMxAK
import Derived.Test.YtcmnkndbcecbiaaGreatDoorXMxAN
import Derived.Shelf.Bytes.SlTrimWalks
open Go Go.Mx Go.Lib Go.RowKit Go.Shelf
namespace Go.Proofs.YtcmnkndbcecbiaaGreatDoor
set_option maxRecDepth 1000000
noncomputable section
def laysTB_ren : Go.Shelf.Ren := ⟨fun _ => 280, fun | 22 => 29 | n => n, fun n => n⟩
theorem laysTB : Go.Proofs.SlLaysV.n10 Tryz.prog laysTB_ren := {
  mixed := by kernel_rfl
  f10 := Tryz.func280.trans (congrArg some (by kernel_rfl))
  t0 := Tryz.underlying0
  a0 := Tryz.isAgg0
  z0 := Tryz.sizeOf0
  v0 := Tryz.zeroValue0
  t3 := Tryz.underlying3
  a3 := Tryz.isAgg3
  z3 := Tryz.sizeOf3
  v3 := Tryz.zeroValue3
  t4 := Tryz.underlying4
  a4 := Tryz.isAgg4
  z4 := Tryz.sizeOf4
  v4 := Tryz.zeroValue4
  t5 := Tryz.underlying5
  a5 := Tryz.isAgg5
  z5 := Tryz.sizeOf5
  v5 := Tryz.zeroValue5
  t22 := Tryz.underlying29
  a22 := Tryz.isAgg29
  z22 := Tryz.sizeOf29
  v22 := Tryz.zeroValue29 }
theorem stays_belowW {w w' : World} (h : Below w.heap.size w w') : Stays w w' := ⟨h.size, h.os, h.tape, h.output, h.block⟩
theorem below_staysW {w w' : World} (h : Stays w w') : Below w.heap.size w w' := ⟨h.os, h.tape, h.output, h.size, h.heap⟩
theorem tbBody : ∃ c, Tryz.f280.body = some c := ⟨_, rfl⟩
theorem quBody : ∃ c, Tryz.f206.body = some c := ⟨_, rfl⟩
theorem plBody : ∃ c, Tryz.f162.body = some c := ⟨_, rfl⟩
theorem siBody : ∃ c, Tryz.f247.body = some c := ⟨_, rfl⟩
theorem tbOk : HookOk Tryz.prog 12 280 (hkTrimRB (hkRun R0 280)) := by
  obtain ⟨c, hb⟩ := tbBody
  exact hkTrimRB_ok nameOK (fn := Tryz.f280) (by kernel_rfl) hb (hkRun_ok r0) fun b o n c l cc w h1 h2 h3 h4 => Any.bytes_trimRightByte laysTB (some ⟨b, o, none⟩) n c l cc w h1 h2 h3 fun _ => ⟨b, o, rfl, h4⟩
theorem singleSaid : single_said Tryz.prog 247 := fun c w => by
  obtain ⟨cd, hb⟩ := siBody
  have hlt : c.toNat < 256 := c.toNat_lt
  refine (calls_of_ck nameOK (run_sound follows nameOK hk0ok 100000) (fn := Tryz.f247) (by kernel_rfl) hb (args := .cons (.i .u8 (Int.ofNat c.toNat)) .nil) (vs := [.int .u8 c.toNat]) (fun ρ => by simp only [VRs]; exact ⟨_, _, rfl, by simp only [VR]; rfl, rfl⟩) (allN_spec single_run c.toNat hlt)
    (φ := fun v => ∃ a1 a2 a3 a4 : Nat, v = .agg #[.bool false, .int .u64 a1, .int .u64 a2, .int .u64 a3, .int .u64 a4, .bool true, .int .u8 c.toNat, .bool false]) (fun ρ' y v h' nx' hk hv => ?_) w).mono fun e w' ⟨v, h1, ⟨a1, a2, a3, a4, h2⟩, h3⟩ => ⟨a1, a2, a3, a4, by rw [h1, h2], below_staysW h3⟩
  obtain ⟨c1, c2, c3, c4, _, _, _, _, rfl⟩ := isSingle4_spec hk hv
  exact ⟨c1, c2, c3, c4, rfl⟩
theorem noSp_of {s : ByteArray} (h : ∀ x ∈ s.data.toList, (([42, 63, 91, 92] : List Nat).map UInt8.ofNat).contains x = false) : noSp s := fun c hc => by
  have h1 := h c hc
  simp only [List.map_cons, List.map_nil, List.contains_cons, List.contains_nil, Bool.or_false, Bool.or_eq_false_iff, beq_eq_false_iff_ne] at h1
  obtain ⟨a1, a2, a3, a4⟩ := h1
  refine ⟨fun e => a1 ?_, fun e => a2 ?_, fun e => a3 ?_, fun e => a4 ?_⟩ <;> exact UInt8.toNat_inj.1 (by rw [e]; rfl)
theorem four : ∀ n ∈ ([42, 63, 91, 92] : List Nat), n < 256 := by decide
theorem quOk : HookOk Tryz.prog 12 206 (hkKeepS [42, 63, 91, 92] false (hkRun R0 206)) := by
  obtain ⟨c, hb⟩ := quBody
  exact hkKeepS_ok nameOK (fn := Tryz.f206) (by kernel_rfl) hb (hkRun_ok r0) four fun s w h1 h2 => (quote_any s w h1 (noSp_of h2)).mono fun e w' h => ⟨h.1, stays_belowW h.2⟩
theorem plaOk : HookOk Tryz.prog 12 162 (hkKeepS [42, 63, 91, 92] true (hkRun R0 162)) := by
  obtain ⟨c, hb⟩ := plBody
  exact hkKeepS_ok nameOK (fn := Tryz.f162) (by kernel_rfl) hb (hkRun_ok r0) four fun s w h1 h2 => (plain_any singleSaid s w h1 (noSp_of h2)).mono fun e w' h => ⟨h.1, stays_belowW h.2⟩
def hkW : List (Nat × HookF) := (280, hkTrimRB (hkRun R0 280)) :: (206, hkKeepS [42, 63, 91, 92] false (hkRun R0 206)) :: (162, hkKeepS [42, 63, 91, 92] true (hkRun R0 162)) :: hkF
theorem hkWok : HKok Tryz.prog 12 (hkL hkW) := hkL_cons tbOk (hkL_cons quOk (hkL_cons plaOk hkFok))
end
end Go.Proofs.YtcmnkndbcecbiaaGreatDoor
