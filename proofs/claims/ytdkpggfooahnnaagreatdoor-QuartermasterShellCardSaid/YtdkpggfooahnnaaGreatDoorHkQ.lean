/-
  Digits, Trim of digits and Itoa at numbers of which the digits are bytes. No condition.
-/
import Derived.Test.YtdkpggfooahnnaaGreatDoorHkF
import Derived.Test.YtdkpggfooahnnaaGreatDoorDgW
import Derived.Test.YtdkpggfooahnnaaGreatDoorXMxAK
import Derived.Test.YtdkpggfooahnnaaGreatDoorXMxAQ
open Go Go.Mx Go.Lib Go.RowKit Go.Shelf
namespace Go.Proofs.YtdkpggfooahnnaaGreatDoor
set_option maxRecDepth 1000000
noncomputable section
theorem stays_same (w : World) : Stays w w := ⟨Nat.le_refl _, rfl, rfl, rfl, fun _ _ => rfl⟩
theorem stays_below {w w' : World} (h : Below w.heap.size w w') : Stays w w' := ⟨h.size, h.os, h.tape, h.output, h.block⟩
theorem dgBody : ∃ c, Tryz.f16.body = some c := ⟨_, rfl⟩
theorem trBody : ∃ c, Tryz.f56.body = some c := ⟨_, rfl⟩
theorem dg_calls (n : Int) (w : World) (h1 : 0 ≤ n) (h2 : n ≤ 9223372036854775807) : Calls Tryz.prog 16 #[.int .i64 n] w fun e w' => e = .returned (.string ⟨(Lib.itoa n).toArray⟩) ∧ Stays w w' := by
  obtain ⟨m, rfl⟩ := Int.eq_ofNat_of_zero_le h1
  exact (digits_any m h2 w).mono fun e w' h => ⟨h.1.trans (congrArg (fun x => Ending.returned (.string x)) (itoaS_pos m).symm), by rw [h.2]; exact stays_same w⟩
theorem dec10 : ∀ (j : Nat) b, ({ data := #[48, 49, 50, 51, 52, 53, 54, 55, 56, 57] } : ByteArray).data.toList[j]? = some b → b.toNat < 128 := ascii_of_all (by decide)
theorem h116 : (Tryz.prog.info? (Tryz.lays160_ren.t 116)).map (fun i => (i.zero, i.size)) = some (some (.agg (Array.replicate 256 (.bool false))), 256) := by kernel_rfl
theorem trim_calls (x : ByteArray) (w : World) (hx : x.size ≤ 1000) (hd : ∀ b ∈ x.data.toList, 48 ≤ b.toNat ∧ b.toNat ≤ 57) : Calls Tryz.prog 56 #[.string x, .string ⟨#[48, 49, 50, 51, 52, 53, 54, 55, 56, 57]⟩] w fun e w' => e = .returned (.string ⟨#[]⟩) ∧ Stays w w' :=
  (Any.strings_Trim_laid Tryz.lays160 h116 x ⟨#[48, 49, 50, 51, 52, 53, 54, 55, 56, 57]⟩ w (by omega) (by decide) dec10).mono fun e w' h => ⟨h.1.trans (by
    have : Lib.trimS x.data.toList (⟨#[48, 49, 50, 51, 52, 53, 54, 55, 56, 57]⟩ : ByteArray).data.toList = [] := Mx.trimS_all fun b hb => Mx.dig_in (hd b hb)
    rw [this]), stays_below h.2⟩
theorem c56 : HookOk Tryz.prog 12 56 (hkTrimDigE (hkRun R0 56)) := by
  obtain ⟨c, hb⟩ := trBody
  exact hkTrimDigE_ok (hkRun_ok r0) (hkTrimDig_ok nameOK (fn := Tryz.f56) (by kernel_rfl) hb trim_calls)
theorem it256 (τ : Nat → Nat) : allN 256 (fun n => mkTK τ tbl .leaf (fun h0 => R0 18 (.cons (.i .i64 (Int.ofNat n)) .nil) h0 12 (fun v _ _ => isDg n v) (fun _ _ _ => false))) = true := by kernel_rfl
def hkS0 : List (Nat × HookF) := hkF
theorem hkS0ok : HKok Tryz.prog 12 (hkL hkS0) := hkFok
def hkI1 : HookF := hkDigF tbl (.cons (.o 6 oneV 0 0 48) (.cons (.x 18 .u8 49 57) .nil)) (.cons (.x 18 .u8 49 57) .nil) (hkRun R0 18)
theorem i1 : HookOk Tryz.prog 12 18 hkI1 := hkDigF_ok r0 (hkRun_ok r0) tblIn (fun ρ n h => have h' := (Mx.dig_one 18) ρ n (rot1 h); ⟨h'.1, Int.le_trans (le_t1 (rot1 h)) (by decide), h'.2.2⟩) it256
theorem d1 : HookOk Tryz.prog 12 16 (hkOrO (hkDig (t1V 18 49 57 0 48) (.cons (.x 18 .u8 49 57) .nil)) (hkRun R0 16)) := by
  obtain ⟨c, hb⟩ := dgBody
  exact hkOrO_ok (hkDig_ok nameOK (fn := Tryz.f16) (by kernel_rfl) hb (Mx.dig_one 18) dg_calls) (hkRun_ok r0)
def hkS1 : List (Nat × HookF) := (16, hkOrO (hkDig (t1V 18 49 57 0 48) (.cons (.x 18 .u8 49 57) .nil)) (hkRun R0 16)) :: (56, hkTrimDigE (hkRun R0 56)) :: (18, hkI1) :: hkF
theorem hkS1ok : HKok Tryz.prog 12 (hkL hkS1) := hkL_cons d1 (hkL_cons c56 (hkL_cons i1 hkFok))
def hkI2 : HookF := hkDigF tbl (.cons (.o 6 oneV 0 0 528) (.cons (.o 6 (.x 18 .u8 49 57) 0 10 0) (.cons (.x 19 .u8 48 57) .nil))) (.cons (.x 18 .u8 49 57) (.cons (.x 19 .u8 48 57) .nil)) (hkRun R0 18)
theorem i2 : HookOk Tryz.prog 12 18 hkI2 := hkDigF_ok r0 (hkRun_ok r0) tblIn (fun ρ n h => have h' := (Mx.dig_two 18 19) ρ n (rot2 h); ⟨h'.1, Int.le_trans (le_t2 (rot2 h)) (by decide), h'.2.2⟩) it256
theorem d2 : HookOk Tryz.prog 12 16 (hkOrO (hkDig (t2V 18 49 57 19 48 57 0 528) (.cons (.x 18 .u8 49 57) (.cons (.x 19 .u8 48 57) .nil))) (hkRun R0 16)) := by
  obtain ⟨c, hb⟩ := dgBody
  exact hkOrO_ok (hkDig_ok nameOK (fn := Tryz.f16) (by kernel_rfl) hb (Mx.dig_two 18 19) dg_calls) (hkRun_ok r0)
def hkS2 : List (Nat × HookF) := (16, hkOrO (hkDig (t2V 18 49 57 19 48 57 0 528) (.cons (.x 18 .u8 49 57) (.cons (.x 19 .u8 48 57) .nil))) (hkRun R0 16)) :: (56, hkTrimDigE (hkRun R0 56)) :: (18, hkI2) :: hkF
theorem hkS2ok : HKok Tryz.prog 12 (hkL hkS2) := hkL_cons d2 (hkL_cons c56 (hkL_cons i2 hkFok))
def hkI3 : HookF := hkDigF tbl (.cons (.o 6 oneV 0 0 428) (.cons (.o 6 (.x 18 .u8 48 57) 0 10 0) (.cons (.x 19 .u8 48 57) .nil))) (.cons (.i .u8 (Int.ofNat (48 + 1))) (.cons (.x 18 .u8 48 57) (.cons (.x 19 .u8 48 57) .nil))) (hkRun R0 18)
theorem i3 : HookOk Tryz.prog 12 18 hkI3 := hkDigF_ok r0 (hkRun_ok r0) tblIn (fun ρ n h => have h' := (Mx.dig_three 1 18 19 48 57 428 (by decide) (by decide) (by decide) (by decide) (by decide)) ρ n (rot2 h); ⟨h'.1, Int.le_trans (le_t2 (rot2 h)) (by decide), h'.2.2⟩) it256
theorem d3 : HookOk Tryz.prog 12 16 (hkOrO (hkDig (t2V 18 48 57 19 48 57 0 428) (.cons (.i .u8 (Int.ofNat (48 + 1))) (.cons (.x 18 .u8 48 57) (.cons (.x 19 .u8 48 57) .nil)))) (hkRun R0 16)) := by
  obtain ⟨c, hb⟩ := dgBody
  exact hkOrO_ok (hkDig_ok nameOK (fn := Tryz.f16) (by kernel_rfl) hb (Mx.dig_three 1 18 19 48 57 428 (by decide) (by decide) (by decide) (by decide) (by decide)) dg_calls) (hkRun_ok r0)
def hkS3 : List (Nat × HookF) := (16, hkOrO (hkDig (t2V 18 48 57 19 48 57 0 428) (.cons (.i .u8 (Int.ofNat (48 + 1))) (.cons (.x 18 .u8 48 57) (.cons (.x 19 .u8 48 57) .nil)))) (hkRun R0 16)) :: (56, hkTrimDigE (hkRun R0 56)) :: (18, hkI3) :: hkF
theorem hkS3ok : HKok Tryz.prog 12 (hkL hkS3) := hkL_cons d3 (hkL_cons c56 (hkL_cons i3 hkFok))
def hkI4 : HookF := hkDigF tbl (.cons (.o 6 oneV 0 0 328) (.cons (.o 6 (.x 18 .u8 48 52) 0 10 0) (.cons (.x 19 .u8 48 57) .nil))) (.cons (.i .u8 (Int.ofNat (48 + 2))) (.cons (.x 18 .u8 48 52) (.cons (.x 19 .u8 48 57) .nil))) (hkRun R0 18)
theorem i4 : HookOk Tryz.prog 12 18 hkI4 := hkDigF_ok r0 (hkRun_ok r0) tblIn (fun ρ n h => have h' := (Mx.dig_three 2 18 19 48 52 328 (by decide) (by decide) (by decide) (by decide) (by decide)) ρ n (rot2 h); ⟨h'.1, Int.le_trans (le_t2 (rot2 h)) (by decide), h'.2.2⟩) it256
theorem d4 : HookOk Tryz.prog 12 16 (hkOrO (hkDig (t2V 18 48 52 19 48 57 0 328) (.cons (.i .u8 (Int.ofNat (48 + 2))) (.cons (.x 18 .u8 48 52) (.cons (.x 19 .u8 48 57) .nil)))) (hkRun R0 16)) := by
  obtain ⟨c, hb⟩ := dgBody
  exact hkOrO_ok (hkDig_ok nameOK (fn := Tryz.f16) (by kernel_rfl) hb (Mx.dig_three 2 18 19 48 52 328 (by decide) (by decide) (by decide) (by decide) (by decide)) dg_calls) (hkRun_ok r0)
def hkS4 : List (Nat × HookF) := (16, hkOrO (hkDig (t2V 18 48 52 19 48 57 0 328) (.cons (.i .u8 (Int.ofNat (48 + 2))) (.cons (.x 18 .u8 48 52) (.cons (.x 19 .u8 48 57) .nil)))) (hkRun R0 16)) :: (56, hkTrimDigE (hkRun R0 56)) :: (18, hkI4) :: hkF
theorem hkS4ok : HKok Tryz.prog 12 (hkL hkS4) := hkL_cons d4 (hkL_cons c56 (hkL_cons i4 hkFok))
def hkI5 : HookF := hkDigF tbl (.cons (.o 6 oneV 0 202 0) (.cons (.x 18 .u8 48 53) .nil)) (.cons (.i .u8 50) (.cons (.i .u8 53) (.cons (.x 18 .u8 48 53) .nil))) (hkRun R0 18)
theorem i5 : HookOk Tryz.prog 12 18 hkI5 := hkDigF_ok r0 (hkRun_ok r0) tblIn (fun ρ n h => have h' := (Mx.dig_last 18) ρ n (rot1 h); ⟨h'.1, Int.le_trans (le_t1 (rot1 h)) (by decide), h'.2.2⟩) it256
theorem d5 : HookOk Tryz.prog 12 16 (hkOrO (hkDig (t1V 18 48 53 202 0) (.cons (.i .u8 50) (.cons (.i .u8 53) (.cons (.x 18 .u8 48 53) .nil)))) (hkRun R0 16)) := by
  obtain ⟨c, hb⟩ := dgBody
  exact hkOrO_ok (hkDig_ok nameOK (fn := Tryz.f16) (by kernel_rfl) hb (Mx.dig_last 18) dg_calls) (hkRun_ok r0)
def hkS5 : List (Nat × HookF) := (16, hkOrO (hkDig (t1V 18 48 53 202 0) (.cons (.i .u8 50) (.cons (.i .u8 53) (.cons (.x 18 .u8 48 53) .nil)))) (hkRun R0 16)) :: (56, hkTrimDigE (hkRun R0 56)) :: (18, hkI5) :: hkF
theorem hkS5ok : HKok Tryz.prog 12 (hkL hkS5) := hkL_cons d5 (hkL_cons c56 (hkL_cons i5 hkFok))
end
end Go.Proofs.YtdkpggfooahnnaaGreatDoor
