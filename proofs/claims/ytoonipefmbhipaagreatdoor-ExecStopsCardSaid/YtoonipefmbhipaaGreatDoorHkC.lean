/-
  Digits and a trim of digits are met by their contracts. No condition.
-/
import Derived.Test.YtoonipefmbhipaaGreatDoorHk
import Derived.Test.YtoonipefmbhipaaGreatDoorXMxX
import Derived.Test.YtoonipefmbhipaaGreatDoorDgW
open Go Go.Mx Go.Lib Go.RowKit Go.Shelf
namespace Go.Proofs.YtoonipefmbhipaaGreatDoor
set_option maxRecDepth 1000000
noncomputable section
theorem stays_same (w : World) : Stays w w := ⟨Nat.le_refl _, rfl, rfl, rfl, fun _ _ => rfl⟩
theorem stays_below {w w' : World} (h : Below w.heap.size w w') : Stays w w' := ⟨h.size, h.os, h.tape, h.output, h.block⟩
theorem dgBody : ∃ c, Tryz.f5.body = some c := ⟨_, rfl⟩
theorem trBody : ∃ c, Tryz.f300.body = some c := ⟨_, rfl⟩
theorem dg_calls (n : Int) (w : World) (h1 : 0 ≤ n) (h2 : n ≤ 9223372036854775807) : Calls Tryz.prog 5 #[.int .i64 n] w fun e w' => e = .returned (.string ⟨(Lib.itoa n).toArray⟩) ∧ Stays w w' := by
  obtain ⟨m, rfl⟩ := Int.eq_ofNat_of_zero_le h1
  exact (digits_any m h2 w).mono fun e w' h => ⟨h.1.trans (congrArg (fun x => Ending.returned (.string x)) (itoaS_pos m).symm), by rw [h.2]; exact stays_same w⟩
theorem c5 : HookOk Tryz.prog 12 5 (hkDec 0) := by
  obtain ⟨c, hb⟩ := dgBody
  exact hkDec_ok nameOK (by decide) (fn := Tryz.f5) (by kernel_rfl) hb fun n w h1 h2 => dg_calls n w h1 h2
theorem dec10 : ∀ (j : Nat) b, ({ data := #[48, 49, 50, 51, 52, 53, 54, 55, 56, 57] } : ByteArray).data.toList[j]? = some b → b.toNat < 128 := ascii_of_all (by decide)
theorem h116 : (Tryz.prog.info? (Tryz.lays160_ren.t 116)).map (fun i => (i.zero, i.size)) = some (some (.agg (Array.replicate 256 (.bool false))), 256) := by kernel_rfl
theorem trim_calls (x : ByteArray) (w : World) (hx : x.size ≤ 1000) (hd : ∀ b ∈ x.data.toList, 48 ≤ b.toNat ∧ b.toNat ≤ 57) : Calls Tryz.prog 300 #[.string x, .string ⟨#[48, 49, 50, 51, 52, 53, 54, 55, 56, 57]⟩] w fun e w' => e = .returned (.string ⟨#[]⟩) ∧ Stays w w' :=
  (Any.strings_Trim_laid Tryz.lays160 h116 x ⟨#[48, 49, 50, 51, 52, 53, 54, 55, 56, 57]⟩ w (by omega) (by decide) dec10).mono fun e w' h => ⟨h.1.trans (by
    have : Lib.trimS x.data.toList (⟨#[48, 49, 50, 51, 52, 53, 54, 55, 56, 57]⟩ : ByteArray).data.toList = [] := Mx.trimS_all fun b hb => Mx.dig_in (hd b hb)
    rw [this]), stays_below h.2⟩
theorem c300 : HookOk Tryz.prog 12 300 hkTrimDig := by
  obtain ⟨c, hb⟩ := trBody
  exact hkTrimDig_ok nameOK (fn := Tryz.f300) (by kernel_rfl) hb trim_calls
def hkC0 : List (Nat × HookF) := (5, hkDec 0) :: hkB
theorem hkC0ok : HKok Tryz.prog 12 (hkL hkC0) := hkL_cons c5 hkBok
theorem d1 : HookOk Tryz.prog 12 5 (hkDig (t1V 12 49 57 0 48) (.cons (.x 12 .u8 49 57) .nil)) := by
  obtain ⟨c, hb⟩ := dgBody
  exact hkDig_ok nameOK (fn := Tryz.f5) (by kernel_rfl) hb (Mx.dig_one 12) dg_calls
def hkC1 : List (Nat × HookF) := (5, hkDig (t1V 12 49 57 0 48) (.cons (.x 12 .u8 49 57) .nil)) :: (300, hkTrimDig) :: hkB
theorem hkC1ok : HKok Tryz.prog 12 (hkL hkC1) := hkL_cons d1 (hkL_cons c300 hkBok)
theorem d2 : HookOk Tryz.prog 12 5 (hkDig (t2V 12 49 57 13 48 57 0 528) (.cons (.x 12 .u8 49 57) (.cons (.x 13 .u8 48 57) .nil))) := by
  obtain ⟨c, hb⟩ := dgBody
  exact hkDig_ok nameOK (fn := Tryz.f5) (by kernel_rfl) hb (Mx.dig_two 12 13) dg_calls
def hkC2 : List (Nat × HookF) := (5, hkDig (t2V 12 49 57 13 48 57 0 528) (.cons (.x 12 .u8 49 57) (.cons (.x 13 .u8 48 57) .nil))) :: (300, hkTrimDig) :: hkB
theorem hkC2ok : HKok Tryz.prog 12 (hkL hkC2) := hkL_cons d2 (hkL_cons c300 hkBok)
theorem d3 : HookOk Tryz.prog 12 5 (hkDig (t2V 12 48 57 13 48 57 0 428) (.cons (.i .u8 (Int.ofNat (48 + 1))) (.cons (.x 12 .u8 48 57) (.cons (.x 13 .u8 48 57) .nil)))) := by
  obtain ⟨c, hb⟩ := dgBody
  exact hkDig_ok nameOK (fn := Tryz.f5) (by kernel_rfl) hb (Mx.dig_three 1 12 13 48 57 428 (by decide) (by decide) (by decide) (by decide) (by decide)) dg_calls
def hkC3 : List (Nat × HookF) := (5, hkDig (t2V 12 48 57 13 48 57 0 428) (.cons (.i .u8 (Int.ofNat (48 + 1))) (.cons (.x 12 .u8 48 57) (.cons (.x 13 .u8 48 57) .nil)))) :: (300, hkTrimDig) :: hkB
theorem hkC3ok : HKok Tryz.prog 12 (hkL hkC3) := hkL_cons d3 (hkL_cons c300 hkBok)
theorem d4 : HookOk Tryz.prog 12 5 (hkDig (t2V 12 48 52 13 48 57 0 328) (.cons (.i .u8 (Int.ofNat (48 + 2))) (.cons (.x 12 .u8 48 52) (.cons (.x 13 .u8 48 57) .nil)))) := by
  obtain ⟨c, hb⟩ := dgBody
  exact hkDig_ok nameOK (fn := Tryz.f5) (by kernel_rfl) hb (Mx.dig_three 2 12 13 48 52 328 (by decide) (by decide) (by decide) (by decide) (by decide)) dg_calls
def hkC4 : List (Nat × HookF) := (5, hkDig (t2V 12 48 52 13 48 57 0 328) (.cons (.i .u8 (Int.ofNat (48 + 2))) (.cons (.x 12 .u8 48 52) (.cons (.x 13 .u8 48 57) .nil)))) :: (300, hkTrimDig) :: hkB
theorem hkC4ok : HKok Tryz.prog 12 (hkL hkC4) := hkL_cons d4 (hkL_cons c300 hkBok)
theorem d5 : HookOk Tryz.prog 12 5 (hkDig (t1V 12 48 53 202 0) (.cons (.i .u8 50) (.cons (.i .u8 53) (.cons (.x 12 .u8 48 53) .nil)))) := by
  obtain ⟨c, hb⟩ := dgBody
  exact hkDig_ok nameOK (fn := Tryz.f5) (by kernel_rfl) hb (Mx.dig_last 12) dg_calls
def hkC5 : List (Nat × HookF) := (5, hkDig (t1V 12 48 53 202 0) (.cons (.i .u8 50) (.cons (.i .u8 53) (.cons (.x 12 .u8 48 53) .nil)))) :: (300, hkTrimDig) :: hkB
theorem hkC5ok : HKok Tryz.prog 12 (hkL hkC5) := hkL_cons d5 (hkL_cons c300 hkBok)
end
end Go.Proofs.YtoonipefmbhipaaGreatDoor
