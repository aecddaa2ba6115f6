/-
  A byte that is not known is added to a set. No condition.
-/
import Derived.Test.YtcmnkndbcecbiaaGreatDoorHkC
import Derived.Test.YtcmnkndbcecbiaaGreatDoorAdW
open Go Go.Mx Go.Lib Go.RowKit Go.Shelf
namespace Go.Proofs.YtcmnkndbcecbiaaGreatDoor
set_option maxRecDepth 1000000
noncomputable section
theorem adBody : ∃ c, Tryz.f245.body = some c := ⟨_, rfl⟩
theorem adOk : HookOk Tryz.prog 12 245 (hkAdd (hkRun R0 245)) := by
  obtain ⟨c, hb⟩ := adBody
  exact hkAdd_ok nameOK (fn := Tryz.f245) (by kernel_rfl) hb (hkRun_ok r0) add_said
def hkA : List (Nat × HookF) := (245, hkAdd (hkRun R0 245)) :: hkP
theorem hkAok : HKok Tryz.prog 12 (hkL hkA) := hkL_cons adOk hkPok
def RA : CK := run Tryz.prog 12 (hkL hkA) 100000
theorem ra : CKok Tryz.prog 12 RA := run_sound follows nameOK hkAok 100000
def ansP : V := .t (.cons (.s []) (.cons (.b false) .nil))
def tjR (fo n : Nat) (τ : Nat → Nat) : Bool := mkTK τ tbl (putO (tokO 12 97 122 n [120, 61] (some fo) 103) .leaf) (fun h0 => R0 50 (.cons (.p 12 0) .nil) h0 (12 + 3 + n) (tokK 12 97 122 n [120, 61] (some fo) 103 160) (fun _ _ _ => false))
def bpR (n : Nat) (τ : Nat → Nat) : Bool := mkTK τ tbl .leaf (fun h0 => RA 162 (.cons (.w (brkV 97 122 n 12)) .nil) h0 (12 + n) (fun v _ _ => sameV v ansP) (fun _ _ _ => false))
def bnR (n : Nat) (τ : Nat → Nat) : Bool := mkTK τ tbl .leaf (fun h0 => RA 249 (.cons (.w (brkV 97 122 n 12)) (.cons .sn .nil)) h0 (12 + n) (fun v _ _ => sameV v .sn) (fun _ _ _ => false))
end
end Go.Proofs.YtcmnkndbcecbiaaGreatDoor
