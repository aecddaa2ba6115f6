/-
  The runs of execShells: at every input. No condition.
-/
import Derived.Test.YtnpdmljafaolpaaGreatDoorRunexecShells0
import Derived.Test.YtnpdmljafaolpaaGreatDoorRunexecShells1
import Derived.Test.YtnpdmljafaolpaaGreatDoorRunexecShells2
import Derived.Test.YtnpdmljafaolpaaGreatDoorRunexecShells3
import Derived.Test.YtnpdmljafaolpaaGreatDoorRunexecShells4
import Derived.Test.YtnpdmljafaolpaaGreatDoorRunexecShells5
import Derived.Test.YtnpdmljafaolpaaGreatDoorRunexecShells6
open Go Go.Mx
namespace Go.Proofs.YtnpdmljafaolpaaGreatDoor
set_option maxRecDepth 1000000
noncomputable section
theorem xh_fn : Tryz.prog.funcs[3]? = some Tryz.f3 := by kernel_rfl
theorem xh_body : ∃ c, Tryz.f3.body = some c := ⟨_, rfl⟩
theorem xh_all : ∀ (t : Nat) (g : Bool), t < 6 → ∀ τ, xhRun τ (.cons (formW M 97 122 58 60 12 t) (.cons (.b g) .nil)) (12 + 3) = true
  | 0, true, _ => xh_0t
  | 0, false, _ => xh_0f
  | 1, true, _ => xh_1t
  | 1, false, _ => xh_1f
  | 2, true, _ => xh_2t
  | 2, false, _ => xh_2f
  | 3, true, _ => xh_3t
  | 3, false, _ => xh_3f
  | 4, true, _ => xh_4t
  | 4, false, _ => xh_4f
  | 5, true, _ => xh_5t
  | 5, false, _ => xh_5f
  | t + 6, _, h => absurd h (by omega)
theorem rF : CKok Tryz.prog 12 (runL Tryz.prog 12 (hkL hkF) lk 100000) := runL_sound follows nameOK hkFok 100000
theorem xh_calls (s : ByteArray) (hz : s.size ≤ maxLen) (g : Bool) {W : World} (tab : HasTables tbl W) : Calls Tryz.prog 3 #[.string s, .bool g] W fun e W' => e = .returned (.bool true) ∧ Stays W W' := by
  obtain ⟨cd, hb⟩ := xh_body
  have hz1 : s.size ≤ 9223372036854775807 := hz
  obtain ⟨t, ht, ρ, hρ, hv⟩ := text_caseW (M := M) (lo := 97) (hi := 122) (B1 := 58) (B := 60) mOut 12 s hz1
  exact top_run_k nameOK rF xh_fn hb tblIn (ob := []) (ρa := ρ) (nx := 12 + 3) (by omega) (fun i L h => by have := hρ i L h; omega) (fun i hi => by rw [show putO [] (.leaf : T O) = .leaf from rfl, gt_leaf] at hi; exact hi.elim)
    (args := .cons (formW M 97 122 58 60 12 t) (.cons (.b g) .nil)) (by simp only [VRs]; exact ⟨_, _, rfl, hv, _, _, rfl, VRb _ _, rfl⟩) (xh_all t g ht) tab
end
end Go.Proofs.YtnpdmljafaolpaaGreatDoor
