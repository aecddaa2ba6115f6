/-
  What (*glob.set).has tells.
-/
import Derived.Test.YtbkilngeedbkpaaGreatDoorProg
import Derived.Test.YtbkilngeedbkpaaGreatDoorXMxAT
import Derived.WalkKit
import Derived.WalkSpells
import Derived.StillTactics
import Derived.LoopIn
import Derived.RowKit3
import Derived.Below
open Go Go.Mx Go.RowKit
namespace Go.Proofs.YtbkilngeedbkpaaGreatDoor
theorem and63b : ∀ n : Fin 256, bits BinOp.and IntKind.u8 (n.val : Int) 63 = ((n.val % 64 : Nat) : Int) := by decide +kernel
set_option maxHeartbeats 1600000 in
set_option maxRecDepth 100000 in
theorem has_at (b o n i m : Nat) (w : World) (h1 : 64 * i ≤ n) (h2 : n < 64 * i + 64) (h3 : i < 4) (hc : w.cell? ⟨b, o + i, none⟩ = some (.int .u64 (m : Int))) :
    Calls Tryz.prog 478 #[.pointer (some ⟨b, o, none⟩), .int .u8 (n : Int)] w fun e w' => ∃ t : Bool, e = .returned (.bool t) ∧ w' = w := by
  have e1 : (n : Int) / 64 = (i : Int) := by omega
  have e2 : (i : Int) < 4 := by omega
  have e3 : bits BinOp.and IntKind.u8 (n : Int) 63 = ((n % 64 : Nat) : Int) := and63b ⟨n, by omega⟩
  obtain ⟨d, hd⟩ : ∃ d, d = n % 64 := ⟨_, rfl⟩
  rw [← hd] at e3
  have hd64 : d < 64 := by omega
  clear hd
  go_enter Tryz.func478, Tryz.ntmps478
  go_wp2
  go_ret
  exact ⟨_, rfl, rfl⟩
theorem has_said : HasSaid Tryz.prog 478 := by
  intro b o arr ty fz w n m hh hlt hm
  have h3 : n / 64 < 4 := by omega
  refine has_at b o n (n / 64) (m (n / 64)) w (by omega) (by omega) h3 ?_
  rw [show w.cell? ⟨b, o + n / 64, none⟩ = arr[o + n / 64]? by unfold World.cell?; simp [hh]]
  exact (hm _ h3).1
end Go.Proofs.YtbkilngeedbkpaaGreatDoor
