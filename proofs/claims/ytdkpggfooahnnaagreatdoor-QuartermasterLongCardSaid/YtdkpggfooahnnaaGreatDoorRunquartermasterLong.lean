/-
  What the functions that Play calls tell, by runs and by walks, and the law of every two numbers. No condition.
-/
import Derived.Test.YtdkpggfooahnnaaGreatDoorLgW
import Derived.Test.YtdkpggfooahnnaaGreatDoorXMxAN
import Derived.Shelf.Vars
open Go Go.Mx Go.RowKit
namespace Go.Proofs.YtdkpggfooahnnaaGreatDoor
set_option maxRecDepth 1000000
noncomputable section
theorem al_fn : Tryz.prog.funcs[6]? = some Tryz.f6 := by kernel_rfl
theorem al_body : ∃ c, Tryz.f6.body = some c := ⟨_, rfl⟩
theorem lg_alive {W : World} (tab : HasTables tbl W) : Calls Tryz.prog 6 #[] W fun e W' => e = .returned (.bool true) ∧ Below W.heap.size W W' := by
  obtain ⟨c, hb⟩ := al_body
  exact (top_run follows nameOK hk1ok al_fn hb tblIn (args := .nil) (vs := []) (by simp only [VRs]) alive6 tab).mono fun e W' h => ⟨h.1, below_stays h.2⟩
def isPt : V → Bool
  | .p _ _ => true
  | _ => false
theorem isPt_spec {ρ : Ren} {y : V} {v : Value} (h : isPt y = true) (hv : VR ρ y v) : ∃ a, v = .pointer (some a) := by
  cases y <;> first | exact Bool.noConfusion h | skip
  simp only [VR] at hv
  obtain ⟨L, _, h2⟩ := hv
  exact ⟨_, h2⟩
theorem rN : CKok Tryz.prog 12 (run Tryz.prog 12 (hkL hk0) 100000) := run_sound follows nameOK hk0ok 100000
theorem nw_fn : Tryz.prog.funcs[12]? = some Tryz.f12 := by kernel_rfl
theorem nw_body : ∃ c, Tryz.f12.body = some c := ⟨_, rfl⟩
theorem nw_run : run Tryz.prog 12 (hkL hk0) 100000 12 (.cons (.i .i64 (Int.ofNat 200)) (.cons (.i .i64 (Int.ofNat 20000)) .nil)) .leaf 12 (fun y _ _ => isPt y) (fun _ _ _ => false) = true := by kernel_rfl
theorem nw_said : NewSaid Tryz.prog 12 := by
  intro W
  obtain ⟨c, hb⟩ := nw_body
  refine (calls_of_ck nameOK rN nw_fn hb (vs := [.int .i64 200, .int .i64 20000]) (φ := fun v => ∃ a, v = .pointer (some a)) (fun ρ => ?_) nw_run (fun ρ' y v h' nx' hk hv => isPt_spec hk hv) W).mono ?_
  · simp only [VRs]
    exact ⟨_, _, rfl, VRi _ _ _, _, _, rfl, VRi _ _ _, rfl⟩
  · rintro e W' ⟨v, rfl, ⟨a, rfl⟩, hs⟩
    exact ⟨⟨a, rfl⟩, below_stays hs⟩
theorem cm_fn : Tryz.prog.funcs[13]? = some Tryz.f13 := by kernel_rfl
theorem cm_body : ∃ c, Tryz.f13.body = some c := ⟨_, rfl⟩
theorem cm_run : run Tryz.prog 12 (hkL hk0) 100000 13 .nil .leaf 12 (fun _ _ _ => true) (fun _ _ _ => false) = true := by kernel_rfl
theorem cm_said : CmdSaid Tryz.prog 13 := by
  intro W
  obtain ⟨c, hb⟩ := cm_body
  refine (calls_of_ck nameOK rN cm_fn hb (vs := []) (φ := fun _ => True) (fun ρ => by simp only [VRs]) cm_run (fun _ _ _ _ _ _ _ => trivial) W).mono ?_
  rintro e W' ⟨v, rfl, _, hs⟩
  exact ⟨⟨v, rfl⟩, below_stays hs⟩
theorem de_fn : Tryz.prog.funcs[11]? = some Tryz.f11 := by kernel_rfl
theorem de_body : ∃ c, Tryz.f11.body = some c := ⟨_, rfl⟩
theorem de_run : run Tryz.prog 12 (hkL hk0) 100000 11 (.cons (.i .i64 (Int.ofNat 3)) .nil) .leaf 12 (fun y _ _ => sameV y (.s [51])) (fun _ _ _ => false) = true := by kernel_rfl
theorem de_said : DecSaid Tryz.prog 11 := by
  intro W
  obtain ⟨c, hb⟩ := de_body
  refine (calls_of_ck nameOK rN de_fn hb (vs := [.int .i64 3]) (φ := fun v => v = .string ⟨#[51]⟩) (fun ρ => ?_) de_run (fun ρ' y v h' nx' hk hv => ?_) W).mono ?_
  · simp only [VRs]
    exact ⟨_, _, rfl, VRi _ _ _, rfl⟩
  · have e := sameV_eq hk
    subst e
    simp only [VR] at hv
    rw [hv.1]
    rfl
  · rintro e W' ⟨v, rfl, rfl, hs⟩
    exact ⟨rfl, below_stays hs⟩
theorem mlCell {W : World} (h : W.ShapedOpen Tryz.prog) : ∃ x, W.cell? ⟨0, 0, none⟩ = some (.int .i64 x) :=
  cell_of_shapedOpen_int (t := 3) (zero := #[.int .i64 0]) h (of_decide_eq_true (by kernel_rfl)) (by kernel_rfl) rfl (by kernel_rfl) (by kernel_rfl) (by kernel_rfl)
theorem lg_calls (n0 n1 : Int) {W : World} (tab : HasTables tbl W) (hm : ∃ x, W.cell? ⟨0, 0, none⟩ = some (.int .i64 x)) : Calls Tryz.prog 3 #[.int .i64 n0, .int .i64 n1] W fun e W' => e = .returned (.bool true) ∧ Stays W W' :=
  long_any de_said nw_said cm_said n0 n1 (lg_alive tab) hm
end
end Go.Proofs.YtdkpggfooahnnaaGreatDoor
