/-
  The row of buildFails: for every input the law returns true.
-/
import Derived.Test.YtbkilngeedbkpaaGreatDoorRunbuildFails
import Derived.Test.YtbkilngeedbkpaaGreatDoorXRowK6
import Derived.OpenShut
import Derived.Carry
import Derived.Lay
import Derived.Test.YtbkilngeedbkpaaGreatDoorRowbuildFailsA
open Go Go.Mx Go.ChangeShapes Go.WideShapes Go.RowKit
namespace Go.Proofs.YtbkilngeedbkpaaGreatDoor
set_option maxRecDepth 1000000
noncomputable section
theorem buildFails_lifted (os : Os) (started : os.Started) (H : Type) (enc : TypeId × Value → H) :
    ReturnsInHanded {} Tryz.checked os 5 .any (fun w args => (Rows.buildFailsSpec.pre enc Tryz.prog Tryz.f5 Rows.buildFailsRow.domain false w args ∧ laidMetH Tryz.prog buildFails_lst w) ∧ sizedMet enc Tryz.prog Tryz.f5 (OpenSpec.ofChange Rows.buildFailsSpec) false w args)
      (Rows.buildFailsSpec.post enc Tryz.prog Tryz.f5 false true false false) := by
  refine returnsInHanded_of_change_and (C := Tryz.checked) (X := fun w _ => laidMetH Tryz.prog buildFails_lst w) (fun _ _ _ hh h => h.of_heap hh) own started buildFails_noInit buildFails_fn
    (ChangeSpec.witness_shaped (enc := enc) (C := Tryz.checked) (os := os) (X := fun w _ => laidMetH Tryz.prog buildFails_lst w) false (World.laidAll Tryz.prog os buildFails_lst) #[.int .i64 (-1), .int .i64 0, .bool false, .bool false] 8 (World.laidAll_os _ _ _)
      (World.shaped_of_ZipB (buildFails_zip1 os) (buildFails_zip2 os)) (buildFails_okB os) (buildFails_preB os H enc) (buildFails_szB os H enc)
      (by rw [MakeChecks.laidMetH_plain _ _ _ buildFails_plain]; exact laidMet_laidAll _ (buildFails_fits os) (buildFails_ifaces os))) ?_
  intro W base args ds gs before hval0 hW _ _ hL _
  have hval : ∀ (j : Nat) t v, Tryz.f5.params[j]? = some t → args[j]? = some v → Value.okWide Tryz.prog W .any base t v := hval0
  have hW' := hW
  obtain ⟨p, q, hA0, hV, rfl, _, _⟩ := hW
  have hA : DataW.TrodAll enc Tryz.prog W 0 (fun _ => true) true Tryz.f5.params.toList args.toList ds p := hA0
  rw [buildFails_params] at hA hval
  obtain ⟨v0, v1, v2, v3, d0, d1, d2, d3, p0, p1, p2, p3, rfl, rfl, rfl, h0, h1, h2, h3⟩ := trodAll_four hA
  obtain ⟨rfl, rfl⟩ := trodVars_none hV
  obtain ⟨n0, rfl, rfl, rfl, hw0⟩ := open_int buildFails_uInt (hval 0 3 v0 rfl rfl) h0
  obtain ⟨n1, rfl, rfl, rfl, hw1⟩ := open_int buildFails_uInt (hval 1 3 v1 rfl rfl) h1
  obtain ⟨n2, rfl, rfl, rfl⟩ := open_bool buildFails_uBool (hval 2 4 v2 rfl rfl) h2
  obtain ⟨n3, rfl, rfl, rfl⟩ := open_bool buildFails_uBool (hval 3 4 v3 rfl rfl) h3
  refine (xb_calls n0 n1 n2 n3 (tables buildFails_plain buildFails_asciiIn buildFails_powIn hL)).mono fun e W' ⟨he, hs⟩ => ?_
  refine ⟨_, he, _, _, _, [], [], [], hW', ?_, ?_, ?_, hs.keptBut _, fun h => by cases h⟩
  · rw [buildFails_results]
    exact trodAll_mk1 (shut_bool buildFails_uBool true)
  · rw [buildFails_params]
    exact trodAll_mk4 (shut_int buildFails_uInt hw0) (shut_int buildFails_uInt hw1) (shut_bool buildFails_uBool n2) (shut_bool buildFails_uBool n3)
  · rfl
theorem buildFails_holds : Rows.BuildFailsSaid :=
  OpenClaim.holds_of_wide 5 Tryz.f5 rfl rfl rfl rfl rfl rfl rfl ⟨rfl, rfl, rfl, rfl, rfl⟩ rfl rfl rfl rfl rfl buildFails_named1 buildFails_fn buildFails_closed buildFails_inst buildFails_wrapper
    (fun os started H enc _ => buildFails_lifted os started H enc)
end
end Go.Proofs.YtbkilngeedbkpaaGreatDoor
