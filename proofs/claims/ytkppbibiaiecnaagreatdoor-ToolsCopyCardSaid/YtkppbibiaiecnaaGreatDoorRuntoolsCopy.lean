/-
  The runs of toolsCopy: at every input. No condition.
-/
import Derived.Test.YtkppbibiaiecnaaGreatDoorRuntoolsCopy0
import Derived.Test.YtkppbibiaiecnaaGreatDoorRuntoolsCopy1
import Derived.Test.YtkppbibiaiecnaaGreatDoorRuntoolsCopy2
import Derived.Test.YtkppbibiaiecnaaGreatDoorRuntoolsCopy3
import Derived.Test.YtkppbibiaiecnaaGreatDoorRuntoolsCopy4
import Derived.Test.YtkppbibiaiecnaaGreatDoorRuntoolsCopy5
import Derived.Test.YtkppbibiaiecnaaGreatDoorRuntoolsCopy6
open Go Go.Mx
namespace Go.Proofs.YtkppbibiaiecnaaGreatDoor
set_option maxRecDepth 1000000
noncomputable section
theorem tc_short {x1 x2 : V} (h1 : x1 = .sn ∨ x1 = .se ∨ x1 = bytesA 9 1 500) (h2 : x2 = .sn ∨ x2 = .se ∨ x2 = bytesA 11 1 500) (g : Bool) (ty1 ty2 : Nat) (τ : Nat → Nat) : tcRun τ x1 x2 (.b g) 1 500 ty1 1 500 ty2 = true := by
  rcases h1 with rfl | rfl | rfl <;> rcases h2 with rfl | rfl | rfl <;> cases g
  · exact tc_ssf ty1 ty2 τ
  · exact tc_sst ty1 ty2 τ
  · exact tc_sef ty1 ty2 τ
  · exact tc_set ty1 ty2 τ
  · exact tc_spf ty1 ty2 τ
  · exact tc_spt ty1 ty2 τ
  · exact tc_esf ty1 ty2 τ
  · exact tc_est ty1 ty2 τ
  · exact tc_eef ty1 ty2 τ
  · exact tc_eet ty1 ty2 τ
  · exact tc_epf ty1 ty2 τ
  · exact tc_ept ty1 ty2 τ
  · exact tc_psf ty1 ty2 τ
  · exact tc_pst ty1 ty2 τ
  · exact tc_pef ty1 ty2 τ
  · exact tc_pet ty1 ty2 τ
  · exact tc_ppf ty1 ty2 τ
  · exact tc_ppt ty1 ty2 τ
theorem tc_lc {x1 : V} (h1 : x1 = .sn ∨ x1 = .se ∨ x1 = bytesA 9 1 500) (g : Bool) (ty1 ty2 : Nat) (τ : Nat → Nat) : tcRun τ x1 (bytesA 11 501 9223372036854775807) (.b g) 1 500 ty1 501 9223372036854775807 ty2 = true := by
  rcases h1 with rfl | rfl | rfl
  · exact tc_lcs ty1 ty2 g τ
  · exact tc_lce ty1 ty2 g τ
  · exact tc_lcp ty1 ty2 g τ
end
end Go.Proofs.YtkppbibiaiecnaaGreatDoor
