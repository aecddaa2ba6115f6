/-
  The runs of expandCounts: at every input. No condition.
-/
import Derived.Test.YtfmcnkepidedpaaGreatDoorCRunexpandCounts0
import Derived.Test.YtfmcnkepidedpaaGreatDoorCRunexpandCounts1
import Derived.Test.YtfmcnkepidedpaaGreatDoorCRunexpandCounts2
import Derived.Test.YtfmcnkepidedpaaGreatDoorCRunexpandCounts3
import Derived.Test.YtfmcnkepidedpaaGreatDoorCRunexpandCounts4
import Derived.Test.YtfmcnkepidedpaaGreatDoorCRunexpandCounts5
import Derived.Test.YtfmcnkepidedpaaGreatDoorCRunexpandCounts6
import Derived.Test.YtfmcnkepidedpaaGreatDoorCRunexpandCounts7
open Go Go.Mx
namespace Go.Proofs.YtfmcnkepidedpaaGreatDoor
set_option maxRecDepth 1000000
noncomputable section
theorem ec_e : ∀ n, 0 < n → n ≤ 30 → ∀ (ty : Nat) (τ : Nat → Nat) (C : O → Bool), ecRunP τ C (.s []) (.sl 8 0 n 1) (anyV (9 + (n + 0))) (elsV 0 9223372036854775807 n 9 .nil) ty (9 + (n + 1)) = C (.v powV (τ 1))
  | 0, h, _ => absurd h (by omega)
  | 1, _, _ => ec_e1
  | 2, _, _ => ec_e2
  | 3, _, _ => ec_e3
  | 4, _, _ => ec_e4
  | 5, _, _ => ec_e5
  | 6, _, _ => ec_e6
  | 7, _, _ => ec_e7
  | 8, _, _ => ec_e8
  | 9, _, _ => ec_e9
  | 10, _, _ => ec_e10
  | 11, _, _ => ec_e11
  | 12, _, _ => ec_e12
  | 13, _, _ => ec_e13
  | 14, _, _ => ec_e14
  | 15, _, _ => ec_e15
  | 16, _, _ => ec_e16
  | 17, _, _ => ec_e17
  | 18, _, _ => ec_e18
  | 19, _, _ => ec_e19
  | 20, _, _ => ec_e20
  | 21, _, _ => ec_e21
  | 22, _, _ => ec_e22
  | 23, _, _ => ec_e23
  | 24, _, _ => ec_e24
  | 25, _, _ => ec_e25
  | 26, _, _ => ec_e26
  | 27, _, _ => ec_e27
  | 28, _, _ => ec_e28
  | 29, _, _ => ec_e29
  | 30, _, _ => ec_e30
  | n + 31, _, h => absurd h (by omega)
theorem ec_n : ∀ n, 0 < n → n ≤ 30 → ∀ (ty : Nat) (τ : Nat → Nat) (C : O → Bool), ecRunP τ C (nzV (9 + n) (9 + (n + 1)) 299) (.sl 8 0 n 1) (anyV (9 + (n + 2))) (elsV 0 9223372036854775807 n 9 .nil) ty (9 + (n + 3)) = C (.v powV (τ 1))
  | 0, h, _ => absurd h (by omega)
  | 1, _, _ => ec_n1
  | 2, _, _ => ec_n2
  | 3, _, _ => ec_n3
  | 4, _, _ => ec_n4
  | 5, _, _ => ec_n5
  | 6, _, _ => ec_n6
  | 7, _, _ => ec_n7
  | 8, _, _ => ec_n8
  | 9, _, _ => ec_n9
  | 10, _, _ => ec_n10
  | 11, _, _ => ec_n11
  | 12, _, _ => ec_n12
  | 13, _, _ => ec_n13
  | 14, _, _ => ec_n14
  | 15, _, _ => ec_n15
  | 16, _, _ => ec_n16
  | 17, _, _ => ec_n17
  | 18, _, _ => ec_n18
  | 19, _, _ => ec_n19
  | 20, _, _ => ec_n20
  | 21, _, _ => ec_n21
  | 22, _, _ => ec_n22
  | 23, _, _ => ec_n23
  | 24, _, _ => ec_n24
  | 25, _, _ => ec_n25
  | 26, _, _ => ec_n26
  | 27, _, _ => ec_n27
  | 28, _, _ => ec_n28
  | 29, _, _ => ec_n29
  | 30, _, _ => ec_n30
  | n + 31, _, h => absurd h (by omega)
end
end Go.Proofs.YtfmcnkepidedpaaGreatDoor
