/-
  The runs of buildRings: at every input. No condition.
-/
import Derived.Test.YtepcbpcbmkikeaaGreatDoorRunbuildRings0
open Go Go.Mx
namespace Go.Proofs.YtepcbpcbmkikeaaGreatDoor
set_option maxRecDepth 1000000
noncomputable section
theorem brAll (n : Int) (k : Bool) : brRun n k := by
  cases n with
  | negSucc m => exact br_neg m k
  | ofNat j =>
    match j with
    | 0 => exact br_0 k
    | 1 =>
      cases k with
      | false => exact br_1f
      | true => exact br_1t
    | 2 =>
      cases k with
      | false => exact br_2f
      | true => exact br_2t
    | 3 =>
      cases k with
      | false => exact br_3f
      | true => exact br_3t
    | 4 =>
      cases k with
      | false => exact br_4f
      | true => exact br_4t
    | 5 =>
      cases k with
      | false => exact br_5f
      | true => exact br_5t
    | 6 =>
      cases k with
      | false => exact br_6f
      | true => exact br_6t
    | 7 =>
      cases k with
      | false => exact br_7f
      | true => exact br_7t
    | 8 =>
      cases k with
      | false => exact br_8f
      | true => exact br_8t
    | 9 =>
      cases k with
      | false => exact br_9f
      | true => exact br_9t
    | 10 =>
      cases k with
      | false => exact br_10f
      | true => exact br_10t
    | m + 11 => exact br_big m k
end
end Go.Proofs.YtepcbpcbmkikeaaGreatDoor
