/-
  The runs of makeNames: at every input. No condition.
-/
import Derived.Test.YtepcbpcbmkikeaaGreatDoorRunmakeNames0
open Go Go.Mx
namespace Go.Proofs.YtepcbpcbmkikeaaGreatDoor
set_option maxRecDepth 1000000
noncomputable section
theorem mnAll (x0 x1 x2 x3 : Bool) : mnRun x0 x1 x2 x3 := by
  cases x0 with
  | false =>
    cases x1 with
    | false =>
      cases x2 with
      | false =>
        cases x3 with
        | false =>
          exact mn_ffff
        | true =>
          exact mn_ffft
      | true =>
        cases x3 with
        | false =>
          exact mn_fftf
        | true =>
          exact mn_fftt
    | true =>
      cases x2 with
      | false =>
        cases x3 with
        | false =>
          exact mn_ftff
        | true =>
          exact mn_ftft
      | true =>
        cases x3 with
        | false =>
          exact mn_fttf
        | true =>
          exact mn_fttt
  | true =>
    cases x1 with
    | false =>
      cases x2 with
      | false =>
        cases x3 with
        | false =>
          exact mn_tfff
        | true =>
          exact mn_tfft
      | true =>
        cases x3 with
        | false =>
          exact mn_tftf
        | true =>
          exact mn_tftt
    | true =>
      cases x2 with
      | false =>
        cases x3 with
        | false =>
          exact mn_ttff
        | true =>
          exact mn_ttft
      | true =>
        cases x3 with
        | false =>
          exact mn_tttf
        | true =>
          exact mn_tttt
end
end Go.Proofs.YtepcbpcbmkikeaaGreatDoor
