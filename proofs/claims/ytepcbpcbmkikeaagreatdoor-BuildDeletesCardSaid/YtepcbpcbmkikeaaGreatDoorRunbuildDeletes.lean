/-
  The runs of buildDeletes: at every input. No condition.
-/
import Derived.Test.YtepcbpcbmkikeaaGreatDoorRunbuildDeletes0
import Derived.Test.YtepcbpcbmkikeaaGreatDoorRunbuildDeletes1
open Go Go.Mx
namespace Go.Proofs.YtepcbpcbmkikeaaGreatDoor
set_option maxRecDepth 1000000
noncomputable section
theorem bdAll (x0 x1 x2 x3 x4 : Bool) : bdRun x0 x1 x2 x3 x4 := by
  cases x0 with
  | false =>
    cases x1 with
    | false =>
      cases x2 with
      | false =>
        cases x3 with
        | false =>
          cases x4 with
          | false =>
            exact bd_fffff
          | true =>
            exact bd_fffft
        | true =>
          cases x4 with
          | false =>
            exact bd_ffftf
          | true =>
            exact bd_ffftt
      | true =>
        cases x3 with
        | false =>
          cases x4 with
          | false =>
            exact bd_fftff
          | true =>
            exact bd_fftft
        | true =>
          cases x4 with
          | false =>
            exact bd_ffttf
          | true =>
            exact bd_ffttt
    | true =>
      cases x2 with
      | false =>
        cases x3 with
        | false =>
          cases x4 with
          | false =>
            exact bd_ftfff
          | true =>
            exact bd_ftfft
        | true =>
          cases x4 with
          | false =>
            exact bd_ftftf
          | true =>
            exact bd_ftftt
      | true =>
        cases x3 with
        | false =>
          cases x4 with
          | false =>
            exact bd_fttff
          | true =>
            exact bd_fttft
        | true =>
          cases x4 with
          | false =>
            exact bd_ftttf
          | true =>
            exact bd_ftttt
  | true =>
    cases x1 with
    | false =>
      cases x2 with
      | false =>
        cases x3 with
        | false =>
          cases x4 with
          | false =>
            exact bd_tffff
          | true =>
            exact bd_tffft
        | true =>
          cases x4 with
          | false =>
            exact bd_tfftf
          | true =>
            exact bd_tfftt
      | true =>
        cases x3 with
        | false =>
          cases x4 with
          | false =>
            exact bd_tftff
          | true =>
            exact bd_tftft
        | true =>
          cases x4 with
          | false =>
            exact bd_tfttf
          | true =>
            exact bd_tfttt
    | true =>
      cases x2 with
      | false =>
        cases x3 with
        | false =>
          cases x4 with
          | false =>
            exact bd_ttfff
          | true =>
            exact bd_ttfft
        | true =>
          cases x4 with
          | false =>
            exact bd_ttftf
          | true =>
            exact bd_ttftt
      | true =>
        cases x3 with
        | false =>
          cases x4 with
          | false =>
            exact bd_tttff
          | true =>
            exact bd_tttft
        | true =>
          cases x4 with
          | false =>
            exact bd_ttttf
          | true =>
            exact bd_ttttt
end
end Go.Proofs.YtepcbpcbmkikeaaGreatDoor
