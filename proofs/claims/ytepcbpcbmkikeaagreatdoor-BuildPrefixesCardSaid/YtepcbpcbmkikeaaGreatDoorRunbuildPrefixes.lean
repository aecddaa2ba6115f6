/-
  The runs of buildPrefixes: at every input. No condition.
-/
import Derived.Test.YtepcbpcbmkikeaaGreatDoorRunbuildPrefixes0
import Derived.Test.YtepcbpcbmkikeaaGreatDoorRunbuildPrefixes1
import Derived.Test.YtepcbpcbmkikeaaGreatDoorRunbuildPrefixes2
import Derived.Test.YtepcbpcbmkikeaaGreatDoorRunbuildPrefixes3
open Go Go.Mx
namespace Go.Proofs.YtepcbpcbmkikeaaGreatDoor
set_option maxRecDepth 1000000
noncomputable section
theorem bpAll (a m p d k s g t q w : Bool) : bpRun a m p d k s g t q w := by
  cases q with
  | true => exact bp_q a m p d k s g t w
  | false =>
  cases t with
  | true => exact bp_t a m p d k s g w
  | false =>
  cases k with
  | true => exact bp_k a m p d s g w
  | false =>
    cases a with
    | false =>
      cases m with
      | false =>
        cases p with
        | false =>
          cases d with
          | false =>
            cases s with
            | false =>
              cases g with
              | false =>
                cases w with
                | false =>
                  exact bp_fffffff
                | true =>
                  exact bp_fffffft
              | true =>
                cases w with
                | false =>
                  exact bp_ffffftf
                | true =>
                  exact bp_ffffftt
            | true =>
              cases g with
              | false =>
                cases w with
                | false =>
                  exact bp_fffftff
                | true =>
                  exact bp_fffftft
              | true =>
                cases w with
                | false =>
                  exact bp_ffffttf
                | true =>
                  exact bp_ffffttt
          | true =>
            cases s with
            | false =>
              cases g with
              | false =>
                cases w with
                | false =>
                  exact bp_ffftfff
                | true =>
                  exact bp_ffftfft
              | true =>
                cases w with
                | false =>
                  exact bp_ffftftf
                | true =>
                  exact bp_ffftftt
            | true =>
              cases g with
              | false =>
                cases w with
                | false =>
                  exact bp_fffttff
                | true =>
                  exact bp_fffttft
              | true =>
                cases w with
                | false =>
                  exact bp_ffftttf
                | true =>
                  exact bp_ffftttt
        | true =>
          cases d with
          | false =>
            cases s with
            | false =>
              cases g with
              | false =>
                cases w with
                | false =>
                  exact bp_fftffff
                | true =>
                  exact bp_fftffft
              | true =>
                cases w with
                | false =>
                  exact bp_fftfftf
                | true =>
                  exact bp_fftfftt
            | true =>
              cases g with
              | false =>
                cases w with
                | false =>
                  exact bp_fftftff
                | true =>
                  exact bp_fftftft
              | true =>
                cases w with
                | false =>
                  exact bp_fftfttf
                | true =>
                  exact bp_fftfttt
          | true =>
            cases s with
            | false =>
              cases g with
              | false =>
                cases w with
                | false =>
                  exact bp_ffttfff
                | true =>
                  exact bp_ffttfft
              | true =>
                cases w with
                | false =>
                  exact bp_ffttftf
                | true =>
                  exact bp_ffttftt
            | true =>
              cases g with
              | false =>
                cases w with
                | false =>
                  exact bp_fftttff
                | true =>
                  exact bp_fftttft
              | true =>
                cases w with
                | false =>
                  exact bp_ffttttf
                | true =>
                  exact bp_ffttttt
      | true =>
        cases p with
        | false =>
          cases d with
          | false =>
            cases s with
            | false =>
              cases g with
              | false =>
                cases w with
                | false =>
                  exact bp_ftfffff
                | true =>
                  exact bp_ftfffft
              | true =>
                cases w with
                | false =>
                  exact bp_ftffftf
                | true =>
                  exact bp_ftffftt
            | true =>
              cases g with
              | false =>
                cases w with
                | false =>
                  exact bp_ftfftff
                | true =>
                  exact bp_ftfftft
              | true =>
                cases w with
                | false =>
                  exact bp_ftffttf
                | true =>
                  exact bp_ftffttt
          | true =>
            cases s with
            | false =>
              cases g with
              | false =>
                cases w with
                | false =>
                  exact bp_ftftfff
                | true =>
                  exact bp_ftftfft
              | true =>
                cases w with
                | false =>
                  exact bp_ftftftf
                | true =>
                  exact bp_ftftftt
            | true =>
              cases g with
              | false =>
                cases w with
                | false =>
                  exact bp_ftfttff
                | true =>
                  exact bp_ftfttft
              | true =>
                cases w with
                | false =>
                  exact bp_ftftttf
                | true =>
                  exact bp_ftftttt
        | true =>
          cases d with
          | false =>
            cases s with
            | false =>
              cases g with
              | false =>
                cases w with
                | false =>
                  exact bp_fttffff
                | true =>
                  exact bp_fttffft
              | true =>
                cases w with
                | false =>
                  exact bp_fttfftf
                | true =>
                  exact bp_fttfftt
            | true =>
              cases g with
              | false =>
                cases w with
                | false =>
                  exact bp_fttftff
                | true =>
                  exact bp_fttftft
              | true =>
                cases w with
                | false =>
                  exact bp_fttfttf
                | true =>
                  exact bp_fttfttt
          | true =>
            cases s with
            | false =>
              cases g with
              | false =>
                cases w with
                | false =>
                  exact bp_ftttfff
                | true =>
                  exact bp_ftttfft
              | true =>
                cases w with
                | false =>
                  exact bp_ftttftf
                | true =>
                  exact bp_ftttftt
            | true =>
              cases g with
              | false =>
                cases w with
                | false =>
                  exact bp_fttttff
                | true =>
                  exact bp_fttttft
              | true =>
                cases w with
                | false =>
                  exact bp_ftttttf
                | true =>
                  exact bp_ftttttt
    | true =>
      cases m with
      | false =>
        cases p with
        | false =>
          cases d with
          | false =>
            cases s with
            | false =>
              cases g with
              | false =>
                cases w with
                | false =>
                  exact bp_tffffff
                | true =>
                  exact bp_tffffft
              | true =>
                cases w with
                | false =>
                  exact bp_tfffftf
                | true =>
                  exact bp_tfffftt
            | true =>
              cases g with
              | false =>
                cases w with
                | false =>
                  exact bp_tffftff
                | true =>
                  exact bp_tffftft
              | true =>
                cases w with
                | false =>
                  exact bp_tfffttf
                | true =>
                  exact bp_tfffttt
          | true =>
            cases s with
            | false =>
              cases g with
              | false =>
                cases w with
                | false =>
                  exact bp_tfftfff
                | true =>
                  exact bp_tfftfft
              | true =>
                cases w with
                | false =>
                  exact bp_tfftftf
                | true =>
                  exact bp_tfftftt
            | true =>
              cases g with
              | false =>
                cases w with
                | false =>
                  exact bp_tffttff
                | true =>
                  exact bp_tffttft
              | true =>
                cases w with
                | false =>
                  exact bp_tfftttf
                | true =>
                  exact bp_tfftttt
        | true =>
          cases d with
          | false =>
            cases s with
            | false =>
              cases g with
              | false =>
                cases w with
                | false =>
                  exact bp_tftffff
                | true =>
                  exact bp_tftffft
              | true =>
                cases w with
                | false =>
                  exact bp_tftfftf
                | true =>
                  exact bp_tftfftt
            | true =>
              cases g with
              | false =>
                cases w with
                | false =>
                  exact bp_tftftff
                | true =>
                  exact bp_tftftft
              | true =>
                cases w with
                | false =>
                  exact bp_tftfttf
                | true =>
                  exact bp_tftfttt
          | true =>
            cases s with
            | false =>
              cases g with
              | false =>
                cases w with
                | false =>
                  exact bp_tfttfff
                | true =>
                  exact bp_tfttfft
              | true =>
                cases w with
                | false =>
                  exact bp_tfttftf
                | true =>
                  exact bp_tfttftt
            | true =>
              cases g with
              | false =>
                cases w with
                | false =>
                  exact bp_tftttff
                | true =>
                  exact bp_tftttft
              | true =>
                cases w with
                | false =>
                  exact bp_tfttttf
                | true =>
                  exact bp_tfttttt
      | true =>
        cases p with
        | false =>
          cases d with
          | false =>
            cases s with
            | false =>
              cases g with
              | false =>
                cases w with
                | false =>
                  exact bp_ttfffff
                | true =>
                  exact bp_ttfffft
              | true =>
                cases w with
                | false =>
                  exact bp_ttffftf
                | true =>
                  exact bp_ttffftt
            | true =>
              cases g with
              | false =>
                cases w with
                | false =>
                  exact bp_ttfftff
                | true =>
                  exact bp_ttfftft
              | true =>
                cases w with
                | false =>
                  exact bp_ttffttf
                | true =>
                  exact bp_ttffttt
          | true =>
            cases s with
            | false =>
              cases g with
              | false =>
                cases w with
                | false =>
                  exact bp_ttftfff
                | true =>
                  exact bp_ttftfft
              | true =>
                cases w with
                | false =>
                  exact bp_ttftftf
                | true =>
                  exact bp_ttftftt
            | true =>
              cases g with
              | false =>
                cases w with
                | false =>
                  exact bp_ttfttff
                | true =>
                  exact bp_ttfttft
              | true =>
                cases w with
                | false =>
                  exact bp_ttftttf
                | true =>
                  exact bp_ttftttt
        | true =>
          cases d with
          | false =>
            cases s with
            | false =>
              cases g with
              | false =>
                cases w with
                | false =>
                  exact bp_tttffff
                | true =>
                  exact bp_tttffft
              | true =>
                cases w with
                | false =>
                  exact bp_tttfftf
                | true =>
                  exact bp_tttfftt
            | true =>
              cases g with
              | false =>
                cases w with
                | false =>
                  exact bp_tttftff
                | true =>
                  exact bp_tttftft
              | true =>
                cases w with
                | false =>
                  exact bp_tttfttf
                | true =>
                  exact bp_tttfttt
          | true =>
            cases s with
            | false =>
              cases g with
              | false =>
                cases w with
                | false =>
                  exact bp_ttttfff
                | true =>
                  exact bp_ttttfft
              | true =>
                cases w with
                | false =>
                  exact bp_ttttftf
                | true =>
                  exact bp_ttttftt
            | true =>
              cases g with
              | false =>
                cases w with
                | false =>
                  exact bp_tttttff
                | true =>
                  exact bp_tttttft
              | true =>
                cases w with
                | false =>
                  exact bp_ttttttf
                | true =>
                  exact bp_ttttttt
end
end Go.Proofs.YtepcbpcbmkikeaaGreatDoor
