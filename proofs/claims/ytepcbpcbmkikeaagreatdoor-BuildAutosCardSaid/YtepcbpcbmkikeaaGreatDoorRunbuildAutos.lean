/-
  The runs of buildAutos: at every input. No condition.
-/
import Derived.Test.YtepcbpcbmkikeaaGreatDoorRunbuildAutos0
import Derived.Test.YtepcbpcbmkikeaaGreatDoorRunbuildAutos1
import Derived.Test.YtepcbpcbmkikeaaGreatDoorRunbuildAutos2
import Derived.Test.YtepcbpcbmkikeaaGreatDoorRunbuildAutos3
open Go Go.Mx
namespace Go.Proofs.YtepcbpcbmkikeaaGreatDoor
set_option maxRecDepth 1000000
noncomputable section
theorem ba_allsn (n : Int) : baP n .sn := by
  cases n with
  | negSucc m => exact ba_Pneg m _
  | ofNat j =>
    match j with
    | 0 => exact ba_0sn
    | 1 => exact ba_1sn
    | 2 => exact ba_2sn
    | 3 => exact ba_3sn
    | 4 => exact ba_4sn
    | 5 => exact ba_5sn
    | 6 => exact ba_6sn
    | m + 7 => exact ba_Pbig m _
theorem ba_allse (n : Int) : baP n .se := by
  cases n with
  | negSucc m => exact ba_Pneg m _
  | ofNat j =>
    match j with
    | 0 => exact ba_0se
    | 1 => exact ba_1se
    | 2 => exact ba_2se
    | 3 => exact ba_3se
    | 4 => exact ba_4se
    | 5 => exact ba_5se
    | 6 => exact ba_6se
    | m + 7 => exact ba_Pbig m _
theorem ba_len1 : ∀ l : List Bool, 0 < l.length → baA (.ofNat 1) (.sl 12 0 l.length 1) (boolsV l)
  | [], h => absurd h (by decide)
  | false :: r, _ => ba_f r.length (boolsV r)
  | true :: r, _ => ba_t r.length (boolsV r)
theorem ba_len2 : ∀ l : List Bool, 0 < l.length → baA (.ofNat 2) (.sl 12 0 l.length 1) (boolsV l)
  | [], h => absurd h (by decide)
  | [_], _ => ba_2s1 _
  | false :: false :: r, _ => ba_ff r.length (boolsV r)
  | false :: true :: r, _ => ba_ft r.length (boolsV r)
  | true :: false :: r, _ => ba_tf r.length (boolsV r)
  | true :: true :: r, _ => ba_tt r.length (boolsV r)
theorem ba_len3 : ∀ l : List Bool, 0 < l.length → baA (.ofNat 3) (.sl 12 0 l.length 1) (boolsV l)
  | [], h => absurd h (by decide)
  | [_], _ => ba_3s1 _
  | [_, _], _ => ba_3s2 _
  | false :: false :: false :: r, _ => ba_fff r.length (boolsV r)
  | false :: false :: true :: r, _ => ba_fft r.length (boolsV r)
  | false :: true :: false :: r, _ => ba_ftf r.length (boolsV r)
  | false :: true :: true :: r, _ => ba_ftt r.length (boolsV r)
  | true :: false :: false :: r, _ => ba_tff r.length (boolsV r)
  | true :: false :: true :: r, _ => ba_tft r.length (boolsV r)
  | true :: true :: false :: r, _ => ba_ttf r.length (boolsV r)
  | true :: true :: true :: r, _ => ba_ttt r.length (boolsV r)
theorem ba_len4 : ∀ l : List Bool, 0 < l.length → baA (.ofNat 4) (.sl 12 0 l.length 1) (boolsV l)
  | [], h => absurd h (by decide)
  | [_], _ => ba_4s1 _
  | [_, _], _ => ba_4s2 _
  | [_, _, _], _ => ba_4s3 _
  | false :: false :: false :: false :: r, _ => ba_ffff r.length (boolsV r)
  | false :: false :: false :: true :: r, _ => ba_ffft r.length (boolsV r)
  | false :: false :: true :: false :: r, _ => ba_fftf r.length (boolsV r)
  | false :: false :: true :: true :: r, _ => ba_fftt r.length (boolsV r)
  | false :: true :: false :: false :: r, _ => ba_ftff r.length (boolsV r)
  | false :: true :: false :: true :: r, _ => ba_ftft r.length (boolsV r)
  | false :: true :: true :: false :: r, _ => ba_fttf r.length (boolsV r)
  | false :: true :: true :: true :: r, _ => ba_fttt r.length (boolsV r)
  | true :: false :: false :: false :: r, _ => ba_tfff r.length (boolsV r)
  | true :: false :: false :: true :: r, _ => ba_tfft r.length (boolsV r)
  | true :: false :: true :: false :: r, _ => ba_tftf r.length (boolsV r)
  | true :: false :: true :: true :: r, _ => ba_tftt r.length (boolsV r)
  | true :: true :: false :: false :: r, _ => ba_ttff r.length (boolsV r)
  | true :: true :: false :: true :: r, _ => ba_ttft r.length (boolsV r)
  | true :: true :: true :: false :: r, _ => ba_tttf r.length (boolsV r)
  | true :: true :: true :: true :: r, _ => ba_tttt r.length (boolsV r)
theorem ba_len5 : ∀ l : List Bool, 0 < l.length → baA (.ofNat 5) (.sl 12 0 l.length 1) (boolsV l)
  | [], h => absurd h (by decide)
  | [_], _ => ba_5s1 _
  | [_, _], _ => ba_5s2 _
  | [_, _, _], _ => ba_5s3 _
  | [_, _, _, _], _ => ba_5s4 _
  | false :: false :: false :: false :: false :: r, _ => ba_fffff r.length (boolsV r)
  | false :: false :: false :: false :: true :: r, _ => ba_fffft r.length (boolsV r)
  | false :: false :: false :: true :: false :: r, _ => ba_ffftf r.length (boolsV r)
  | false :: false :: false :: true :: true :: r, _ => ba_ffftt r.length (boolsV r)
  | false :: false :: true :: false :: false :: r, _ => ba_fftff r.length (boolsV r)
  | false :: false :: true :: false :: true :: r, _ => ba_fftft r.length (boolsV r)
  | false :: false :: true :: true :: false :: r, _ => ba_ffttf r.length (boolsV r)
  | false :: false :: true :: true :: true :: r, _ => ba_ffttt r.length (boolsV r)
  | false :: true :: false :: false :: false :: r, _ => ba_ftfff r.length (boolsV r)
  | false :: true :: false :: false :: true :: r, _ => ba_ftfft r.length (boolsV r)
  | false :: true :: false :: true :: false :: r, _ => ba_ftftf r.length (boolsV r)
  | false :: true :: false :: true :: true :: r, _ => ba_ftftt r.length (boolsV r)
  | false :: true :: true :: false :: false :: r, _ => ba_fttff r.length (boolsV r)
  | false :: true :: true :: false :: true :: r, _ => ba_fttft r.length (boolsV r)
  | false :: true :: true :: true :: false :: r, _ => ba_ftttf r.length (boolsV r)
  | false :: true :: true :: true :: true :: r, _ => ba_ftttt r.length (boolsV r)
  | true :: false :: false :: false :: false :: r, _ => ba_tffff r.length (boolsV r)
  | true :: false :: false :: false :: true :: r, _ => ba_tffft r.length (boolsV r)
  | true :: false :: false :: true :: false :: r, _ => ba_tfftf r.length (boolsV r)
  | true :: false :: false :: true :: true :: r, _ => ba_tfftt r.length (boolsV r)
  | true :: false :: true :: false :: false :: r, _ => ba_tftff r.length (boolsV r)
  | true :: false :: true :: false :: true :: r, _ => ba_tftft r.length (boolsV r)
  | true :: false :: true :: true :: false :: r, _ => ba_tfttf r.length (boolsV r)
  | true :: false :: true :: true :: true :: r, _ => ba_tfttt r.length (boolsV r)
  | true :: true :: false :: false :: false :: r, _ => ba_ttfff r.length (boolsV r)
  | true :: true :: false :: false :: true :: r, _ => ba_ttfft r.length (boolsV r)
  | true :: true :: false :: true :: false :: r, _ => ba_ttftf r.length (boolsV r)
  | true :: true :: false :: true :: true :: r, _ => ba_ttftt r.length (boolsV r)
  | true :: true :: true :: false :: false :: r, _ => ba_tttff r.length (boolsV r)
  | true :: true :: true :: false :: true :: r, _ => ba_tttft r.length (boolsV r)
  | true :: true :: true :: true :: false :: r, _ => ba_ttttf r.length (boolsV r)
  | true :: true :: true :: true :: true :: r, _ => ba_ttttt r.length (boolsV r)
theorem ba_len6 : ∀ l : List Bool, 0 < l.length → baA (.ofNat 6) (.sl 12 0 l.length 1) (boolsV l)
  | [], h => absurd h (by decide)
  | [_], _ => ba_6s1 _
  | [_, _], _ => ba_6s2 _
  | [_, _, _], _ => ba_6s3 _
  | [_, _, _, _], _ => ba_6s4 _
  | [_, _, _, _, _], _ => ba_6s5 _
  | false :: false :: false :: false :: false :: false :: r, _ => ba_ffffff r.length (boolsV r)
  | false :: false :: false :: false :: false :: true :: r, _ => ba_ffffft r.length (boolsV r)
  | false :: false :: false :: false :: true :: false :: r, _ => ba_fffftf r.length (boolsV r)
  | false :: false :: false :: false :: true :: true :: r, _ => ba_fffftt r.length (boolsV r)
  | false :: false :: false :: true :: false :: false :: r, _ => ba_ffftff r.length (boolsV r)
  | false :: false :: false :: true :: false :: true :: r, _ => ba_ffftft r.length (boolsV r)
  | false :: false :: false :: true :: true :: false :: r, _ => ba_fffttf r.length (boolsV r)
  | false :: false :: false :: true :: true :: true :: r, _ => ba_fffttt r.length (boolsV r)
  | false :: false :: true :: false :: false :: false :: r, _ => ba_fftfff r.length (boolsV r)
  | false :: false :: true :: false :: false :: true :: r, _ => ba_fftfft r.length (boolsV r)
  | false :: false :: true :: false :: true :: false :: r, _ => ba_fftftf r.length (boolsV r)
  | false :: false :: true :: false :: true :: true :: r, _ => ba_fftftt r.length (boolsV r)
  | false :: false :: true :: true :: false :: false :: r, _ => ba_ffttff r.length (boolsV r)
  | false :: false :: true :: true :: false :: true :: r, _ => ba_ffttft r.length (boolsV r)
  | false :: false :: true :: true :: true :: false :: r, _ => ba_fftttf r.length (boolsV r)
  | false :: false :: true :: true :: true :: true :: r, _ => ba_fftttt r.length (boolsV r)
  | false :: true :: false :: false :: false :: false :: r, _ => ba_ftffff r.length (boolsV r)
  | false :: true :: false :: false :: false :: true :: r, _ => ba_ftffft r.length (boolsV r)
  | false :: true :: false :: false :: true :: false :: r, _ => ba_ftfftf r.length (boolsV r)
  | false :: true :: false :: false :: true :: true :: r, _ => ba_ftfftt r.length (boolsV r)
  | false :: true :: false :: true :: false :: false :: r, _ => ba_ftftff r.length (boolsV r)
  | false :: true :: false :: true :: false :: true :: r, _ => ba_ftftft r.length (boolsV r)
  | false :: true :: false :: true :: true :: false :: r, _ => ba_ftfttf r.length (boolsV r)
  | false :: true :: false :: true :: true :: true :: r, _ => ba_ftfttt r.length (boolsV r)
  | false :: true :: true :: false :: false :: false :: r, _ => ba_fttfff r.length (boolsV r)
  | false :: true :: true :: false :: false :: true :: r, _ => ba_fttfft r.length (boolsV r)
  | false :: true :: true :: false :: true :: false :: r, _ => ba_fttftf r.length (boolsV r)
  | false :: true :: true :: false :: true :: true :: r, _ => ba_fttftt r.length (boolsV r)
  | false :: true :: true :: true :: false :: false :: r, _ => ba_ftttff r.length (boolsV r)
  | false :: true :: true :: true :: false :: true :: r, _ => ba_ftttft r.length (boolsV r)
  | false :: true :: true :: true :: true :: false :: r, _ => ba_fttttf r.length (boolsV r)
  | false :: true :: true :: true :: true :: true :: r, _ => ba_fttttt r.length (boolsV r)
  | true :: false :: false :: false :: false :: false :: r, _ => ba_tfffff r.length (boolsV r)
  | true :: false :: false :: false :: false :: true :: r, _ => ba_tfffft r.length (boolsV r)
  | true :: false :: false :: false :: true :: false :: r, _ => ba_tffftf r.length (boolsV r)
  | true :: false :: false :: false :: true :: true :: r, _ => ba_tffftt r.length (boolsV r)
  | true :: false :: false :: true :: false :: false :: r, _ => ba_tfftff r.length (boolsV r)
  | true :: false :: false :: true :: false :: true :: r, _ => ba_tfftft r.length (boolsV r)
  | true :: false :: false :: true :: true :: false :: r, _ => ba_tffttf r.length (boolsV r)
  | true :: false :: false :: true :: true :: true :: r, _ => ba_tffttt r.length (boolsV r)
  | true :: false :: true :: false :: false :: false :: r, _ => ba_tftfff r.length (boolsV r)
  | true :: false :: true :: false :: false :: true :: r, _ => ba_tftfft r.length (boolsV r)
  | true :: false :: true :: false :: true :: false :: r, _ => ba_tftftf r.length (boolsV r)
  | true :: false :: true :: false :: true :: true :: r, _ => ba_tftftt r.length (boolsV r)
  | true :: false :: true :: true :: false :: false :: r, _ => ba_tfttff r.length (boolsV r)
  | true :: false :: true :: true :: false :: true :: r, _ => ba_tfttft r.length (boolsV r)
  | true :: false :: true :: true :: true :: false :: r, _ => ba_tftttf r.length (boolsV r)
  | true :: false :: true :: true :: true :: true :: r, _ => ba_tftttt r.length (boolsV r)
  | true :: true :: false :: false :: false :: false :: r, _ => ba_ttffff r.length (boolsV r)
  | true :: true :: false :: false :: false :: true :: r, _ => ba_ttffft r.length (boolsV r)
  | true :: true :: false :: false :: true :: false :: r, _ => ba_ttfftf r.length (boolsV r)
  | true :: true :: false :: false :: true :: true :: r, _ => ba_ttfftt r.length (boolsV r)
  | true :: true :: false :: true :: false :: false :: r, _ => ba_ttftff r.length (boolsV r)
  | true :: true :: false :: true :: false :: true :: r, _ => ba_ttftft r.length (boolsV r)
  | true :: true :: false :: true :: true :: false :: r, _ => ba_ttfttf r.length (boolsV r)
  | true :: true :: false :: true :: true :: true :: r, _ => ba_ttfttt r.length (boolsV r)
  | true :: true :: true :: false :: false :: false :: r, _ => ba_tttfff r.length (boolsV r)
  | true :: true :: true :: false :: false :: true :: r, _ => ba_tttfft r.length (boolsV r)
  | true :: true :: true :: false :: true :: false :: r, _ => ba_tttftf r.length (boolsV r)
  | true :: true :: true :: false :: true :: true :: r, _ => ba_tttftt r.length (boolsV r)
  | true :: true :: true :: true :: false :: false :: r, _ => ba_ttttff r.length (boolsV r)
  | true :: true :: true :: true :: false :: true :: r, _ => ba_ttttft r.length (boolsV r)
  | true :: true :: true :: true :: true :: false :: r, _ => ba_tttttf r.length (boolsV r)
  | true :: true :: true :: true :: true :: true :: r, _ => ba_tttttt r.length (boolsV r)
theorem ba_allsl (n : Int) (l : List Bool) (h : 0 < l.length) : baA n (.sl 12 0 l.length 1) (boolsV l) := by
  cases n with
  | negSucc m => exact ba_neg m _ _
  | ofNat j =>
    match j with
    | 0 =>
      match l, h with
      | b :: r, _ => exact ba_0sl r.length _
    | 1 => exact ba_len1 l h
    | 2 => exact ba_len2 l h
    | 3 => exact ba_len3 l h
    | 4 => exact ba_len4 l h
    | 5 => exact ba_len5 l h
    | 6 => exact ba_len6 l h
    | m + 7 => exact ba_big m _ _
end
end Go.Proofs.YtepcbpcbmkikeaaGreatDoor
