/-
  The runs of execPipes: at every input. No condition.
-/
import Derived.Test.YtidfafhlcmfdeaaGreatDoorPRunexecPipes0
import Derived.Test.YtidfafhlcmfdeaaGreatDoorPRunexecPipes1
import Derived.Test.YtidfafhlcmfdeaaGreatDoorPRunexecPipes2
import Derived.Test.YtidfafhlcmfdeaaGreatDoorPRunexecPipes3
import Derived.Test.YtidfafhlcmfdeaaGreatDoorPRunexecPipes4
import Derived.Test.YtidfafhlcmfdeaaGreatDoorPRunexecPipes5
import Derived.Test.YtidfafhlcmfdeaaGreatDoorPRunexecPipes6
import Derived.Test.YtidfafhlcmfdeaaGreatDoorPRunexecPipes7
open Go Go.Mx
namespace Go.Proofs.YtidfafhlcmfdeaaGreatDoor
set_option maxRecDepth 1000000
noncomputable section
theorem xp_fn : Tryz.prog.funcs[5]? = some Tryz.f5 := by kernel_rfl
theorem xp_body : ∃ c, Tryz.f5.body = some c := ⟨_, rfl⟩
theorem xp_alls (n : Int) (p q : Bool) (τ : Nat → Nat) : xpRun τ .sn n p q [] 12 = true := by
  cases n with
  | negSucc m => exact xp_sneg m p q τ
  | ofNat m =>
    match m, p, q with
    | 0, p, q => exact xp_szero p q τ
    | 1, false, false => exact xp_s1ff τ
    | 1, false, true => exact xp_s1ft τ
    | 1, true, false => exact xp_s1tf τ
    | 1, true, true => exact xp_s1tt τ
    | 2, false, false => exact xp_s2ff τ
    | 2, false, true => exact xp_s2ft τ
    | 2, true, false => exact xp_s2tf τ
    | 2, true, true => exact xp_s2tt τ
    | 3, false, false => exact xp_s3ff τ
    | 3, false, true => exact xp_s3ft τ
    | 3, true, false => exact xp_s3tf τ
    | 3, true, true => exact xp_s3tt τ
    | 4, false, false => exact xp_s4ff τ
    | 4, false, true => exact xp_s4ft τ
    | 4, true, false => exact xp_s4tf τ
    | 4, true, true => exact xp_s4tt τ
    | 5, false, false => exact xp_s5ff τ
    | 5, false, true => exact xp_s5ft τ
    | 5, true, false => exact xp_s5tf τ
    | 5, true, true => exact xp_s5tt τ
    | 6, false, false => exact xp_s6ff τ
    | 6, false, true => exact xp_s6ft τ
    | 6, true, false => exact xp_s6tf τ
    | 6, true, true => exact xp_s6tt τ
    | 7, false, false => exact xp_s7ff τ
    | 7, false, true => exact xp_s7ft τ
    | 7, true, false => exact xp_s7tf τ
    | 7, true, true => exact xp_s7tt τ
    | 8, false, false => exact xp_s8ff τ
    | 8, false, true => exact xp_s8ft τ
    | 8, true, false => exact xp_s8tf τ
    | 8, true, true => exact xp_s8tt τ
    | 9, false, false => exact xp_s9ff τ
    | 9, false, true => exact xp_s9ft τ
    | 9, true, false => exact xp_s9tf τ
    | 9, true, true => exact xp_s9tt τ
    | 10, false, false => exact xp_s10ff τ
    | 10, false, true => exact xp_s10ft τ
    | 10, true, false => exact xp_s10tf τ
    | 10, true, true => exact xp_s10tt τ
    | m + 11, p, q => exact xp_sbig m p q τ
theorem xp_alle (n : Int) (p q : Bool) (τ : Nat → Nat) : xpRun τ .se n p q [] 12 = true := by
  cases n with
  | negSucc m => exact xp_eneg m p q τ
  | ofNat m =>
    match m, p, q with
    | 0, p, q => exact xp_ezero p q τ
    | 1, false, false => exact xp_e1ff τ
    | 1, false, true => exact xp_e1ft τ
    | 1, true, false => exact xp_e1tf τ
    | 1, true, true => exact xp_e1tt τ
    | 2, false, false => exact xp_e2ff τ
    | 2, false, true => exact xp_e2ft τ
    | 2, true, false => exact xp_e2tf τ
    | 2, true, true => exact xp_e2tt τ
    | 3, false, false => exact xp_e3ff τ
    | 3, false, true => exact xp_e3ft τ
    | 3, true, false => exact xp_e3tf τ
    | 3, true, true => exact xp_e3tt τ
    | 4, false, false => exact xp_e4ff τ
    | 4, false, true => exact xp_e4ft τ
    | 4, true, false => exact xp_e4tf τ
    | 4, true, true => exact xp_e4tt τ
    | 5, false, false => exact xp_e5ff τ
    | 5, false, true => exact xp_e5ft τ
    | 5, true, false => exact xp_e5tf τ
    | 5, true, true => exact xp_e5tt τ
    | 6, false, false => exact xp_e6ff τ
    | 6, false, true => exact xp_e6ft τ
    | 6, true, false => exact xp_e6tf τ
    | 6, true, true => exact xp_e6tt τ
    | 7, false, false => exact xp_e7ff τ
    | 7, false, true => exact xp_e7ft τ
    | 7, true, false => exact xp_e7tf τ
    | 7, true, true => exact xp_e7tt τ
    | 8, false, false => exact xp_e8ff τ
    | 8, false, true => exact xp_e8ft τ
    | 8, true, false => exact xp_e8tf τ
    | 8, true, true => exact xp_e8tt τ
    | 9, false, false => exact xp_e9ff τ
    | 9, false, true => exact xp_e9ft τ
    | 9, true, false => exact xp_e9tf τ
    | 9, true, true => exact xp_e9tt τ
    | 10, false, false => exact xp_e10ff τ
    | 10, false, true => exact xp_e10ft τ
    | 10, true, false => exact xp_e10tf τ
    | 10, true, true => exact xp_e10tt τ
    | m + 11, p, q => exact xp_ebig m p q τ
theorem xp_allp (ty : Nat) (n : Int) (p q : Bool) (τ : Nat → Nat) : xpRun τ (bytesA 12 1 500) n p q [(12, bytesO 12 1 500 ty)] 14 = true := by
  cases n with
  | negSucc m => exact xp_pneg ty m p q τ
  | ofNat m =>
    match m, p, q with
    | 0, p, q => exact xp_pzero ty p q τ
    | 1, false, false => exact xp_p1ff ty τ
    | 1, false, true => exact xp_p1ft ty τ
    | 1, true, false => exact xp_p1tf ty τ
    | 1, true, true => exact xp_p1tt ty τ
    | 2, false, false => exact xp_p2ff ty τ
    | 2, false, true => exact xp_p2ft ty τ
    | 2, true, false => exact xp_p2tf ty τ
    | 2, true, true => exact xp_p2tt ty τ
    | 3, false, false => exact xp_p3ff ty τ
    | 3, false, true => exact xp_p3ft ty τ
    | 3, true, false => exact xp_p3tf ty τ
    | 3, true, true => exact xp_p3tt ty τ
    | 4, false, false => exact xp_p4ff ty τ
    | 4, false, true => exact xp_p4ft ty τ
    | 4, true, false => exact xp_p4tf ty τ
    | 4, true, true => exact xp_p4tt ty τ
    | 5, false, false => exact xp_p5ff ty τ
    | 5, false, true => exact xp_p5ft ty τ
    | 5, true, false => exact xp_p5tf ty τ
    | 5, true, true => exact xp_p5tt ty τ
    | 6, false, false => exact xp_p6ff ty τ
    | 6, false, true => exact xp_p6ft ty τ
    | 6, true, false => exact xp_p6tf ty τ
    | 6, true, true => exact xp_p6tt ty τ
    | 7, false, false => exact xp_p7ff ty τ
    | 7, false, true => exact xp_p7ft ty τ
    | 7, true, false => exact xp_p7tf ty τ
    | 7, true, true => exact xp_p7tt ty τ
    | 8, false, false => exact xp_p8ff ty τ
    | 8, false, true => exact xp_p8ft ty τ
    | 8, true, false => exact xp_p8tf ty τ
    | 8, true, true => exact xp_p8tt ty τ
    | 9, false, false => exact xp_p9ff ty τ
    | 9, false, true => exact xp_p9ft ty τ
    | 9, true, false => exact xp_p9tf ty τ
    | 9, true, true => exact xp_p9tt ty τ
    | 10, false, false => exact xp_p10ff ty τ
    | 10, false, true => exact xp_p10ft ty τ
    | 10, true, false => exact xp_p10tf ty τ
    | 10, true, true => exact xp_p10tt ty τ
    | m + 11, p, q => exact xp_pbig ty m p q τ
end
end Go.Proofs.YtidfafhlcmfdeaaGreatDoor
