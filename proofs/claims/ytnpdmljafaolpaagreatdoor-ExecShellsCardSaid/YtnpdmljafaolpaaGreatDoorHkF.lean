/-
  A word of unknown length is read as what it is, and is a pattern of itself. No condition.
-/
import Derived.Test.YtnpdmljafaolpaaGreatDoorFam0
import Derived.Test.YtnpdmljafaolpaaGreatDoorFam1
import Derived.Test.YtnpdmljafaolpaaGreatDoorFam2
import Derived.Test.YtnpdmljafaolpaaGreatDoorFam3
open Go Go.Mx
namespace Go.Proofs.YtnpdmljafaolpaaGreatDoor
set_option maxRecDepth 1000000
noncomputable section
theorem tkAll : ∀ n, n ≤ 60 → 1 ≤ [120, 61].length + n → ∀ τ : Nat → Nat, mkTK τ tbl (putO (tokO 12 97 122 n [120, 61] (some 59) 94) .leaf) (fun h0 => R0 41 (.cons (.p 12 0) .nil) h0 (12 + 3 + n) (tokK 12 97 122 n [120, 61] (some 59) 94 151) (fun _ _ _ => false)) = true
  | 0, _, _ => tk0
  | 1, _, _ => tk1
  | 2, _, _ => tk2
  | 3, _, _ => tk3
  | 4, _, _ => tk4
  | 5, _, _ => tk5
  | 6, _, _ => tk6
  | 7, _, _ => tk7
  | 8, _, _ => tk8
  | 9, _, _ => tk9
  | 10, _, _ => tk10
  | 11, _, _ => tk11
  | 12, _, _ => tk12
  | 13, _, _ => tk13
  | 14, _, _ => tk14
  | 15, _, _ => tk15
  | 16, _, _ => tk16
  | 17, _, _ => tk17
  | 18, _, _ => tk18
  | 19, _, _ => tk19
  | 20, _, _ => tk20
  | 21, _, _ => tk21
  | 22, _, _ => tk22
  | 23, _, _ => tk23
  | 24, _, _ => tk24
  | 25, _, _ => tk25
  | 26, _, _ => tk26
  | 27, _, _ => tk27
  | 28, _, _ => tk28
  | 29, _, _ => tk29
  | 30, _, _ => tk30
  | 31, _, _ => tk31
  | 32, _, _ => tk32
  | 33, _, _ => tk33
  | 34, _, _ => tk34
  | 35, _, _ => tk35
  | 36, _, _ => tk36
  | 37, _, _ => tk37
  | 38, _, _ => tk38
  | 39, _, _ => tk39
  | 40, _, _ => tk40
  | 41, _, _ => tk41
  | 42, _, _ => tk42
  | 43, _, _ => tk43
  | 44, _, _ => tk44
  | 45, _, _ => tk45
  | 46, _, _ => tk46
  | 47, _, _ => tk47
  | 48, _, _ => tk48
  | 49, _, _ => tk49
  | 50, _, _ => tk50
  | 51, _, _ => tk51
  | 52, _, _ => tk52
  | 53, _, _ => tk53
  | 54, _, _ => tk54
  | 55, _, _ => tk55
  | 56, _, _ => tk56
  | 57, _, _ => tk57
  | 58, _, _ => tk58
  | 59, _, _ => tk59
  | 60, _, _ => tk60
  | n + 61, h, _ => absurd h (by omega)
theorem plAll : ∀ n, n ≤ 60 → ∀ τ : Nat → Nat, mkTK τ tbl .leaf (fun h0 => R0 153 (.cons (.w (wordV 97 122 n 12)) .nil) h0 (12 + n) (fun v _ _ => isSame (wordV 97 122 n 12) true v) (fun _ _ _ => false)) = true
  | 0, _ => pl0
  | 1, _ => pl1
  | 2, _ => pl2
  | 3, _ => pl3
  | 4, _ => pl4
  | 5, _ => pl5
  | 6, _ => pl6
  | 7, _ => pl7
  | 8, _ => pl8
  | 9, _ => pl9
  | 10, _ => pl10
  | 11, _ => pl11
  | 12, _ => pl12
  | 13, _ => pl13
  | 14, _ => pl14
  | 15, _ => pl15
  | 16, _ => pl16
  | 17, _ => pl17
  | 18, _ => pl18
  | 19, _ => pl19
  | 20, _ => pl20
  | 21, _ => pl21
  | 22, _ => pl22
  | 23, _ => pl23
  | 24, _ => pl24
  | 25, _ => pl25
  | 26, _ => pl26
  | 27, _ => pl27
  | 28, _ => pl28
  | 29, _ => pl29
  | 30, _ => pl30
  | 31, _ => pl31
  | 32, _ => pl32
  | 33, _ => pl33
  | 34, _ => pl34
  | 35, _ => pl35
  | 36, _ => pl36
  | 37, _ => pl37
  | 38, _ => pl38
  | 39, _ => pl39
  | 40, _ => pl40
  | 41, _ => pl41
  | 42, _ => pl42
  | 43, _ => pl43
  | 44, _ => pl44
  | 45, _ => pl45
  | 46, _ => pl46
  | 47, _ => pl47
  | 48, _ => pl48
  | 49, _ => pl49
  | 50, _ => pl50
  | 51, _ => pl51
  | 52, _ => pl52
  | 53, _ => pl53
  | 54, _ => pl54
  | 55, _ => pl55
  | 56, _ => pl56
  | 57, _ => pl57
  | 58, _ => pl58
  | 59, _ => pl59
  | 60, _ => pl60
  | n + 61, h => absurd h (by omega)
def hkTk : HookF := hkTok tbl 12 97 122 M 60 94 151 [120, 61] (some 59) (hkRun RD 41)
theorem tkOk : HookOk Tryz.prog 12 41 hkTk := hkTok_ok r0 (hkRun_ok rd) tblIn mIn (by decide) tkAll
def hkPl : HookF := hkSame tbl 97 122 M 60 true (hkRun R0 153)
theorem plOk : HookOk Tryz.prog 12 153 hkPl := hkSame_ok r0 (hkRun_ok r0) tblIn mIn (by kernel_rfl) plAll
def hkF : List (Nat × HookF) := (41, hkTk) :: (59, hkAm) :: (60, hkIs) :: (61, hkAt0) :: (153, hkPl) :: (136, hkQ0) :: hkD
theorem hkFok : HKok Tryz.prog 12 (hkL hkF) := hkL_cons tkOk (hkL_cons am (hkL_cons is0 (hkL_cons at0 (hkL_cons plOk (hkL_cons q0 hkDok)))))
end
end Go.Proofs.YtnpdmljafaolpaaGreatDoor
