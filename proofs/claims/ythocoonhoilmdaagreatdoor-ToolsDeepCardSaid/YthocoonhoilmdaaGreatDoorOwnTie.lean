/-
  The listed variables tied to the program by its text. No condition.
-/
import Derived.Test.YthocoonhoilmdaaGreatDoorXGoesK
import Derived.Test.YthocoonhoilmdaaGreatDoorCards
import Derived.LaidByTextLater
import Derived.SevenTiedAt
open Go Go.Mx
namespace Go.Proofs.YthocoonhoilmdaaGreatDoor
set_option maxRecDepth 1000000
noncomputable section
abbrev tieL : List (String × DataW Unit) := ((Rows.toolsDeepRow.laid.zip [LaidKind.data, LaidKind.data, LaidKind.data, LaidKind.data, LaidKind.sentinel, LaidKind.sentinel, LaidKind.pinned]).filter (·.2 != LaidKind.pinned)).map (·.1)
theorem tie_w : Tryz.prog.worded (varsWordLater true) = true := by kernel_rfl
theorem tie_w2 : Tryz.prog.worded (varsWordLater !true) = false := by kernel_rfl
theorem tie_r : Tryz.prog.worded rootWordLater = true := by kernel_rfl
theorem tie_k : tieL.map (fun x => Tryz.prog.kindOfLater x.1) = [LaidKind.data, LaidKind.data, LaidKind.data, LaidKind.data, LaidKind.sentinel, LaidKind.sentinel].map some := by kernel_rfl
theorem tie_g : (Tryz.prog.funcNamed "gosem.cut.vars").isSome = true := by kernel_rfl
theorem tie_n : varsNamedLaterB Tryz.prog (varsId Tryz.prog) tieL = true := by kernel_rfl
theorem tie_d (os : Os) (tape : Tape) : varsDone Tryz.prog 400 (varsId Tryz.prog) os tape = true := by kernel_rfl
theorem tie_1 (os : Os) (tape : Tape) : (DataW.laidRun Tryz.prog (varsWorld Tryz.prog 400 (varsId Tryz.prog) os tape).memory 8 (tieL.map (·.1))).map (·.1) = some tieL := by kernel_rfl
theorem tie_p (os : Os) (tape : Tape) : (DataW.laidRun Tryz.prog (varsWorld Tryz.prog 400 (varsId Tryz.prog) os tape).memory 8 (tieL.map (·.1))).map (·.2) = some (rowsP [(7, 32), (8, 64), (4, 20), (6, 32), (3, 1), (14, 1), (2, 1), (15, 1)]) := by kernel_rfl
theorem tie_q (os : Os) (tape : Tape) : laidRowsB Tryz.prog (varsWorld Tryz.prog 400 (varsId Tryz.prog) os tape).memory (rowsP [(7, 32), (8, 64), (4, 20), (6, 32), (3, 1), (14, 1), (2, 1), (15, 1)]) = true := by kernel_rfl
theorem tieOwn : Tryz.prog.laidByTextLater tieL [LaidKind.data, LaidKind.data, LaidKind.data, LaidKind.data, LaidKind.sentinel, LaidKind.sentinel] true :=
  Program.laidByTextLater_by_run 400 8 tie_w tie_w2 tie_r tie_k tie_g tie_n tie_d tie_1 (fun os tape => laid_by_places (tie_p os tape) (by decide) (tie_q os tape))
theorem pin1 : Tryz.pinned.checked.prog.pinnedFits "unicode/utf8.first" = true := by kernel_rfl
theorem pin2 : Pinned.datum "unicode/utf8.first" = some Rows.laid_unicode_utf8_first := by kernel_rfl
theorem noOwnUnsafe1 : Tryz.pinned.checked.prog.headLifts.contains "ownunsafe" = false := by kernel_rfl
theorem listed1 : Tryz.pinned.checked.prog.listedFits Rows.toolsDeepRow.laid = true := by
  unfold Program.listedFits
  rw [noOwnUnsafe1]
  kernel_rfl
end
end Go.Proofs.YthocoonhoilmdaaGreatDoor
