/-
  DERIVED. GIVEN WITH THE SEED: THE PROGRAM's TIES (one call each: nine closed facts by the kernel) AND EACH ROW's TIE, after the 31st guide's Derived/Test/Toyas{Tie, Card}.lean. No idea stands in it: it is a product of the set-up. Laid BY PROGRAM, IN A SANDBOX (cutbox-door.mjs). By AI agents, Wed Nov 11 2026. No macro, syntax, notation, axiom, sorry.
-/
import Derived.Test.YthgmgkabnffniaaGreatDoorRows
import Derived.LaidByTextLater
import Derived.SevenTiedAt
import Derived.LaidSub
import Derived.LaidOnce
namespace Go.Proofs.YthgmgkabnffniaaGreatDoor
open Go
set_option maxRecDepth 100000
theorem seatTie1 : Tryz.prog.laidByTextLater [("errors.errorType", Rows.laid_errors_errorType), ("keyhold/keyholdref.names", Rows.laid_keyhold_keyholdref_names), ("keyhold/keyholdref.kindNames", Rows.laid_keyhold_keyholdref_kindNames)] [.handle, .data, .data] true :=
  Program.laidByTextLater_by_one 26 8 16 (by kernel_rfl) (by kernel_rfl) (by kernel_rfl) (by kernel_rfl) (by kernel_rfl) (by kernel_rfl) (fun _ _ => by kernel_rfl)
theorem noOwnUnsafe : Tryz.pinned.checked.prog.headLifts.contains "ownunsafe" = false := by kernel_rfl
theorem tie : Tryz.prog.laidByTextLater [("keyhold/keyholdref.names", Rows.laid_keyhold_keyholdref_names), ("keyhold/keyholdref.kindNames", Rows.laid_keyhold_keyholdref_kindNames)] [.data, .data] true :=
  Program.laidByTextLater.sub seatTie1 ["keyhold/keyholdref.names", "keyhold/keyholdref.kindNames"] (by kernel_rfl) (by kernel_rfl)
theorem topBell_row_tie : Rows.topBellRow.laidByTextAt .later Tryz.pinned [.data, .data] true :=
  OpenClaim.laidByTextAt_later rfl rfl tie noOwnUnsafe
theorem tie2 : Tryz.prog.laidByTextLater [("errors.errorType", Rows.laid_errors_errorType), ("keyhold/keyholdref.names", Rows.laid_keyhold_keyholdref_names), ("keyhold/keyholdref.kindNames", Rows.laid_keyhold_keyholdref_kindNames)] [.handle, .data, .data] true :=
  Program.laidByTextLater.sub seatTie1 ["errors.errorType", "keyhold/keyholdref.names", "keyhold/keyholdref.kindNames"] (by kernel_rfl) (by kernel_rfl)
theorem topCall_row_tie : Rows.topCallRow.laidByTextAt .later Tryz.pinned [.handle, .data, .data] true :=
  OpenClaim.laidByTextAt_later rfl rfl tie2 noOwnUnsafe
theorem topBellUpto_row_tie : Rows.topBellUptoRow.laidByTextAt .later Tryz.pinned [.data, .data] true :=
  OpenClaim.laidByTextAt_later rfl rfl tie noOwnUnsafe
theorem topCallUpto_row_tie : Rows.topCallUptoRow.laidByTextAt .later Tryz.pinned [.handle, .data, .data] true :=
  OpenClaim.laidByTextAt_later rfl rfl tie2 noOwnUnsafe
end Go.Proofs.YthgmgkabnffniaaGreatDoor
