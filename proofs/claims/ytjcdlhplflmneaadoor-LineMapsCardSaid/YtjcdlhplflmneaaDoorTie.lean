/-
  DERIVED. GIVEN WITH THE SEED: THE PROGRAM's TIES (one call each: nine closed facts by the kernel) AND EACH ROW's TIE, after the 31st guide's Derived/Test/Toyas{Tie, Card}.lean. No idea stands in it: it is a product of the set-up. Laid BY PROGRAM, IN A SANDBOX (cutbox-door.mjs). By AI agents, Wed Nov 11 2026. No macro, syntax, notation, axiom, sorry.
-/
import Derived.Test.YtjcdlhplflmneaaDoorRows
import Derived.LaidByTextLater
import Derived.SevenTiedAt
import Derived.LaidSub
import Derived.LaidOnce
namespace Go.Proofs.YtjcdlhplflmneaaDoor
open Go
set_option maxRecDepth 100000
theorem seatTie1 : Tryd.prog.laidByTextLater [("tithe/api.ErrRange", Rows.laid_tithe_api_ErrRange), ("tithe/api.ErrZero", Rows.laid_tithe_api_ErrZero), ("tithe/api.ErrFrac", Rows.laid_tithe_api_ErrFrac), ("tithe/api.ErrSpan", Rows.laid_tithe_api_ErrSpan), ("tithe/api.ErrScale", Rows.laid_tithe_api_ErrScale), ("tithe/api.ErrMany", Rows.laid_tithe_api_ErrMany), ("tithe/api.ErrNone", Rows.laid_tithe_api_ErrNone)] [.sentinel, .sentinel, .sentinel, .sentinel, .sentinel, .sentinel, .sentinel] true :=
  Program.laidByTextLater_by_one 142 8 2 (by kernel_rfl) (by kernel_rfl) (by kernel_rfl) (by kernel_rfl) (by kernel_rfl) (by kernel_rfl) (fun _ _ => by kernel_rfl)
theorem noOwnUnsafe : Tryd.pinned.checked.prog.headLifts.contains "ownunsafe" = false := by kernel_rfl
theorem tie : Tryd.prog.laidByTextLater [("tithe/api.ErrRange", Rows.laid_tithe_api_ErrRange), ("tithe/api.ErrZero", Rows.laid_tithe_api_ErrZero), ("tithe/api.ErrFrac", Rows.laid_tithe_api_ErrFrac), ("tithe/api.ErrScale", Rows.laid_tithe_api_ErrScale), ("tithe/api.ErrMany", Rows.laid_tithe_api_ErrMany), ("tithe/api.ErrNone", Rows.laid_tithe_api_ErrNone)] [.sentinel, .sentinel, .sentinel, .sentinel, .sentinel, .sentinel] true :=
  Program.laidByTextLater.sub seatTie1 ["tithe/api.ErrRange", "tithe/api.ErrZero", "tithe/api.ErrFrac", "tithe/api.ErrScale", "tithe/api.ErrMany", "tithe/api.ErrNone"] (by kernel_rfl) (by kernel_rfl)
theorem scaleTops_row_tie : Rows.scaleTopsRow.laidByTextAt .later Tryd.pinned [.sentinel, .sentinel, .sentinel, .sentinel, .sentinel, .sentinel] true :=
  OpenClaim.laidByTextAt_later rfl rfl tie noOwnUnsafe
theorem scaleOwn_row_tie : Rows.scaleOwnRow.laidByTextAt .later Tryd.pinned [.sentinel, .sentinel, .sentinel, .sentinel, .sentinel, .sentinel] true :=
  OpenClaim.laidByTextAt_later rfl rfl tie noOwnUnsafe
theorem tie2 : Tryd.prog.laidByTextLater [("tithe/api.ErrSpan", Rows.laid_tithe_api_ErrSpan)] [.sentinel] true :=
  Program.laidByTextLater.sub seatTie1 ["tithe/api.ErrSpan"] (by kernel_rfl) (by kernel_rfl)
theorem lineMakes_row_tie : Rows.lineMakesRow.laidByTextAt .later Tryd.pinned [.sentinel] true :=
  OpenClaim.laidByTextAt_later rfl rfl tie2 noOwnUnsafe
theorem lineJoins_row_tie : Rows.lineJoinsRow.laidByTextAt .later Tryd.pinned [.sentinel] true :=
  OpenClaim.laidByTextAt_later rfl rfl tie2 noOwnUnsafe
theorem lineDays_row_tie : Rows.lineDaysRow.laidByTextAt .later Tryd.pinned [.sentinel] true :=
  OpenClaim.laidByTextAt_later rfl rfl tie2 noOwnUnsafe
theorem lineMaps_row_tie : Rows.lineMapsRow.laidByTextAt .later Tryd.pinned [.sentinel] true :=
  OpenClaim.laidByTextAt_later rfl rfl tie2 noOwnUnsafe
theorem lineAll_row_tie : Rows.lineAllRow.laidByTextAt .later Tryd.pinned [.sentinel] true :=
  OpenClaim.laidByTextAt_later rfl rfl tie2 noOwnUnsafe
theorem scaleTopsUpto_row_tie : Rows.scaleTopsUptoRow.laidByTextAt .later Tryd.pinned [.sentinel, .sentinel, .sentinel, .sentinel, .sentinel, .sentinel] true :=
  OpenClaim.laidByTextAt_later rfl rfl tie noOwnUnsafe
theorem scaleOwnUpto_row_tie : Rows.scaleOwnUptoRow.laidByTextAt .later Tryd.pinned [.sentinel, .sentinel, .sentinel, .sentinel, .sentinel, .sentinel] true :=
  OpenClaim.laidByTextAt_later rfl rfl tie noOwnUnsafe
theorem lineMakesUpto_row_tie : Rows.lineMakesUptoRow.laidByTextAt .later Tryd.pinned [.sentinel] true :=
  OpenClaim.laidByTextAt_later rfl rfl tie2 noOwnUnsafe
theorem lineJoinsUpto_row_tie : Rows.lineJoinsUptoRow.laidByTextAt .later Tryd.pinned [.sentinel] true :=
  OpenClaim.laidByTextAt_later rfl rfl tie2 noOwnUnsafe
theorem lineDaysUpto_row_tie : Rows.lineDaysUptoRow.laidByTextAt .later Tryd.pinned [.sentinel] true :=
  OpenClaim.laidByTextAt_later rfl rfl tie2 noOwnUnsafe
theorem lineMapsUpto_row_tie : Rows.lineMapsUptoRow.laidByTextAt .later Tryd.pinned [.sentinel] true :=
  OpenClaim.laidByTextAt_later rfl rfl tie2 noOwnUnsafe
theorem lineAllUpto_row_tie : Rows.lineAllUptoRow.laidByTextAt .later Tryd.pinned [.sentinel] true :=
  OpenClaim.laidByTextAt_later rfl rfl tie2 noOwnUnsafe
end Go.Proofs.YtjcdlhplflmneaaDoor
