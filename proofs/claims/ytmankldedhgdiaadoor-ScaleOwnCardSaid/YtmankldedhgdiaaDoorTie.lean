/-
  DERIVED. GIVEN WITH THE SEED: THE PROGRAM's TIES (one call each: nine closed facts by the kernel) AND EACH ROW's TIE, after the 31st guide's Derived/Test/Toyas{Tie, Card}.lean. No idea stands in it: it is a product of the set-up. Laid BY PROGRAM, IN A SANDBOX (cutbox-door.mjs). By AI agents, Wed Nov 11 2026. No macro, syntax, notation, axiom, sorry.
-/
import Derived.Test.YtmankldedhgdiaaDoorRows
import Derived.LaidByTextLater
import Derived.SevenTiedAt
import Derived.LaidSub
import Derived.LaidOnce
namespace Go.Proofs.YtmankldedhgdiaaDoor
open Go
set_option maxRecDepth 100000
theorem seatTie1 : Tryd.prog.laidByTextLater [("tithe/api.ErrRange", Rows.laid_tithe_api_ErrRange), ("tithe/api.ErrZero", Rows.laid_tithe_api_ErrZero), ("tithe/api.ErrFrac", Rows.laid_tithe_api_ErrFrac), ("tithe/api.ErrScale", Rows.laid_tithe_api_ErrScale), ("tithe/api.ErrMany", Rows.laid_tithe_api_ErrMany), ("tithe/api.ErrNone", Rows.laid_tithe_api_ErrNone)] [.sentinel, .sentinel, .sentinel, .sentinel, .sentinel, .sentinel] true :=
  Program.laidByTextLater_by_one 123 8 2 (by kernel_rfl) (by kernel_rfl) (by kernel_rfl) (by kernel_rfl) (by kernel_rfl) (by kernel_rfl) (fun _ _ => by kernel_rfl)
theorem noOwnUnsafe : Tryd.pinned.checked.prog.headLifts.contains "ownunsafe" = false := by kernel_rfl
theorem tie : Tryd.prog.laidByTextLater [("tithe/api.ErrRange", Rows.laid_tithe_api_ErrRange), ("tithe/api.ErrZero", Rows.laid_tithe_api_ErrZero), ("tithe/api.ErrFrac", Rows.laid_tithe_api_ErrFrac), ("tithe/api.ErrScale", Rows.laid_tithe_api_ErrScale), ("tithe/api.ErrMany", Rows.laid_tithe_api_ErrMany), ("tithe/api.ErrNone", Rows.laid_tithe_api_ErrNone)] [.sentinel, .sentinel, .sentinel, .sentinel, .sentinel, .sentinel] true :=
  Program.laidByTextLater.sub seatTie1 ["tithe/api.ErrRange", "tithe/api.ErrZero", "tithe/api.ErrFrac", "tithe/api.ErrScale", "tithe/api.ErrMany", "tithe/api.ErrNone"] (by kernel_rfl) (by kernel_rfl)
theorem scaleOwn_row_tie : Rows.scaleOwnRow.laidByTextAt .later Tryd.pinned [.sentinel, .sentinel, .sentinel, .sentinel, .sentinel, .sentinel] true :=
  OpenClaim.laidByTextAt_later rfl rfl tie noOwnUnsafe
theorem scaleOwnUpto_row_tie : Rows.scaleOwnUptoRow.laidByTextAt .later Tryd.pinned [.sentinel, .sentinel, .sentinel, .sentinel, .sentinel, .sentinel] true :=
  OpenClaim.laidByTextAt_later rfl rfl tie noOwnUnsafe
end Go.Proofs.YtmankldedhgdiaaDoor
