/-
  DERIVED. GIVEN WITH THE SEED: THE PROGRAM's TIES (one call each: nine closed facts by the kernel) AND EACH ROW's TIE, after the 31st guide's Derived/Test/Toyas{Tie, Card}.lean. No idea stands in it: it is a product of the set-up. Laid BY PROGRAM, IN A SANDBOX (cutbox-door.mjs). By AI agents, Wed Nov 11 2026. No macro, syntax, notation, axiom, sorry.
-/
import Derived.Test.YtmodofbelpaelaaDoorRows
import Derived.LaidByTextLater
import Derived.SevenTiedAt
import Derived.LaidSub
import Derived.LaidOnce
namespace Go.Proofs.YtmodofbelpaelaaDoor
open Go
set_option maxRecDepth 100000
theorem seatTie1 : Tryd.prog.laidByTextLater [("math/bits.deBruijn32tab", Rows.laid_math_bits_deBruijn32tab), ("math/bits.deBruijn64tab", Rows.laid_math_bits_deBruijn64tab), ("internal/strconv.uint64pow10", Rows.laid_internal_strconv_uint64pow10), ("tithe/api.ErrRange", Rows.laid_tithe_api_ErrRange), ("tithe/api.ErrZero", Rows.laid_tithe_api_ErrZero), ("tithe/api.ErrFrac", Rows.laid_tithe_api_ErrFrac), ("tithe/api.ErrDay", Rows.laid_tithe_api_ErrDay), ("tithe/api.ErrSpan", Rows.laid_tithe_api_ErrSpan), ("tithe/api.ErrScale", Rows.laid_tithe_api_ErrScale), ("tithe/api.ErrMany", Rows.laid_tithe_api_ErrMany), ("tithe/api.ErrNone", Rows.laid_tithe_api_ErrNone), ("tithe/day.months", Rows.laid_tithe_day_months)] [.data, .data, .data, .sentinel, .sentinel, .sentinel, .sentinel, .sentinel, .sentinel, .sentinel, .sentinel, .data] true :=
  Program.laidByTextLater_by_one 181 8 65 (by kernel_rfl) (by kernel_rfl) (by kernel_rfl) (by kernel_rfl) (by kernel_rfl) (by kernel_rfl) (fun _ _ => by kernel_rfl)
theorem noOwnUnsafe : Tryd.pinned.checked.prog.headLifts.contains "ownunsafe" = false := by kernel_rfl
theorem tie : Tryd.prog.laidByTextLater [("tithe/api.ErrRange", Rows.laid_tithe_api_ErrRange), ("tithe/api.ErrZero", Rows.laid_tithe_api_ErrZero), ("tithe/api.ErrFrac", Rows.laid_tithe_api_ErrFrac), ("tithe/api.ErrScale", Rows.laid_tithe_api_ErrScale), ("tithe/api.ErrMany", Rows.laid_tithe_api_ErrMany), ("tithe/api.ErrNone", Rows.laid_tithe_api_ErrNone)] [.sentinel, .sentinel, .sentinel, .sentinel, .sentinel, .sentinel] true :=
  Program.laidByTextLater.sub seatTie1 ["tithe/api.ErrRange", "tithe/api.ErrZero", "tithe/api.ErrFrac", "tithe/api.ErrScale", "tithe/api.ErrMany", "tithe/api.ErrNone"] (by kernel_rfl) (by kernel_rfl)
theorem scaleTops_row_tie : Rows.scaleTopsRow.laidByTextAt .later Tryd.pinned [.sentinel, .sentinel, .sentinel, .sentinel, .sentinel, .sentinel] true :=
  OpenClaim.laidByTextAt_later rfl rfl tie noOwnUnsafe
theorem scaleOwn_row_tie : Rows.scaleOwnRow.laidByTextAt .later Tryd.pinned [.sentinel, .sentinel, .sentinel, .sentinel, .sentinel, .sentinel] true :=
  OpenClaim.laidByTextAt_later rfl rfl tie noOwnUnsafe
theorem tie2 : Tryd.prog.laidByTextLater [("tithe/api.ErrSpan", Rows.laid_tithe_api_ErrSpan)] [.sentinel] true :=
  Program.laidByTextLater.sub seatTie1 ["tithe/api.ErrSpan"] (by kernel_rfl) (by kernel_rfl)
theorem lineLaid_row_tie : Rows.lineLaidRow.laidByTextAt .later Tryd.pinned [.sentinel] true :=
  OpenClaim.laidByTextAt_later rfl rfl tie2 noOwnUnsafe
theorem tie3 : Tryd.prog.laidByTextLater [("math/bits.deBruijn32tab", Rows.laid_math_bits_deBruijn32tab), ("math/bits.deBruijn64tab", Rows.laid_math_bits_deBruijn64tab), ("internal/strconv.uint64pow10", Rows.laid_internal_strconv_uint64pow10), ("tithe/api.ErrDay", Rows.laid_tithe_api_ErrDay), ("tithe/api.ErrSpan", Rows.laid_tithe_api_ErrSpan), ("tithe/day.months", Rows.laid_tithe_day_months)] [.data, .data, .data, .sentinel, .sentinel, .data] true :=
  Program.laidByTextLater.sub seatTie1 ["math/bits.deBruijn32tab", "math/bits.deBruijn64tab", "internal/strconv.uint64pow10", "tithe/api.ErrDay", "tithe/api.ErrSpan", "tithe/day.months"] (by kernel_rfl) (by kernel_rfl)
theorem dayOwn_row_tie : Rows.dayOwnRow.laidByTextAt .later Tryd.pinned [.data, .data, .data, .sentinel, .sentinel, .data] true :=
  OpenClaim.laidByTextAt_later rfl rfl tie3 noOwnUnsafe
theorem scaleTopsUpto_row_tie : Rows.scaleTopsUptoRow.laidByTextAt .later Tryd.pinned [.sentinel, .sentinel, .sentinel, .sentinel, .sentinel, .sentinel] true :=
  OpenClaim.laidByTextAt_later rfl rfl tie noOwnUnsafe
theorem scaleOwnUpto_row_tie : Rows.scaleOwnUptoRow.laidByTextAt .later Tryd.pinned [.sentinel, .sentinel, .sentinel, .sentinel, .sentinel, .sentinel] true :=
  OpenClaim.laidByTextAt_later rfl rfl tie noOwnUnsafe
theorem lineLaidUpto_row_tie : Rows.lineLaidUptoRow.laidByTextAt .later Tryd.pinned [.sentinel] true :=
  OpenClaim.laidByTextAt_later rfl rfl tie2 noOwnUnsafe
theorem dayOwnUpto_row_tie : Rows.dayOwnUptoRow.laidByTextAt .later Tryd.pinned [.data, .data, .data, .sentinel, .sentinel, .data] true :=
  OpenClaim.laidByTextAt_later rfl rfl tie3 noOwnUnsafe
end Go.Proofs.YtmodofbelpaelaaDoor
