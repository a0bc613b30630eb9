/-
  DERIVED. GIVEN WITH THE SEED: THE PROGRAM's TIES (one call each: nine closed facts by the kernel) AND EACH ROW's TIE, after the 31st guide's Derived/Test/Toyas{Tie, Card}.lean. No idea stands in it: it is a product of the set-up. Laid BY PROGRAM, IN A SANDBOX (cutbox-door.mjs). By AI agents, Wed Nov 11 2026. No macro, syntax, notation, axiom, sorry.
-/
import Derived.Test.YtngckppnaflciaaDoorRows
import Derived.LaidByTextLater
import Derived.SevenTiedAt
import Derived.LaidSub
import Derived.LaidOnce
namespace Go.Proofs.YtngckppnaflciaaDoor
open Go
set_option maxRecDepth 100000
theorem seatTie1 : Tryd.prog.laidByTextLater [("unicode/utf8.acceptRanges", Rows.laid_unicode_utf8_acceptRanges), ("tithe/api.ErrFrac", Rows.laid_tithe_api_ErrFrac), ("tithe/api.ErrRound", Rows.laid_tithe_api_ErrRound), ("tithe/api.ErrDay", Rows.laid_tithe_api_ErrDay), ("tithe/api.ErrSpan", Rows.laid_tithe_api_ErrSpan), ("tithe/api.ErrName", Rows.laid_tithe_api_ErrName), ("tithe/api.ErrKind", Rows.laid_tithe_api_ErrKind), ("tithe/api.ErrScale", Rows.laid_tithe_api_ErrScale), ("tithe/api.ErrProv", Rows.laid_tithe_api_ErrProv), ("tithe/api.ErrTwice", Rows.laid_tithe_api_ErrTwice), ("tithe/api.ErrMany", Rows.laid_tithe_api_ErrMany), ("tithe/api.ErrClosed", Rows.laid_tithe_api_ErrClosed), ("tithe/api.ErrLong", Rows.laid_tithe_api_ErrLong)] [.data, .sentinel, .sentinel, .sentinel, .sentinel, .sentinel, .sentinel, .sentinel, .sentinel, .sentinel, .sentinel, .sentinel, .sentinel] true :=
  Program.laidByTextLater_by_one 247 8 33 (by kernel_rfl) (by kernel_rfl) (by kernel_rfl) (by kernel_rfl) (by kernel_rfl) (by kernel_rfl) (fun _ _ => by kernel_rfl)
theorem pin_laid_unicode_utf8_first : Tryd.pinned.checked.prog.pinnedFits "unicode/utf8.first" = true := by kernel_rfl
theorem noOwnUnsafe : Tryd.pinned.checked.prog.headLifts.contains "ownunsafe" = false := by kernel_rfl
theorem fits1 : Tryd.pinned.checked.prog.listedFits [("unicode/utf8.acceptRanges", Rows.laid_unicode_utf8_acceptRanges), ("tithe/api.ErrFrac", Rows.laid_tithe_api_ErrFrac), ("tithe/api.ErrRound", Rows.laid_tithe_api_ErrRound), ("tithe/api.ErrDay", Rows.laid_tithe_api_ErrDay), ("tithe/api.ErrSpan", Rows.laid_tithe_api_ErrSpan), ("tithe/api.ErrName", Rows.laid_tithe_api_ErrName), ("tithe/api.ErrKind", Rows.laid_tithe_api_ErrKind), ("tithe/api.ErrScale", Rows.laid_tithe_api_ErrScale), ("tithe/api.ErrProv", Rows.laid_tithe_api_ErrProv), ("tithe/api.ErrTwice", Rows.laid_tithe_api_ErrTwice), ("tithe/api.ErrMany", Rows.laid_tithe_api_ErrMany), ("tithe/api.ErrClosed", Rows.laid_tithe_api_ErrClosed), ("tithe/api.ErrLong", Rows.laid_tithe_api_ErrLong), ("unicode/utf8.first", Rows.laid_unicode_utf8_first)] = true := by
  unfold Program.listedFits
  rw [noOwnUnsafe]
  kernel_rfl
theorem tie : Tryd.prog.laidByTextLater [("unicode/utf8.acceptRanges", Rows.laid_unicode_utf8_acceptRanges), ("tithe/api.ErrFrac", Rows.laid_tithe_api_ErrFrac), ("tithe/api.ErrRound", Rows.laid_tithe_api_ErrRound), ("tithe/api.ErrDay", Rows.laid_tithe_api_ErrDay), ("tithe/api.ErrSpan", Rows.laid_tithe_api_ErrSpan), ("tithe/api.ErrName", Rows.laid_tithe_api_ErrName), ("tithe/api.ErrKind", Rows.laid_tithe_api_ErrKind), ("tithe/api.ErrScale", Rows.laid_tithe_api_ErrScale), ("tithe/api.ErrProv", Rows.laid_tithe_api_ErrProv), ("tithe/api.ErrTwice", Rows.laid_tithe_api_ErrTwice), ("tithe/api.ErrMany", Rows.laid_tithe_api_ErrMany), ("tithe/api.ErrClosed", Rows.laid_tithe_api_ErrClosed), ("tithe/api.ErrLong", Rows.laid_tithe_api_ErrLong)] [.data, .sentinel, .sentinel, .sentinel, .sentinel, .sentinel, .sentinel, .sentinel, .sentinel, .sentinel, .sentinel, .sentinel, .sentinel] true :=
  Program.laidByTextLater.sub seatTie1 ["unicode/utf8.acceptRanges", "tithe/api.ErrFrac", "tithe/api.ErrRound", "tithe/api.ErrDay", "tithe/api.ErrSpan", "tithe/api.ErrName", "tithe/api.ErrKind", "tithe/api.ErrScale", "tithe/api.ErrProv", "tithe/api.ErrTwice", "tithe/api.ErrMany", "tithe/api.ErrClosed", "tithe/api.ErrLong"] (by kernel_rfl) (by kernel_rfl)
theorem bookAnyOrder_row_tie : Rows.bookAnyOrderRow.laidByTextAt .later Tryd.pinned [.data, .sentinel, .sentinel, .sentinel, .sentinel, .sentinel, .sentinel, .sentinel, .sentinel, .sentinel, .sentinel, .sentinel, .sentinel, .pinned] true :=
  OpenClaim.laidByTextAt_pinned rfl rfl tie rfl rfl rfl rfl (fun y hy _e => by
    simp only [Rows.bookAnyOrderRow, List.zip_cons_cons, List.zip_nil_right, List.mem_cons, List.mem_nil_iff, or_false] at hy
    rcases hy with rfl | rfl | rfl | rfl | rfl | rfl | rfl | rfl | rfl | rfl | rfl | rfl | rfl | rfl
    · cases _e
    · cases _e
    · cases _e
    · cases _e
    · cases _e
    · cases _e
    · cases _e
    · cases _e
    · cases _e
    · cases _e
    · cases _e
    · cases _e
    · cases _e
    · exact ⟨pin_laid_unicode_utf8_first, by kernel_rfl⟩) fits1
theorem bookAnyOrderUpto_row_tie : Rows.bookAnyOrderUptoRow.laidByTextAt .later Tryd.pinned [.data, .sentinel, .sentinel, .sentinel, .sentinel, .sentinel, .sentinel, .sentinel, .sentinel, .sentinel, .sentinel, .sentinel, .sentinel, .pinned] true :=
  OpenClaim.laidByTextAt_pinned rfl rfl tie rfl rfl rfl rfl (fun y hy _e => by
    simp only [Rows.bookAnyOrderUptoRow, List.zip_cons_cons, List.zip_nil_right, List.mem_cons, List.mem_nil_iff, or_false] at hy
    rcases hy with rfl | rfl | rfl | rfl | rfl | rfl | rfl | rfl | rfl | rfl | rfl | rfl | rfl | rfl
    · cases _e
    · cases _e
    · cases _e
    · cases _e
    · cases _e
    · cases _e
    · cases _e
    · cases _e
    · cases _e
    · cases _e
    · cases _e
    · cases _e
    · cases _e
    · exact ⟨pin_laid_unicode_utf8_first, by kernel_rfl⟩) fits1
end Go.Proofs.YtngckppnaflciaaDoor
