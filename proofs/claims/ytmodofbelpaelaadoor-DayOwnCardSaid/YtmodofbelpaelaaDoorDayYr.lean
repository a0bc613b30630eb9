/- Year, and the walk of DayYears. -/
import Derived.Test.YtmodofbelpaelaaDoorDayE
import Derived.Deep.RegionHeld3
namespace Go.Proofs.YtmodofbelpaelaaDoor
open Go.RowKit

theorem setBlk0 {w : World} {g : Nat} {x y : Value} {t : TypeId} (h : w.heap[g]? = some (.cells #[x, y] t (0, 0))) (u : Value) : (w.setCell ⟨g, 0, none⟩ u).heap[g]? = some (.cells #[u, y] t (0, 0)) := by
  simp [World.setCell, Array.getElem?_modify, h]
theorem setBlk1 {w : World} {g : Nat} {x y : Value} {t : TypeId} (h : w.heap[g]? = some (.cells #[x, y] t (0, 0))) (u : Value) : (w.setCell ⟨g, 1, none⟩ u).heap[g]? = some (.cells #[x, u] t (0, 0)) := by
  simp [World.setCell, Array.getElem?_modify, h]

theorem date_first (n : Int) (h1 : 1 ≤ n) (h2 : n ≤ 9999) : DateIs (aheadL n) n 0 1 :=
  ⟨⟨h1, h2⟩, by decide, ⟨by omega, by have := lenK_pos n (k := 0) (by decide); omega⟩, by simp [cumL]⟩
theorem date_leap (n : Int) (h1 : 1 ≤ n) (h2 : n ≤ 9999) (hl : leapB n = true) : DateIs (aheadL n + 59) n 1 29 :=
  ⟨⟨h1, h2⟩, by decide, ⟨by omega, by simp [lenK, hl]⟩, by simp [cumL, lenK, monthsL]; omega⟩
theorem date_noleap (n : Int) (hl : leapB n = false) : NoDate n 2 29 := fun k e hh => by
  obtain rfl : k = 1 := by omega
  have : lenK n 1 = 28 := by simp [lenK, hl, monthsL]
  omega

end Go.Proofs.YtmodofbelpaelaaDoor
