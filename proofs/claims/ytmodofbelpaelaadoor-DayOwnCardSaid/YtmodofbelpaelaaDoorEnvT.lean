/- From the row's list of variables to the tables that the calendar reads. -/
import Derived.Test.YtmodofbelpaelaaDoorEnv
import Derived.Test.YtmodofbelpaelaaDoorCalA
namespace Go.Proofs.YtmodofbelpaelaaDoor
open Go.ChangeShapes Go.WideShapes Go.ChangeAt Go.RowKit

set_option maxRecDepth 100000 in
theorem tab_of_vars {W : World} {laid : List (String × DataW Unit)} {ps : List MemPlace} {name : String} {k : IntKind} {zs : List Int} {g : Nat} {t e : TypeId} {n : Nat}
    (hg : Tryd.prog.globalNamed name = some g) (hty : (Tryd.prog.globals[g]?).map (·.type) = some t) (ht : Tryd.prog.underlying t = some (.array n e)) (he : Tryd.prog.underlying e = some (.int k)) (hce : Tryd.prog.cellsOf e = 1) (hct : Tryd.prog.cellsOf t = n)
    (hl : DataW.LaidVars Tryd.prog W laid ps) (hm : (name, Lib.tabData k zs) ∈ laid) : Lib.TabIs Tryd.prog W name k zs := by
  induction laid generalizing ps with
  | nil => cases hm
  | cons x r ih =>
    obtain ⟨n0, d0⟩ := x
    obtain ⟨g0, t0, cs0, f0, p, q, hg0, ht0, hv0, hd0, hq, rfl⟩ := hl
    rcases List.mem_cons.1 hm with h | h
    · injection h with h1 h2
      subst h1 h2
      obtain rfl := Option.some.inj (hg.symm.trans hg0)
      obtain rfl := Option.some.inj (hty.symm.trans ht0)
      unfold Lib.TabIs
      rw [hv0, ← Lib.cells_of_tab ht he hce hct hd0]
    · exact ih hq h
theorem tab_lt {W : World} {name : String} {k : IntKind} {zs : List Int} {g : Nat} (h : Lib.TabIs Tryd.prog W name k zs) (hg : Tryd.prog.globalNamed name = some g) : g < W.heap.size := by
  unfold Lib.TabIs World.var? at h
  rw [hg] at h
  rcases Nat.lt_or_ge g W.heap.size with h1 | h1
  · exact h1
  · simp [Array.getElem?_eq_none h1] at h

theorem tabs_of_laid {W : World} {laid : List (String × DataW Unit)} (h : laidMet Tryd.prog laid W) (h1 : ("tithe/day.months", Lib.tabData .i64 monthsL) ∈ laid) (h2 : ("internal/strconv.uint64pow10", Lib.tabData .u64 Lib.pow10Tab) ∈ laid) : Tabs W := by
  obtain ⟨ps, hl, _⟩ := h
  have a := tab_of_vars (g := 6) (t := 186) (e := 3) (n := 12) (by kernel_rfl) (by kernel_rfl) Tryd.underlying186 Tryd.underlying3 (by kernel_rfl) (by kernel_rfl) hl h1
  have b := tab_of_vars (g := 9) (t := 241) (e := 198) (n := 20) (by kernel_rfl) (by kernel_rfl) Tryd.underlying241 Tryd.underlying198 (by kernel_rfl) (by kernel_rfl) hl h2
  exact ⟨a, b, tab_lt a gMonths, tab_lt b gPow⟩

end Go.Proofs.YtmodofbelpaelaaDoor
