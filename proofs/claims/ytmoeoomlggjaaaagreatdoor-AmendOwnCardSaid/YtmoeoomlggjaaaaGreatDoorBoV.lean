/- From the row's list of variables to Itoa's table. -/
import Derived.Test.YtmoeoomlggjaaaaGreatDoorEnvK
import Derived.Test.YtmoeoomlggjaaaaGreatDoorBoB
namespace Go.Proofs.YtmoeoomlggjaaaaGreatDoor
section
open Go.ChangeShapes Go.WideShapes Go.ChangeAt Go.RowKit

set_option maxRecDepth 100000 in
theorem tab_of_vars {W : World} {laid : List (String × DataW Unit)} {ps : List MemPlace} {name : String} {k : IntKind} {zs : List Int} {g : Nat} {t e : TypeId} {n : Nat}
    (hg : Tryz.prog.globalNamed name = some g) (hty : (Tryz.prog.globals[g]?).map (·.type) = some t) (ht : Tryz.prog.underlying t = some (.array n e)) (he : Tryz.prog.underlying e = some (.int k)) (hce : Tryz.prog.cellsOf e = 1) (hct : Tryz.prog.cellsOf t = n)
    (hl : DataW.LaidVars Tryz.prog W laid ps) (hm : (name, Lib.tabData k zs) ∈ laid) : Lib.TabIs Tryz.prog W name k zs := by
  induction laid generalizing ps with
  | nil => cases hm
  | cons x r ih =>
    obtain ⟨n0, d0⟩ := x
    obtain ⟨g0, t0, cs0, f0, p, q, hg0, ht0, hv0, hd0, hq, rfl⟩ := hl
    rcases List.mem_cons.1 hm with h | h
    · injection h with h1 h2
      subst h1 h2
      obtain rfl := Option.some.inj (hg.symm.trans hg0)
      obtain rfl := Option.some.inj (hty.symm.trans ht0)
      unfold Lib.TabIs
      rw [hv0, ← Lib.cells_of_tab ht he hce hct hd0]
    · exact ih hq h
theorem tab_lt {W : World} {name : String} {k : IntKind} {zs : List Int} {g : Nat} (h : Lib.TabIs Tryz.prog W name k zs) (hg : Tryz.prog.globalNamed name = some g) : g < W.heap.size := by
  unfold Lib.TabIs World.var? at h
  rw [hg] at h
  rcases Nat.lt_or_ge g W.heap.size with h1 | h1
  · exact h1
  · simp [Array.getElem?_eq_none h1] at h

theorem powT_of_laid {W : World} {laid : List (String × DataW Unit)} (h : laidMet Tryz.prog laid W) (h2 : ("internal/strconv.uint64pow10", Lib.tabData .u64 Lib.pow10Tab) ∈ laid) : PowT W := by
  obtain ⟨ps, hl, _⟩ := h
  have b := tab_of_vars (g := 5) (t := 171) (e := 123) (n := 20) (by kernel_rfl) (by kernel_rfl) Tryz.underlying171 Tryz.underlying123 (by kernel_rfl) (by kernel_rfl) hl h2
  exact ⟨b, tab_lt b gPow⟩
end

end Go.Proofs.YtmoeoomlggjaaaaGreatDoor
