/- The walks of round: halves, the ways -/
import Derived.Deep.DeepCutAuto
import Derived.Deep.RegionHeld3
import Derived.Deep.RegionWith
import Derived.Test.YtcbglkkmblmbnaaDoorRoundA
namespace Go.Proofs.YtcbglkkmblmbnaaDoor
open Go.RowKit

/-- a part held against a half -/
def halfI (p d : Int) : Int := if p < d - p then -1 else if d - p < p then 1 else 0

set_option maxHeartbeats 1000000 in
theorem half_any (u p d : Int) (lo ex : Bool) (w : World) (h0 : 0 ≤ p) (h1 : p ≤ d) (h2 : d ≤ 1000000000000000000) :
    Calls Tryd.prog 59 #[plV u p d lo ex] w fun e w' => e = .returned (.int .i64 (halfI p d)) ∧ Below w.heap.size w w' := by
  by_cases a : p < d - p
  · go_enter Tryd.func59, Tryd.ntmps59
    go_wp2
    go_ret
    exact ⟨ret_int (by unfold halfI; rw [if_pos (by omega)]), by (repeat' (first | with_reducible exact Below.refl _ _ | with_reducible assumption | with_reducible refine Below.drew ?_ | with_reducible refine below_drewN ?_ _ | with_reducible refine Below.setCell ?_ ?_ _ | with_reducible refine Below.alloc ?_ ?_ _ | omega | (simp; done) | (simp; omega)))⟩
  by_cases b : d - p < p
  · go_enter Tryd.func59, Tryd.ntmps59
    go_wp2
    go_ret
    exact ⟨ret_int (by unfold halfI; rw [if_neg (by omega), if_pos (by omega)]), by (repeat' (first | with_reducible exact Below.refl _ _ | with_reducible assumption | with_reducible refine Below.drew ?_ | with_reducible refine below_drewN ?_ _ | with_reducible refine Below.setCell ?_ ?_ _ | with_reducible refine Below.alloc ?_ ?_ _ | omega | (simp; done) | (simp; omega)))⟩
  · go_enter Tryd.func59, Tryd.ntmps59
    go_wp2
    go_ret
    exact ⟨ret_int (by unfold halfI; rw [if_neg (by omega), if_neg (by omega)]), by (repeat' (first | with_reducible exact Below.refl _ _ | with_reducible assumption | with_reducible refine Below.drew ?_ | with_reducible refine below_drewN ?_ _ | with_reducible refine Below.setCell ?_ ?_ _ | with_reducible refine Below.alloc ?_ ?_ _ | omega | (simp; done) | (simp; omega)))⟩

theorem ways_2 (u p d : Int) (lo ex : Bool) (w : World) : Calls Tryd.prog 60 #[plV u p d lo ex] w fun e w' => e = .returned (.bool (false)) ∧ Below w.heap.size w w' := by
  cases lo
  all_goals
    go_enter Tryd.func60, Tryd.ntmps60
    go_wp2
    go_ret
    exact ⟨rfl, by (repeat' (first | with_reducible exact Below.refl _ _ | with_reducible assumption | with_reducible refine Below.drew ?_ | with_reducible refine below_drewN ?_ _ | with_reducible refine Below.setCell ?_ ?_ _ | with_reducible refine Below.alloc ?_ ?_ _ | omega | (simp; done) | (simp; omega)))⟩

theorem ways_3 (u p d : Int) (lo ex : Bool) (w : World) : Calls Tryd.prog 61 #[plV u p d lo ex] w fun e w' => e = .returned (.bool (lo)) ∧ Below w.heap.size w w' := by
  cases lo
  all_goals
    go_enter Tryd.func61, Tryd.ntmps61
    go_wp2
    go_ret
    exact ⟨rfl, by (repeat' (first | with_reducible exact Below.refl _ _ | with_reducible assumption | with_reducible refine Below.drew ?_ | with_reducible refine below_drewN ?_ _ | with_reducible refine Below.setCell ?_ ?_ _ | with_reducible refine Below.alloc ?_ ?_ _ | omega | (simp; done) | (simp; omega)))⟩

theorem ways_4 (u p d : Int) (lo ex : Bool) (w : World) : Calls Tryd.prog 62 #[plV u p d lo ex] w fun e w' => e = .returned (.bool (!lo)) ∧ Below w.heap.size w w' := by
  cases lo
  all_goals
    go_enter Tryd.func62, Tryd.ntmps62
    go_wp2
    go_ret
    exact ⟨rfl, by (repeat' (first | with_reducible exact Below.refl _ _ | with_reducible assumption | with_reducible refine Below.drew ?_ | with_reducible refine below_drewN ?_ _ | with_reducible refine Below.setCell ?_ ?_ _ | with_reducible refine Below.alloc ?_ ?_ _ | omega | (simp; done) | (simp; omega)))⟩

theorem ways_5 (u p d : Int) (lo ex : Bool) (w : World) : Calls Tryd.prog 63 #[plV u p d lo ex] w fun e w' => e = .returned (.bool (false)) ∧ Below w.heap.size w w' := by
  cases lo
  all_goals
    go_enter Tryd.func63, Tryd.ntmps63
    go_wp2
    go_ret
    exact ⟨rfl, by (repeat' (first | with_reducible exact Below.refl _ _ | with_reducible assumption | with_reducible refine Below.drew ?_ | with_reducible refine below_drewN ?_ _ | with_reducible refine Below.setCell ?_ ?_ _ | with_reducible refine Below.alloc ?_ ?_ _ | omega | (simp; done) | (simp; omega)))⟩

theorem ways_6 (u p d : Int) (lo ex : Bool) (w : World) : Calls Tryd.prog 64 #[plV u p d lo ex] w fun e w' => e = .returned (.bool (true)) ∧ Below w.heap.size w w' := by
  cases lo
  all_goals
    go_enter Tryd.func64, Tryd.ntmps64
    go_wp2
    go_ret
    exact ⟨rfl, by (repeat' (first | with_reducible exact Below.refl _ _ | with_reducible assumption | with_reducible refine Below.drew ?_ | with_reducible refine below_drewN ?_ _ | with_reducible refine Below.setCell ?_ ?_ _ | with_reducible refine Below.alloc ?_ ?_ _ | omega | (simp; done) | (simp; omega)))⟩

theorem ways_7 (u p d : Int) (lo ex : Bool) (w : World) : Calls Tryd.prog 65 #[plV u p d lo ex] w fun e w' => e = .returned (.bool (!lo)) ∧ Below w.heap.size w w' := by
  cases lo
  all_goals
    go_enter Tryd.func65, Tryd.ntmps65
    go_wp2
    go_ret
    exact ⟨rfl, by (repeat' (first | with_reducible exact Below.refl _ _ | with_reducible assumption | with_reducible refine Below.drew ?_ | with_reducible refine below_drewN ?_ _ | with_reducible refine Below.setCell ?_ ?_ _ | with_reducible refine Below.alloc ?_ ?_ _ | omega | (simp; done) | (simp; omega)))⟩

theorem ways_8 (u p d : Int) (lo ex : Bool) (w : World) : Calls Tryd.prog 66 #[plV u p d lo ex] w fun e w' => e = .returned (.bool (u.tmod 2 != 0)) ∧ Below w.heap.size w w' := by
  cases h : (u.tmod 2 != 0)
  all_goals
    go_enter Tryd.func66, Tryd.ntmps66
    go_wp2
    go_ret
    exact ⟨ret_bool (by simp), by (repeat' (first | with_reducible exact Below.refl _ _ | with_reducible assumption | with_reducible refine Below.drew ?_ | with_reducible refine below_drewN ?_ _ | with_reducible refine Below.setCell ?_ ?_ _ | with_reducible refine Below.alloc ?_ ?_ _ | omega | (simp; done) | (simp; omega)))⟩

end Go.Proofs.YtcbglkkmblmbnaaDoor
