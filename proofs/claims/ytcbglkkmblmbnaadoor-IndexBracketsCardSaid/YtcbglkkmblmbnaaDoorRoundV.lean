/- The walks of round: the table of the ways -/
import Derived.Deep.DeepCutAuto
import Derived.Deep.RegionHeld3
import Derived.Deep.RegionWith
import Derived.Test.YtcbglkkmblmbnaaDoorRoundT
namespace Go.Proofs.YtcbglkkmblmbnaaDoor
open Go.RowKit

theorem half_three (p d : Int) : halfI p d = -1 ∨ halfI p d = 1 ∨ halfI p d = 0 := by
  unfold halfI
  split
  · exact .inl rfl
  · split
    · exact .inr (.inl rfl)
    · exact .inr (.inr rfl)
/-- whether the upper neighbour is taken -/
def tieI (mode u : Int) (lo : Bool) : Bool := if mode = 5 then !lo else u.tmod 2 != 0
def nearI (mode u p d : Int) (lo : Bool) : Bool := if halfI p d = 0 then tieI mode u lo else decide (0 < halfI p d)
def upI (mode u p d : Int) (lo : Bool) : Bool := if mode = 1 then lo else if mode = 2 then !lo else if mode = 3 then false else if mode = 4 then true else nearI mode u p d lo

set_option maxHeartbeats 2000000 in
theorem near_5 (g : Nat) (u p d : Int) (lo ex : Bool) (w : World) (T : Hid (w.heap[g]? = some (.cells #[.func (.func 65) #[] #[]] 78 (0, 0)))) (h0 : 0 ≤ p) (h1 : p ≤ d) (h2 : d ≤ 1000000000000000000) :
    Calls Tryd.prog 58 #[plV u p d lo ex, .pointer (some ⟨g, 0, none⟩)] w fun e w' => e = .returned (.bool (nearI 5 u p d lo)) ∧ Below w.heap.size w w' := by
  have HC := Lib.hid (half_any u p d lo ex)
  have three := half_three p d
  have lg := lt_of_H T
  obtain ⟨h, hh⟩ : ∃ h, halfI p d = h := ⟨_, rfl⟩
  rw [hh] at HC three
  have HN : Hid (nearI 5 u p d lo = if h = 0 then tieI 5 u lo else decide (0 < h)) := by show _ = _; unfold nearI; rw [hh]
  clear hh
  rcases three with rfl | rfl | rfl
  · go_enter Tryd.func58, Tryd.ntmps58
    go_wp2_with fail
    refine (HC.out _ h0 h1 h2).mono ?_
    rintro e w1 ⟨rfl, hb1⟩
    have hw1 : Below w.heap.size w w1 := stepH (by (repeat' (first | with_reducible exact Below.refl _ _ | with_reducible assumption | with_reducible refine Below.drew ?_ | with_reducible refine below_drewN ?_ _ | with_reducible refine Below.setCell ?_ ?_ _ | with_reducible refine Below.alloc ?_ ?_ _ | omega | (simp; done) | (simp; omega)))) hb1
    replace T := keepH hb1 (blk_old T.out)
    have P := keepH hb1 (g := w.heap.size) (blk_new rfl)
    have z1 := hw1.size
    clear hb1
    have cT := cellH T
    obtain ⟨lT, lT1, lT2⟩ := ltH T
    have cP := cellH P
    obtain ⟨lP, lP1, lP2⟩ := ltH P
    go_wp2_with fail
    go_ret
    exact ⟨ret_bool (by rw [HN.out]; rfl), hw1⟩
  · go_enter Tryd.func58, Tryd.ntmps58
    go_wp2_with fail
    refine (HC.out _ h0 h1 h2).mono ?_
    rintro e w1 ⟨rfl, hb1⟩
    have hw1 : Below w.heap.size w w1 := stepH (by (repeat' (first | with_reducible exact Below.refl _ _ | with_reducible assumption | with_reducible refine Below.drew ?_ | with_reducible refine below_drewN ?_ _ | with_reducible refine Below.setCell ?_ ?_ _ | with_reducible refine Below.alloc ?_ ?_ _ | omega | (simp; done) | (simp; omega)))) hb1
    replace T := keepH hb1 (blk_old T.out)
    have P := keepH hb1 (g := w.heap.size) (blk_new rfl)
    have z1 := hw1.size
    clear hb1
    have cT := cellH T
    obtain ⟨lT, lT1, lT2⟩ := ltH T
    have cP := cellH P
    obtain ⟨lP, lP1, lP2⟩ := ltH P
    go_wp2_with fail
    go_ret
    exact ⟨ret_bool (by rw [HN.out]; rfl), hw1⟩
  · go_enter Tryd.func58, Tryd.ntmps58
    go_wp2_with fail
    refine (HC.out _ h0 h1 h2).mono ?_
    rintro e w1 ⟨rfl, hb1⟩
    have hw1 : Below w.heap.size w w1 := stepH (by (repeat' (first | with_reducible exact Below.refl _ _ | with_reducible assumption | with_reducible refine Below.drew ?_ | with_reducible refine below_drewN ?_ _ | with_reducible refine Below.setCell ?_ ?_ _ | with_reducible refine Below.alloc ?_ ?_ _ | omega | (simp; done) | (simp; omega)))) hb1
    replace T := keepH hb1 (blk_old T.out)
    have P := keepH hb1 (g := w.heap.size) (blk_new rfl)
    have z1 := hw1.size
    clear hb1
    have cT := cellH T
    obtain ⟨lT, lT1, lT2⟩ := ltH T
    have cP := cellH P
    obtain ⟨lP, lP1, lP2⟩ := ltH P
    go_wp2_with fail
    refine (ways_7 u p d lo ex _).mono ?_
    rintro e w2 ⟨rfl, hb2⟩
    have hw2 : Below w.heap.size w w2 := stepH (by (repeat' (first | with_reducible exact Below.refl _ _ | with_reducible assumption | with_reducible refine Below.drew ?_ | with_reducible refine below_drewN ?_ _ | with_reducible refine Below.setCell ?_ ?_ _ | with_reducible refine Below.alloc ?_ ?_ _ | omega | (simp; done) | (simp; omega)))) hb2
    replace T := keepH hb2 T.out
    replace P := keepH hb2 P.out
    have z2 := hw2.size
    clear hb2 hw1 z1
    clear cT lT lT1 lT2 cP lP lP1 lP2
    have cT := cellH T
    obtain ⟨lT, lT1, lT2⟩ := ltH T
    have cP := cellH P
    obtain ⟨lP, lP1, lP2⟩ := ltH P
    go_wp2_with fail
    go_ret
    exact ⟨ret_bool (by rw [HN.out]; rfl), hw2⟩

set_option maxHeartbeats 2000000 in
theorem near_6 (g : Nat) (u p d : Int) (lo ex : Bool) (w : World) (T : Hid (w.heap[g]? = some (.cells #[.func (.func 66) #[] #[]] 78 (0, 0)))) (h0 : 0 ≤ p) (h1 : p ≤ d) (h2 : d ≤ 1000000000000000000) :
    Calls Tryd.prog 58 #[plV u p d lo ex, .pointer (some ⟨g, 0, none⟩)] w fun e w' => e = .returned (.bool (nearI 6 u p d lo)) ∧ Below w.heap.size w w' := by
  have HC := Lib.hid (half_any u p d lo ex)
  have three := half_three p d
  have lg := lt_of_H T
  obtain ⟨h, hh⟩ : ∃ h, halfI p d = h := ⟨_, rfl⟩
  rw [hh] at HC three
  have HN : Hid (nearI 6 u p d lo = if h = 0 then tieI 6 u lo else decide (0 < h)) := by show _ = _; unfold nearI; rw [hh]
  clear hh
  rcases three with rfl | rfl | rfl
  · go_enter Tryd.func58, Tryd.ntmps58
    go_wp2_with fail
    refine (HC.out _ h0 h1 h2).mono ?_
    rintro e w1 ⟨rfl, hb1⟩
    have hw1 : Below w.heap.size w w1 := stepH (by (repeat' (first | with_reducible exact Below.refl _ _ | with_reducible assumption | with_reducible refine Below.drew ?_ | with_reducible refine below_drewN ?_ _ | with_reducible refine Below.setCell ?_ ?_ _ | with_reducible refine Below.alloc ?_ ?_ _ | omega | (simp; done) | (simp; omega)))) hb1
    replace T := keepH hb1 (blk_old T.out)
    have P := keepH hb1 (g := w.heap.size) (blk_new rfl)
    have z1 := hw1.size
    clear hb1
    have cT := cellH T
    obtain ⟨lT, lT1, lT2⟩ := ltH T
    have cP := cellH P
    obtain ⟨lP, lP1, lP2⟩ := ltH P
    go_wp2_with fail
    go_ret
    exact ⟨ret_bool (by rw [HN.out]; rfl), hw1⟩
  · go_enter Tryd.func58, Tryd.ntmps58
    go_wp2_with fail
    refine (HC.out _ h0 h1 h2).mono ?_
    rintro e w1 ⟨rfl, hb1⟩
    have hw1 : Below w.heap.size w w1 := stepH (by (repeat' (first | with_reducible exact Below.refl _ _ | with_reducible assumption | with_reducible refine Below.drew ?_ | with_reducible refine below_drewN ?_ _ | with_reducible refine Below.setCell ?_ ?_ _ | with_reducible refine Below.alloc ?_ ?_ _ | omega | (simp; done) | (simp; omega)))) hb1
    replace T := keepH hb1 (blk_old T.out)
    have P := keepH hb1 (g := w.heap.size) (blk_new rfl)
    have z1 := hw1.size
    clear hb1
    have cT := cellH T
    obtain ⟨lT, lT1, lT2⟩ := ltH T
    have cP := cellH P
    obtain ⟨lP, lP1, lP2⟩ := ltH P
    go_wp2_with fail
    go_ret
    exact ⟨ret_bool (by rw [HN.out]; rfl), hw1⟩
  · go_enter Tryd.func58, Tryd.ntmps58
    go_wp2_with fail
    refine (HC.out _ h0 h1 h2).mono ?_
    rintro e w1 ⟨rfl, hb1⟩
    have hw1 : Below w.heap.size w w1 := stepH (by (repeat' (first | with_reducible exact Below.refl _ _ | with_reducible assumption | with_reducible refine Below.drew ?_ | with_reducible refine below_drewN ?_ _ | with_reducible refine Below.setCell ?_ ?_ _ | with_reducible refine Below.alloc ?_ ?_ _ | omega | (simp; done) | (simp; omega)))) hb1
    replace T := keepH hb1 (blk_old T.out)
    have P := keepH hb1 (g := w.heap.size) (blk_new rfl)
    have z1 := hw1.size
    clear hb1
    have cT := cellH T
    obtain ⟨lT, lT1, lT2⟩ := ltH T
    have cP := cellH P
    obtain ⟨lP, lP1, lP2⟩ := ltH P
    go_wp2_with fail
    refine (ways_8 u p d lo ex _).mono ?_
    rintro e w2 ⟨rfl, hb2⟩
    have hw2 : Below w.heap.size w w2 := stepH (by (repeat' (first | with_reducible exact Below.refl _ _ | with_reducible assumption | with_reducible refine Below.drew ?_ | with_reducible refine below_drewN ?_ _ | with_reducible refine Below.setCell ?_ ?_ _ | with_reducible refine Below.alloc ?_ ?_ _ | omega | (simp; done) | (simp; omega)))) hb2
    replace T := keepH hb2 T.out
    replace P := keepH hb2 P.out
    have z2 := hw2.size
    clear hb2 hw1 z1
    clear cT lT lT1 lT2 cP lP lP1 lP2
    have cT := cellH T
    obtain ⟨lT, lT1, lT2⟩ := ltH T
    have cP := cellH P
    obtain ⟨lP, lP1, lP2⟩ := ltH P
    go_wp2_with fail
    go_ret
    exact ⟨ret_bool (by rw [HN.out]; rfl), hw2⟩

theorem ways_any (w : World) : Calls Tryd.prog 45 #[] w fun e w' => e = .returned (.slice (some ⟨w.heap.size + 1 + 1, 0, none⟩) 7 7) ∧ w' = ((w.alloc (.cells #[.func (.func 65) #[] #[]] 78)).alloc (.cells #[.func (.func 66) #[] #[]] 78)).alloc (.cells #[.func (.func 60) #[] #[], .func (.func 61) #[] #[], .func (.func 62) #[] #[], .func (.func 63) #[] #[], .func (.func 64) #[] #[], .func (.func 58) #[] #[.pointer (some ⟨w.heap.size, 0, none⟩)], .func (.func 58) #[] #[.pointer (some ⟨w.heap.size + 1, 0, none⟩)]] 78) := by
  go_enter Tryd.func45, Tryd.ntmps45
  go_wp2
  go_ret
  exact ⟨rfl, rfl⟩
/-- the table, told of a world that is a letter -/
theorem ways_told (w : World) : Calls Tryd.prog 45 #[] w fun e w' => ∃ g h5 h6 : Nat, e = .returned (.slice (some ⟨g, 0, none⟩) 7 7) ∧ Below w.heap.size w w' ∧ Hid (w'.heap[h5]? = some (.cells #[.func (.func 65) #[] #[]] 78 (0, 0))) ∧ Hid (w'.heap[h6]? = some (.cells #[.func (.func 66) #[] #[]] 78 (0, 0))) ∧ Hid (w'.heap[g]? = some (.cells #[.func (.func 60) #[] #[], .func (.func 61) #[] #[], .func (.func 62) #[] #[], .func (.func 63) #[] #[], .func (.func 64) #[] #[], .func (.func 58) #[] #[.pointer (some ⟨h5, 0, none⟩)], .func (.func 58) #[] #[.pointer (some ⟨h6, 0, none⟩)]] 78 (0, 0))) := by
  refine (ways_any w).mono ?_
  rintro e w' ⟨rfl, rfl⟩
  exact ⟨w.heap.size + 1 + 1, w.heap.size, w.heap.size + 1, rfl, by (repeat' (first | with_reducible exact Below.refl _ _ | with_reducible assumption | with_reducible refine Below.drew ?_ | with_reducible refine below_drewN ?_ _ | with_reducible refine Below.setCell ?_ ?_ _ | with_reducible refine Below.alloc ?_ ?_ _ | omega | (simp; done) | (simp; omega))), blk_old (blk_old (blk_new rfl)), blk_old (blk_new (by simp)), blk_new (by simp)⟩

end Go.Proofs.YtcbglkkmblmbnaaDoor
