/- The references' arithmetic of fractions, where an argument is no fraction: walks. -/
import Derived.Test.YtmankldedhgdiaaDoorRefM
namespace Go.Proofs.YtmankldedhgdiaaDoor
open Go.RowKit

theorem refBoth_no (p : Rat) (w : World) (hp : Good p) :
    Calls Tryd.prog 56 #[.agg #[.int .i64 p.num, .int .i64 p.den], .agg #[.int .i64 0, .int .i64 0]] w fun e w' => e = .returned (.bool false) ∧ Below w.heap.size w w' := by
  have P := Lib.hid (num_le hp)
  have VP := Lib.hid (show validB p.num p.den = true by rw [validB_good, decide_eq_true hp])
  clear hp
  go_enter Tryd.func56, Tryd.ntmps56
  go_wp2_with fail
  refine (refvB_is p.num p.den true _ VP.out (by have := P.out; omega) (by have := P.out; omega) (by have := P.out; omega) (by have := P.out; omega)).mono ?_
  rintro e w1 ⟨rfl, hb1⟩
  have hw1 : Below w.heap.size w w1 := stepH (by (repeat' (first | with_reducible exact Below.refl _ _ | with_reducible assumption | with_reducible refine Below.drew ?_ | with_reducible refine below_drewN ?_ _ | with_reducible refine Below.setCell ?_ ?_ _ | with_reducible refine Below.alloc ?_ ?_ _ | omega | (simp; done) | (simp; omega)))) hb1
  have P_ := keepH hb1 (g := w.heap.size) (blk_old (blk_new rfl))
  have Q_ := keepH hb1 (g := w.heap.size + 1) (blk_new (by simp))
  have z1 := hw1.size
  clear hb1
  have cP_ := cellH P_
  obtain ⟨lP_, lP_1, lP_2⟩ := ltH P_
  have cQ_ := cellH Q_
  obtain ⟨lQ_, lQ_1, lQ_2⟩ := ltH Q_
  go_wp2_with fail
  refine (refvB_is 0 0 false _ (by decide) (by omega) (by omega) (by omega) (by omega)).mono ?_
  rintro e w2 ⟨rfl, hb2⟩
  have hw2 : Below w.heap.size w w2 := stepH (by (repeat' (first | with_reducible exact Below.refl _ _ | with_reducible assumption | with_reducible refine Below.drew ?_ | with_reducible refine below_drewN ?_ _ | with_reducible refine Below.setCell ?_ ?_ _ | with_reducible refine Below.alloc ?_ ?_ _ | omega | (simp; done) | (simp; omega)))) hb2
  replace P_ := keepH hb2 P_.out
  replace Q_ := keepH hb2 Q_.out
  have z2 := hw2.size
  clear hb2 hw1 z1
  clear cP_ lP_ lP_1 lP_2 cQ_ lQ_ lQ_1 lQ_2
  have cP_ := cellH P_
  obtain ⟨lP_, lP_1, lP_2⟩ := ltH P_
  have cQ_ := cellH Q_
  obtain ⟨lQ_, lQ_1, lQ_2⟩ := ltH Q_
  go_wp2_with fail
  go_ret
  exact ⟨rfl, by (repeat' (first | with_reducible exact Below.refl _ _ | with_reducible assumption | with_reducible refine Below.drew ?_ | with_reducible refine below_drewN ?_ _ | with_reducible refine Below.setCell ?_ ?_ _ | with_reducible refine Below.alloc ?_ ?_ _ | omega | (simp; done) | (simp; omega)))⟩

set_option maxHeartbeats 1000000 in
theorem refAdd_no (p : Rat) (w : World) (hp : Good p) :
    Calls Tryd.prog 38 #[.agg #[.int .i64 p.num, .int .i64 p.den], .agg #[.int .i64 0, .int .i64 0]] w fun e w' => e = .returned (.tuple #[.agg #[.int .i64 0, .int .i64 0], .int .i64 103]) ∧ Below w.heap.size w w' := by
  have HP := Lib.hid hp
  clear hp
  go_enter Tryd.func38, Tryd.ntmps38
  go_wp2_with fail
  refine (refBoth_no p _ HP.out).mono ?_
  rintro e w1 ⟨rfl, hb1⟩
  have hw1 : Below w.heap.size w w1 := stepH (by (repeat' (first | with_reducible exact Below.refl _ _ | with_reducible assumption | with_reducible refine Below.drew ?_ | with_reducible refine below_drewN ?_ _ | with_reducible refine Below.setCell ?_ ?_ _ | with_reducible refine Below.alloc ?_ ?_ _ | omega | (simp; done) | (simp; omega)))) hb1
  have P_ := keepH hb1 (g := w.heap.size) (blk_old (blk_old (blk_new rfl)))
  have Q_ := keepH hb1 (g := w.heap.size + 1) (blk_old (blk_new (by simp)))
  have R4 := keepH hb1 (g := w.heap.size + 1 + 1) (blk_new (by simp))
  have z1 := hw1.size
  clear hb1
  have cP_ := cellH P_
  obtain ⟨lP_, lP_1, lP_2⟩ := ltH P_
  have cQ_ := cellH Q_
  obtain ⟨lQ_, lQ_1, lQ_2⟩ := ltH Q_
  have cR4 := cellH R4
  obtain ⟨lR4, lR41, lR42⟩ := ltH R4
  have fzR4 := frozH R4
  go_wp2_with fail
  refine bodyPost_ret (v := .tuple #[.agg #[.int .i64 0, .int .i64 0], .int .i64 103]) (by simp [results, Tryd.results38, go_sem, cR4]) rfl ⟨rfl, by (repeat' (first | with_reducible exact Below.refl _ _ | with_reducible assumption | with_reducible refine Below.drew ?_ | with_reducible refine below_drewN ?_ _ | with_reducible refine Below.setCell ?_ ?_ _ | with_reducible refine Below.alloc ?_ ?_ _ | omega | (simp; done) | (simp; omega)))⟩

set_option maxHeartbeats 1000000 in
theorem refMul_no (p : Rat) (w : World) (hp : Good p) :
    Calls Tryd.prog 40 #[.agg #[.int .i64 p.num, .int .i64 p.den], .agg #[.int .i64 0, .int .i64 0]] w fun e w' => e = .returned (.tuple #[.agg #[.int .i64 0, .int .i64 0], .int .i64 103]) ∧ Below w.heap.size w w' := by
  have HP := Lib.hid hp
  clear hp
  go_enter Tryd.func40, Tryd.ntmps40
  go_wp2_with fail
  refine (refBoth_no p _ HP.out).mono ?_
  rintro e w1 ⟨rfl, hb1⟩
  have hw1 : Below w.heap.size w w1 := stepH (by (repeat' (first | with_reducible exact Below.refl _ _ | with_reducible assumption | with_reducible refine Below.drew ?_ | with_reducible refine below_drewN ?_ _ | with_reducible refine Below.setCell ?_ ?_ _ | with_reducible refine Below.alloc ?_ ?_ _ | omega | (simp; done) | (simp; omega)))) hb1
  have P_ := keepH hb1 (g := w.heap.size) (blk_old (blk_old (blk_new rfl)))
  have Q_ := keepH hb1 (g := w.heap.size + 1) (blk_old (blk_new (by simp)))
  have R4 := keepH hb1 (g := w.heap.size + 1 + 1) (blk_new (by simp))
  have z1 := hw1.size
  clear hb1
  have cP_ := cellH P_
  obtain ⟨lP_, lP_1, lP_2⟩ := ltH P_
  have cQ_ := cellH Q_
  obtain ⟨lQ_, lQ_1, lQ_2⟩ := ltH Q_
  have cR4 := cellH R4
  obtain ⟨lR4, lR41, lR42⟩ := ltH R4
  have fzR4 := frozH R4
  go_wp2_with fail
  refine bodyPost_ret (v := .tuple #[.agg #[.int .i64 0, .int .i64 0], .int .i64 103]) (by simp [results, Tryd.results40, go_sem, cR4]) rfl ⟨rfl, by (repeat' (first | with_reducible exact Below.refl _ _ | with_reducible assumption | with_reducible refine Below.drew ?_ | with_reducible refine below_drewN ?_ _ | with_reducible refine Below.setCell ?_ ?_ _ | with_reducible refine Below.alloc ?_ ?_ _ | omega | (simp; done) | (simp; omega)))⟩

end Go.Proofs.YtmankldedhgdiaaDoor
