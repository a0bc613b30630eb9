/- The walk of FracTells. -/
import Derived.Test.YtbmkbhclkaopaaaDoorFracG
namespace Go.Proofs.YtbmkbhclkaopaaaDoor
open Go.RowKit

set_option maxHeartbeats 8000000 in
theorem fracTells_walk (n1 d1 n2 d2 : Int) (E : Nat → Addr) (w : World) (ln1 : -9223372036854775808 ≤ n1) (un1 : n1 ≤ 9223372036854775807) (ld1 : -9223372036854775808 ≤ d1) (ud1 : d1 ≤ 9223372036854775807) (ln2 : -9223372036854775808 ≤ n2) (un2 : n2 ≤ 9223372036854775807) (ld2 : -9223372036854775808 ≤ d2) (ud2 : d2 ≤ 9223372036854775807) (hE : Env LF E w) :
    Calls Tryd.prog 3 #[.agg #[.int .i64 n1, .int .i64 d1], .agg #[.int .i64 n2, .int .i64 d2]] w fun e w' => e = .returned (.bool true) ∧ Below w.heap.size w w' := by
  have HE : Hid (Env LF E w) := hE
  clear hE
  have V1 := refValid_any n1 d1
  have V2 := refValid_any n2 d2
  unfold pv at V1 V2
  cases h1 : validB n1 d1
  · rw [h1] at V1
    clear h1
    have HV1 := Lib.hid V1
    have HV2 := Lib.hid V2
    clear V1 V2
    go_enter Tryd.func3, Tryd.ntmps3
    go_wp2_with fail
    refine (first_any E _ (HE.out.below (by (repeat (first | exact Below.refl _ _ | assumption | refine Below.drew ?_ | refine below_drewN ?_ _ | refine Below.setCell ?_ (by first | omega | (simp; done) | (simp; omega)) _ | refine Below.alloc ?_ (by first | omega | (simp; done) | (simp; omega)) _))))).mono ?_
    rintro e w1 ⟨rfl, hb1⟩
    have hw1 : Below w.heap.size w w1 := stepH (by (repeat (first | exact Below.refl _ _ | assumption | refine Below.drew ?_ | refine below_drewN ?_ _ | refine Below.setCell ?_ (by first | omega | (simp; done) | (simp; omega)) _ | refine Below.alloc ?_ (by first | omega | (simp; done) | (simp; omega)) _))) hb1
    have A := keepH hb1 (g := w.heap.size) (blk_old (blk_new rfl))
    have B := keepH hb1 (g := w.heap.size + 1) (blk_new (by simp))
    have z1 := hw1.size
    clear hb1
    have cA := cellH A
    have cB := cellH B
    go_wp2_with fail
    refine (HV1.out _ (by omega) (by omega) (by omega) (by omega)).mono ?_
    rintro e w2 ⟨rfl, hb2⟩
    have hw2 : Below w.heap.size w w2 := stepH (by (repeat (first | exact Below.refl _ _ | assumption | refine Below.drew ?_ | refine below_drewN ?_ _ | refine Below.setCell ?_ (by first | omega | (simp; done) | (simp; omega)) _ | refine Below.alloc ?_ (by first | omega | (simp; done) | (simp; omega)) _))) hb2
    have A := keepH hb2 A.out
    have B := keepH hb2 B.out
    have z2 := hw2.size
    clear hb2 hw1 z1
    have cA := cellH A
    have cB := cellH B
    go_wp2_with fail
    refine (HV2.out _ (by omega) (by omega) (by omega) (by omega)).mono ?_
    rintro e w3 ⟨rfl, hb3⟩
    have hw3 : Below w.heap.size w w3 := stepH (by (repeat (first | exact Below.refl _ _ | assumption | refine Below.drew ?_ | refine below_drewN ?_ _ | refine Below.setCell ?_ (by first | omega | (simp; done) | (simp; omega)) _ | refine Below.alloc ?_ (by first | omega | (simp; done) | (simp; omega)) _))) hb3
    have A := keepH hb3 A.out
    have B := keepH hb3 B.out
    have z3 := hw3.size
    clear hb3 hw2 z2
    have cA := cellH A
    have cB := cellH B
    go_wp2_with fail
    go_ret
    exact ⟨rfl, hw3⟩
  cases h2 : validB n2 d2
  · rw [h1] at V1
    rw [h2] at V2
    clear h1 h2
    have HV1 := Lib.hid V1
    have HV2 := Lib.hid V2
    clear V1 V2
    go_enter Tryd.func3, Tryd.ntmps3
    go_wp2_with fail
    refine (first_any E _ (HE.out.below (by (repeat (first | exact Below.refl _ _ | assumption | refine Below.drew ?_ | refine below_drewN ?_ _ | refine Below.setCell ?_ (by first | omega | (simp; done) | (simp; omega)) _ | refine Below.alloc ?_ (by first | omega | (simp; done) | (simp; omega)) _))))).mono ?_
    rintro e w1 ⟨rfl, hb1⟩
    have hw1 : Below w.heap.size w w1 := stepH (by (repeat (first | exact Below.refl _ _ | assumption | refine Below.drew ?_ | refine below_drewN ?_ _ | refine Below.setCell ?_ (by first | omega | (simp; done) | (simp; omega)) _ | refine Below.alloc ?_ (by first | omega | (simp; done) | (simp; omega)) _))) hb1
    have A := keepH hb1 (g := w.heap.size) (blk_old (blk_new rfl))
    have B := keepH hb1 (g := w.heap.size + 1) (blk_new (by simp))
    have z1 := hw1.size
    clear hb1
    have cA := cellH A
    have cB := cellH B
    go_wp2_with fail
    refine (HV1.out _ (by omega) (by omega) (by omega) (by omega)).mono ?_
    rintro e w2 ⟨rfl, hb2⟩
    have hw2 : Below w.heap.size w w2 := stepH (by (repeat (first | exact Below.refl _ _ | assumption | refine Below.drew ?_ | refine below_drewN ?_ _ | refine Below.setCell ?_ (by first | omega | (simp; done) | (simp; omega)) _ | refine Below.alloc ?_ (by first | omega | (simp; done) | (simp; omega)) _))) hb2
    have A := keepH hb2 A.out
    have B := keepH hb2 B.out
    have z2 := hw2.size
    clear hb2 hw1 z1
    have cA := cellH A
    have cB := cellH B
    go_wp2_with fail
    refine (HV2.out _ (by omega) (by omega) (by omega) (by omega)).mono ?_
    rintro e w3 ⟨rfl, hb3⟩
    have hw3 : Below w.heap.size w w3 := stepH (by (repeat (first | exact Below.refl _ _ | assumption | refine Below.drew ?_ | refine below_drewN ?_ _ | refine Below.setCell ?_ (by first | omega | (simp; done) | (simp; omega)) _ | refine Below.alloc ?_ (by first | omega | (simp; done) | (simp; omega)) _))) hb3
    have A := keepH hb3 A.out
    have B := keepH hb3 B.out
    have z3 := hw3.size
    clear hb3 hw2 z2
    have cA := cellH A
    have cB := cellH B
    go_wp2_with fail
    go_ret
    exact ⟨rfl, hw3⟩
  · rw [h1] at V1
    rw [h2] at V2
    obtain ⟨p, hp, rfl, rfl⟩ := good_of_validB h1
    obtain ⟨q, hq, rfl, rfl⟩ := good_of_validB h2
    clear h1 h2
    obtain ⟨a1, a2, a3, a4⟩ := num_le hp
    have C1 := Lib.hid fun w => cmp_any p q w hp hq
    have C2 := Lib.hid fun w => refCmp_any p q w hp hq
    have F1 := Lib.hid fun w => floor_any p.num p.den w a1 a2 a3 a4
    have F2 := Lib.hid fun w => refFloor_any p.num p.den w a1 a2 a3 a4
    have D1 := Lib.hid fun w => ceil_any p.num p.den w a1 a2 a3 a4
    have D2 := Lib.hid fun w => refCeil_any p.num p.den w a1 a2 a3 a4
    have N1 := Lib.hid fun w => neg_good p.num p.den w (by omega) (by omega)
    have N2 := Lib.hid fun w => refNeg_good p.num p.den w (by omega) (by omega)
    generalize cmpQ p q = cm at *
    generalize p.num / p.den = fl at *
    generalize -p.num / p.den = ce at *
    have HV1 := Lib.hid V1
    have HV2 := Lib.hid V2
    clear V1 V2
    go_enter Tryd.func3, Tryd.ntmps3
    go_wp2_with fail
    refine (first_any E _ (HE.out.below (by (repeat (first | exact Below.refl _ _ | assumption | refine Below.drew ?_ | refine below_drewN ?_ _ | refine Below.setCell ?_ (by first | omega | (simp; done) | (simp; omega)) _ | refine Below.alloc ?_ (by first | omega | (simp; done) | (simp; omega)) _))))).mono ?_
    rintro e w1 ⟨rfl, hb1⟩
    have hw1 : Below w.heap.size w w1 := stepH (by (repeat (first | exact Below.refl _ _ | assumption | refine Below.drew ?_ | refine below_drewN ?_ _ | refine Below.setCell ?_ (by first | omega | (simp; done) | (simp; omega)) _ | refine Below.alloc ?_ (by first | omega | (simp; done) | (simp; omega)) _))) hb1
    have A := keepH hb1 (g := w.heap.size) (blk_old (blk_new rfl))
    have B := keepH hb1 (g := w.heap.size + 1) (blk_new (by simp))
    have z1 := hw1.size
    clear hb1
    have cA := cellH A
    have cB := cellH B
    go_wp2_with fail
    refine (HV1.out _ (by omega) (by omega) (by omega) (by omega)).mono ?_
    rintro e w2 ⟨rfl, hb2⟩
    have hw2 : Below w.heap.size w w2 := stepH (by (repeat (first | exact Below.refl _ _ | assumption | refine Below.drew ?_ | refine below_drewN ?_ _ | refine Below.setCell ?_ (by first | omega | (simp; done) | (simp; omega)) _ | refine Below.alloc ?_ (by first | omega | (simp; done) | (simp; omega)) _))) hb2
    have A := keepH hb2 A.out
    have B := keepH hb2 B.out
    have z2 := hw2.size
    clear hb2 hw1 z1
    have cA := cellH A
    have cB := cellH B
    go_wp2_with fail
    refine (HV2.out _ (by omega) (by omega) (by omega) (by omega)).mono ?_
    rintro e w3 ⟨rfl, hb3⟩
    have hw3 : Below w.heap.size w w3 := stepH (by (repeat (first | exact Below.refl _ _ | assumption | refine Below.drew ?_ | refine below_drewN ?_ _ | refine Below.setCell ?_ (by first | omega | (simp; done) | (simp; omega)) _ | refine Below.alloc ?_ (by first | omega | (simp; done) | (simp; omega)) _))) hb3
    have A := keepH hb3 A.out
    have B := keepH hb3 B.out
    have z3 := hw3.size
    clear hb3 hw2 z2
    have cA := cellH A
    have cB := cellH B
    go_wp2_with fail
    go_region_held3 (fun w' => w'.cell? ⟨w.heap.size, 0, none⟩ = some (.int .i64 p.num) ∧ w'.cell? ⟨w.heap.size, 1, none⟩ = some (.int .i64 p.den) ∧ w'.cell? ⟨w.heap.size + 1, 0, none⟩ = some (.int .i64 q.num) ∧ w'.cell? ⟨w.heap.size + 1, 1, none⟩ = some (.int .i64 q.den)) (first | exact ⟨cellH A 0, cellH A 1, cellH B 0, cellH B 1⟩ | go_keep)
      (first | (go_at_call 12; refine (N1.out _).mono ?_; rintro e w4 ⟨rfl, hb4⟩; have hw4 : Below w.heap.size w w4 := stepH (by (repeat (first | exact Below.refl _ _ | assumption | refine Below.drew ?_ | refine below_drewN ?_ _ | refine Below.setCell ?_ (by first | omega | (simp; done) | (simp; omega)) _ | refine Below.alloc ?_ (by first | omega | (simp; done) | (simp; omega)) _))) hb4; have A := keepH hb4 A.out; have B := keepH hb4 B.out) | (go_at_call 13; refine (N2.out _).mono ?_; rintro e w4 ⟨rfl, hb4⟩; have hw4 : Below w.heap.size w w4 := stepH (by (repeat (first | exact Below.refl _ _ | assumption | refine Below.drew ?_ | refine below_drewN ?_ _ | refine Below.setCell ?_ (by first | omega | (simp; done) | (simp; omega)) _ | refine Below.alloc ?_ (by first | omega | (simp; done) | (simp; omega)) _))) hb4; have A := keepH hb4 A.out; have B := keepH hb4 B.out) | (go_at_call 11; refine (first_same _ _ _).mono ?_; rintro e w4 ⟨rfl, hb4⟩; have hw4 : Below w.heap.size w w4 := stepH (by (repeat (first | exact Below.refl _ _ | assumption | refine Below.drew ?_ | refine below_drewN ?_ _ | refine Below.setCell ?_ (by first | omega | (simp; done) | (simp; omega)) _ | refine Below.alloc ?_ (by first | omega | (simp; done) | (simp; omega)) _))) hb4; have A := keepH hb4 A.out; have B := keepH hb4 B.out) | (go_at_call 14; refine (C1.out _).mono ?_; rintro e w4 ⟨rfl, hb4⟩; have hw4 : Below w.heap.size w w4 := stepH (by (repeat (first | exact Below.refl _ _ | assumption | refine Below.drew ?_ | refine below_drewN ?_ _ | refine Below.setCell ?_ (by first | omega | (simp; done) | (simp; omega)) _ | refine Below.alloc ?_ (by first | omega | (simp; done) | (simp; omega)) _))) hb4; have A := keepH hb4 A.out; have B := keepH hb4 B.out) | (go_at_call 15; refine (C2.out _).mono ?_; rintro e w4 ⟨rfl, hb4⟩; have hw4 : Below w.heap.size w w4 := stepH (by (repeat (first | exact Below.refl _ _ | assumption | refine Below.drew ?_ | refine below_drewN ?_ _ | refine Below.setCell ?_ (by first | omega | (simp; done) | (simp; omega)) _ | refine Below.alloc ?_ (by first | omega | (simp; done) | (simp; omega)) _))) hb4; have A := keepH hb4 A.out; have B := keepH hb4 B.out) | (go_at_call 16; refine (F1.out _).mono ?_; rintro e w4 ⟨rfl, hb4⟩; have hw4 : Below w.heap.size w w4 := stepH (by (repeat (first | exact Below.refl _ _ | assumption | refine Below.drew ?_ | refine below_drewN ?_ _ | refine Below.setCell ?_ (by first | omega | (simp; done) | (simp; omega)) _ | refine Below.alloc ?_ (by first | omega | (simp; done) | (simp; omega)) _))) hb4; have A := keepH hb4 A.out; have B := keepH hb4 B.out) | (go_at_call 17; refine (F2.out _).mono ?_; rintro e w4 ⟨rfl, hb4⟩; have hw4 : Below w.heap.size w w4 := stepH (by (repeat (first | exact Below.refl _ _ | assumption | refine Below.drew ?_ | refine below_drewN ?_ _ | refine Below.setCell ?_ (by first | omega | (simp; done) | (simp; omega)) _ | refine Below.alloc ?_ (by first | omega | (simp; done) | (simp; omega)) _))) hb4; have A := keepH hb4 A.out; have B := keepH hb4 B.out) | (go_at_call 18; refine (D1.out _).mono ?_; rintro e w4 ⟨rfl, hb4⟩; have hw4 : Below w.heap.size w w4 := stepH (by (repeat (first | exact Below.refl _ _ | assumption | refine Below.drew ?_ | refine below_drewN ?_ _ | refine Below.setCell ?_ (by first | omega | (simp; done) | (simp; omega)) _ | refine Below.alloc ?_ (by first | omega | (simp; done) | (simp; omega)) _))) hb4; have A := keepH hb4 A.out; have B := keepH hb4 B.out) | (go_at_call 19; refine (D2.out _).mono ?_; rintro e w4 ⟨rfl, hb4⟩; have hw4 : Below w.heap.size w w4 := stepH (by (repeat (first | exact Below.refl _ _ | assumption | refine Below.drew ?_ | refine below_drewN ?_ _ | refine Below.setCell ?_ (by first | omega | (simp; done) | (simp; omega)) _ | refine Below.alloc ?_ (by first | omega | (simp; done) | (simp; omega)) _))) hb4; have A := keepH hb4 A.out; have B := keepH hb4 B.out))
    have z4 := hw4.size
    go_wp2_with fail
    go_ret
    exact ⟨rfl, hw4⟩
end Go.Proofs.YtbmkbhclkaopaaaDoor
