/- The walk of RoundAgain. -/
import Derived.Test.YtcbglkkmblmbnaaDoorAgainLaw
namespace Go.Proofs.YtcbglkkmblmbnaaDoor
open Go.RowKit

theorem num_le0 {a : Rat} (h : a ≤ 0) : a.num ≤ 0 := by
  have h1 : 0 ≤ -a := by grind
  have h2 := Rat.num_nonneg.2 h1
  rw [Rat.neg_num] at h2; omega
set_option maxRecDepth 100000 in
set_option maxHeartbeats 32000000 in
theorem roundAgain_walk (n1 d1 mode un ud : Int) (E : Nat → Addr) (w : World) (B : B5 n1 d1 mode un ud) (hE : Env LS E w) (hW : Words w) :
    Calls Tryd.prog 5 #[.agg #[.int .i64 n1, .int .i64 d1], .agg #[.int .i64 mode, .int .i64 un, .int .i64 ud]] w fun e w' => e = .returned (.bool true) ∧ Below w.heap.size w w' := by
  have HE := Lib.hid hE
  have HW := Lib.hid hW
  have HB := Lib.hid B
  clear hE hW B
  cases h1 : roundI n1 d1 mode un ud
  · rename_i g
    have H1 := Lib.hid h1
    clear h1
    go_enter Tryd.func5, Tryd.ntmps5
    go_wp2_with fail
    refine (first2_any E _ (HE.out.below (by (repeat' (first | with_reducible exact Below.refl _ _ | with_reducible assumption | with_reducible refine Below.drew ?_ | with_reducible refine below_drewN ?_ _ | with_reducible refine Below.setCell ?_ ?_ _ | with_reducible refine Below.alloc ?_ ?_ _ | omega | (simp; done) | (simp; omega))))) (HW.out.below (by (repeat' (first | with_reducible exact Below.refl _ _ | with_reducible assumption | with_reducible refine Below.drew ?_ | with_reducible refine below_drewN ?_ _ | with_reducible refine Below.setCell ?_ ?_ _ | with_reducible refine Below.alloc ?_ ?_ _ | omega | (simp; done) | (simp; omega)))))).mono ?_
    rintro e w1 ⟨rfl, hb1⟩
    have hw1 : Below w.heap.size w w1 := stepH (by (repeat' (first | with_reducible exact Below.refl _ _ | with_reducible assumption | with_reducible refine Below.drew ?_ | with_reducible refine below_drewN ?_ _ | with_reducible refine Below.setCell ?_ ?_ _ | with_reducible refine Below.alloc ?_ ?_ _ | omega | (simp; done) | (simp; omega)))) hb1
    have X := keepH hb1 (g := w.heap.size) (blk_old (blk_new rfl))
    have G := keepH hb1 (g := w.heap.size + 1) (blk_new (by simp))
    have z1 := hw1.size
    clear hb1
    have cX := cellH X
    obtain ⟨lX, lX1, lX2⟩ := ltH X
    have cG := cellH G
    obtain ⟨lG, lG1, lG2⟩ := ltH G
    go_wp2_with fail
    refine (round_any n1 d1 mode un ud E _ HB.out ((HE.out.below (by (repeat' (first | with_reducible exact Below.refl _ _ | with_reducible assumption | with_reducible refine Below.drew ?_ | with_reducible refine below_drewN ?_ _ | with_reducible refine Below.setCell ?_ ?_ _ | with_reducible refine Below.alloc ?_ ?_ _ | omega | (simp; done) | (simp; omega))))).sub (by decide))).mono ?_
    rintro e w2 ⟨⟨n', d', err, rfl, hr⟩, hb2⟩
    have hw2 : Below w.heap.size w w2 := stepH (by (repeat' (first | with_reducible exact Below.refl _ _ | with_reducible assumption | with_reducible refine Below.drew ?_ | with_reducible refine below_drewN ?_ _ | with_reducible refine Below.setCell ?_ ?_ _ | with_reducible refine Below.alloc ?_ ?_ _ | omega | (simp; done) | (simp; omega)))) hb2
    rw [H1.out] at hr
    obtain ⟨rfl, rfl, rfl⟩ := hr
    replace X := keepH hb2 X.out
    replace G := keepH hb2 G.out
    have z2 := hw2.size
    clear hb2 hw1 z1
    clear cX lX lX1 lX2 cG lG lG1 lG2
    have cX := cellH X
    obtain ⟨lX, lX1, lX2⟩ := ltH X
    have cG := cellH G
    obtain ⟨lG, lG1, lG2⟩ := ltH G
    go_wp2_with fail
    go_ret
    exact ⟨rfl, by (repeat' (first | with_reducible exact Below.refl _ _ | with_reducible assumption | with_reducible refine Below.drew ?_ | with_reducible refine below_drewN ?_ _ | with_reducible refine Below.setCell ?_ ?_ _ | with_reducible refine Below.alloc ?_ ?_ _ | omega | (simp; done) | (simp; omega)))⟩
  · rename_i a
    obtain ⟨q, hq, rfl, rfl, hrd, hga, hc⟩ := round_ok h1
    have H1 := Lib.hid h1
    have H2 := Lib.hid (round_idem h1)
    have HQ := Lib.hid hq
    have HA := Lib.hid hga
    have NQ := num_le hq
    have NA := num_le hga
    have BA : Hid (B5 a.num a.den mode un ud) := by obtain ⟨_, _, b3, b4, b5⟩ := HB.out; exact ⟨⟨by omega, by omega⟩, ⟨by omega, by omega⟩, b3, b4, b5⟩
    clear h1 hq hga
    rcases hc with ⟨rfl, rfl⟩ | ⟨m1, m2, u, hu, h0, rfl, rfl, hau⟩
    · go_enter Tryd.func5, Tryd.ntmps5
      go_wp2_with fail
      refine (first2_any E _ (HE.out.below (by (repeat' (first | with_reducible exact Below.refl _ _ | with_reducible assumption | with_reducible refine Below.drew ?_ | with_reducible refine below_drewN ?_ _ | with_reducible refine Below.setCell ?_ ?_ _ | with_reducible refine Below.alloc ?_ ?_ _ | omega | (simp; done) | (simp; omega))))) (HW.out.below (by (repeat' (first | with_reducible exact Below.refl _ _ | with_reducible assumption | with_reducible refine Below.drew ?_ | with_reducible refine below_drewN ?_ _ | with_reducible refine Below.setCell ?_ ?_ _ | with_reducible refine Below.alloc ?_ ?_ _ | omega | (simp; done) | (simp; omega)))))).mono ?_
      rintro e w1 ⟨rfl, hb1⟩
      have hw1 : Below w.heap.size w w1 := stepH (by (repeat' (first | with_reducible exact Below.refl _ _ | with_reducible assumption | with_reducible refine Below.drew ?_ | with_reducible refine below_drewN ?_ _ | with_reducible refine Below.setCell ?_ ?_ _ | with_reducible refine Below.alloc ?_ ?_ _ | omega | (simp; done) | (simp; omega)))) hb1
      have X := keepH hb1 (g := w.heap.size) (blk_old (blk_new rfl))
      have G := keepH hb1 (g := w.heap.size + 1) (blk_new (by simp))
      have z1 := hw1.size
      clear hb1
      have cX := cellH X
      obtain ⟨lX, lX1, lX2⟩ := ltH X
      have cG := cellH G
      obtain ⟨lG, lG1, lG2⟩ := ltH G
      go_wp2_with fail
      refine (round_any a.num a.den 0 un ud E _ BA.out ((HE.out.below (by (repeat' (first | with_reducible exact Below.refl _ _ | with_reducible assumption | with_reducible refine Below.drew ?_ | with_reducible refine below_drewN ?_ _ | with_reducible refine Below.setCell ?_ ?_ _ | with_reducible refine Below.alloc ?_ ?_ _ | omega | (simp; done) | (simp; omega))))).sub (by decide))).mono ?_
      rintro e w2 ⟨⟨n', d', err, rfl, hr⟩, hb2⟩
      have hw2 : Below w.heap.size w w2 := stepH (by (repeat' (first | with_reducible exact Below.refl _ _ | with_reducible assumption | with_reducible refine Below.drew ?_ | with_reducible refine below_drewN ?_ _ | with_reducible refine Below.setCell ?_ ?_ _ | with_reducible refine Below.alloc ?_ ?_ _ | omega | (simp; done) | (simp; omega)))) hb2
      rw [H2.out] at hr
      obtain ⟨rfl, rfl, rfl⟩ := hr
      replace X := keepH hb2 X.out
      replace G := keepH hb2 G.out
      have z2 := hw2.size
      clear hb2 hw1 z1
      clear cX lX lX1 lX2 cG lG lG1 lG2
      have cX := cellH X
      obtain ⟨lX, lX1, lX2⟩ := ltH X
      have cG := cellH G
      obtain ⟨lG, lG1, lG2⟩ := ltH G
      go_wp2_with fail
      refine (round_any a.num a.den 0 un ud E _ BA.out ((HE.out.below (by (repeat' (first | with_reducible exact Below.refl _ _ | with_reducible assumption | with_reducible refine Below.drew ?_ | with_reducible refine below_drewN ?_ _ | with_reducible refine Below.setCell ?_ ?_ _ | with_reducible refine Below.alloc ?_ ?_ _ | omega | (simp; done) | (simp; omega))))).sub (by decide))).mono ?_
      rintro e w3 ⟨⟨n', d', err, rfl, hr⟩, hb3⟩
      have hw3 : Below w.heap.size w w3 := stepH (by (repeat' (first | with_reducible exact Below.refl _ _ | with_reducible assumption | with_reducible refine Below.drew ?_ | with_reducible refine below_drewN ?_ _ | with_reducible refine Below.setCell ?_ ?_ _ | with_reducible refine Below.alloc ?_ ?_ _ | omega | (simp; done) | (simp; omega)))) hb3
      rw [H2.out] at hr
      obtain ⟨rfl, rfl, rfl⟩ := hr
      replace X := keepH hb3 (blk_old X.out)
      replace G := keepH hb3 (blk_old G.out)
      have A := keepH hb3 (g := w2.heap.size) (blk_new rfl)
      have z3 := hw3.size
      clear hb3 hw2 z2
      clear cX lX lX1 lX2 cG lG lG1 lG2
      have cX := cellH X
      obtain ⟨lX, lX1, lX2⟩ := ltH X
      have cG := cellH G
      obtain ⟨lG, lG1, lG2⟩ := ltH G
      have cA := cellH A
      obtain ⟨lA, lA1, lA2⟩ := ltH A
      go_wp2_with fail
      refine (unit_any 0 un ud _).mono ?_
      rintro e w4 ⟨rfl, hb4⟩
      have hw4 : Below w.heap.size w w4 := stepH (by (repeat' (first | with_reducible exact Below.refl _ _ | with_reducible assumption | with_reducible refine Below.drew ?_ | with_reducible refine below_drewN ?_ _ | with_reducible refine Below.setCell ?_ ?_ _ | with_reducible refine Below.alloc ?_ ?_ _ | omega | (simp; done) | (simp; omega)))) hb4
      replace X := keepH hb4 (blk_old X.out)
      replace G := keepH hb4 (blk_old G.out)
      replace A := keepH hb4 (blk_old A.out)
      have Z := keepH hb4 (g := w3.heap.size) (blk_new rfl)
      have z4 := hw4.size
      clear hb4 hw3 z3
      clear cX lX lX1 lX2 cG lG lG1 lG2 cA lA lA1 lA2
      have cX := cellH X
      obtain ⟨lX, lX1, lX2⟩ := ltH X
      have cG := cellH G
      obtain ⟨lG, lG1, lG2⟩ := ltH G
      have cA := cellH A
      obtain ⟨lA, lA1, lA2⟩ := ltH A
      have cZ := cellH Z
      obtain ⟨lZ, lZ1, lZ2⟩ := ltH Z
      go_wp2_with fail
      refine (first_same _ _ _).mono ?_
      rintro e w5 ⟨rfl, hb5⟩
      have hw5 : Below w.heap.size w w5 := stepH (by (repeat' (first | with_reducible exact Below.refl _ _ | with_reducible assumption | with_reducible refine Below.drew ?_ | with_reducible refine below_drewN ?_ _ | with_reducible refine Below.setCell ?_ ?_ _ | with_reducible refine Below.alloc ?_ ?_ _ | omega | (simp; done) | (simp; omega)))) hb5
      replace X := keepH hb5 (blk_old X.out)
      replace G := keepH hb5 (blk_old G.out)
      replace A := keepH hb5 (blk_old A.out)
      replace Z := keepH hb5 (blk_old Z.out)
      have U := keepH hb5 (g := w4.heap.size) (blk_new rfl)
      have z5 := hw5.size
      clear hb5 hw4 z4
      clear cX lX lX1 lX2 cG lG lG1 lG2 cA lA lA1 lA2 cZ lZ lZ1 lZ2
      have cX := cellH X
      obtain ⟨lX, lX1, lX2⟩ := ltH X
      have cG := cellH G
      obtain ⟨lG, lG1, lG2⟩ := ltH G
      have cA := cellH A
      obtain ⟨lA, lA1, lA2⟩ := ltH A
      have cZ := cellH Z
      obtain ⟨lZ, lZ1, lZ2⟩ := ltH Z
      have cU := cellH U
      obtain ⟨lU, lU1, lU2⟩ := ltH U
      go_wp2_with fail
      refine (first_same _ _ _).mono ?_
      rintro e w6 ⟨rfl, hb6⟩
      have hw6 : Below w.heap.size w w6 := stepH (by (repeat' (first | with_reducible exact Below.refl _ _ | with_reducible assumption | with_reducible refine Below.drew ?_ | with_reducible refine below_drewN ?_ _ | with_reducible refine Below.setCell ?_ ?_ _ | with_reducible refine Below.alloc ?_ ?_ _ | omega | (simp; done) | (simp; omega)))) hb6
      replace X := keepH hb6 X.out
      replace G := keepH hb6 G.out
      replace A := keepH hb6 A.out
      replace Z := keepH hb6 Z.out
      replace U := keepH hb6 U.out
      have z6 := hw6.size
      clear hb6 hw5 z5
      clear cX lX lX1 lX2 cG lG lG1 lG2 cA lA lA1 lA2 cZ lZ lZ1 lZ2 cU lU lU1 lU2
      have cX := cellH X
      obtain ⟨lX, lX1, lX2⟩ := ltH X
      have cG := cellH G
      obtain ⟨lG, lG1, lG2⟩ := ltH G
      have cA := cellH A
      obtain ⟨lA, lA1, lA2⟩ := ltH A
      have cZ := cellH Z
      obtain ⟨lZ, lZ1, lZ2⟩ := ltH Z
      have cU := cellH U
      obtain ⟨lU, lU1, lU2⟩ := ltH U
      go_wp2_with fail
      go_ret
      exact ⟨rfl, hw6⟩
    · have hm : (mode != 0) = true := by simp; omega
      have SD := Lib.hid (round_side (q := q) h0 m1 m2)
      rw [← hau] at SD
      have MU := Lib.hid (multiple_yes a u (kQ mode (q / u) (q / u).floor) · HA.out hu h0 hau)
      have HU := Lib.hid hu
      have HH0 := Lib.hid h0
      have BQ := bds HQ.out
      have BAA := bds HA.out
      have BU := bds hu
      clear hau hu h0
      go_enter Tryd.func5, Tryd.ntmps5
      go_wp2_with fail
      refine (first2_any E _ (HE.out.below (by (repeat' (first | with_reducible exact Below.refl _ _ | with_reducible assumption | with_reducible refine Below.drew ?_ | with_reducible refine below_drewN ?_ _ | with_reducible refine Below.setCell ?_ ?_ _ | with_reducible refine Below.alloc ?_ ?_ _ | omega | (simp; done) | (simp; omega))))) (HW.out.below (by (repeat' (first | with_reducible exact Below.refl _ _ | with_reducible assumption | with_reducible refine Below.drew ?_ | with_reducible refine below_drewN ?_ _ | with_reducible refine Below.setCell ?_ ?_ _ | with_reducible refine Below.alloc ?_ ?_ _ | omega | (simp; done) | (simp; omega)))))).mono ?_
      rintro e w7 ⟨rfl, hb7⟩
      have hw7 : Below w.heap.size w w7 := stepH (by (repeat' (first | with_reducible exact Below.refl _ _ | with_reducible assumption | with_reducible refine Below.drew ?_ | with_reducible refine below_drewN ?_ _ | with_reducible refine Below.setCell ?_ ?_ _ | with_reducible refine Below.alloc ?_ ?_ _ | omega | (simp; done) | (simp; omega)))) hb7
      have X := keepH hb7 (g := w.heap.size) (blk_old (blk_new rfl))
      have G := keepH hb7 (g := w.heap.size + 1) (blk_new (by simp))
      have z7 := hw7.size
      clear hb7
      have cX := cellH X
      obtain ⟨lX, lX1, lX2⟩ := ltH X
      have cG := cellH G
      obtain ⟨lG, lG1, lG2⟩ := ltH G
      go_wp2_with fail
      refine (round_any q.num q.den mode u.num u.den E _ HB.out ((HE.out.below (by (repeat' (first | with_reducible exact Below.refl _ _ | with_reducible assumption | with_reducible refine Below.drew ?_ | with_reducible refine below_drewN ?_ _ | with_reducible refine Below.setCell ?_ ?_ _ | with_reducible refine Below.alloc ?_ ?_ _ | omega | (simp; done) | (simp; omega))))).sub (by decide))).mono ?_
      rintro e w8 ⟨⟨n', d', err, rfl, hr⟩, hb8⟩
      have hw8 : Below w.heap.size w w8 := stepH (by (repeat' (first | with_reducible exact Below.refl _ _ | with_reducible assumption | with_reducible refine Below.drew ?_ | with_reducible refine below_drewN ?_ _ | with_reducible refine Below.setCell ?_ ?_ _ | with_reducible refine Below.alloc ?_ ?_ _ | omega | (simp; done) | (simp; omega)))) hb8
      rw [H1.out] at hr
      obtain ⟨rfl, rfl, rfl⟩ := hr
      replace X := keepH hb8 X.out
      replace G := keepH hb8 G.out
      have z8 := hw8.size
      clear hb8 hw7 z7
      clear cX lX lX1 lX2 cG lG lG1 lG2
      have cX := cellH X
      obtain ⟨lX, lX1, lX2⟩ := ltH X
      have cG := cellH G
      obtain ⟨lG, lG1, lG2⟩ := ltH G
      go_wp2_with fail
      refine (round_any a.num a.den mode u.num u.den E _ BA.out ((HE.out.below (by (repeat' (first | with_reducible exact Below.refl _ _ | with_reducible assumption | with_reducible refine Below.drew ?_ | with_reducible refine below_drewN ?_ _ | with_reducible refine Below.setCell ?_ ?_ _ | with_reducible refine Below.alloc ?_ ?_ _ | omega | (simp; done) | (simp; omega))))).sub (by decide))).mono ?_
      rintro e w9 ⟨⟨n', d', err, rfl, hr⟩, hb9⟩
      have hw9 : Below w.heap.size w w9 := stepH (by (repeat' (first | with_reducible exact Below.refl _ _ | with_reducible assumption | with_reducible refine Below.drew ?_ | with_reducible refine below_drewN ?_ _ | with_reducible refine Below.setCell ?_ ?_ _ | with_reducible refine Below.alloc ?_ ?_ _ | omega | (simp; done) | (simp; omega)))) hb9
      rw [H2.out] at hr
      obtain ⟨rfl, rfl, rfl⟩ := hr
      replace X := keepH hb9 (blk_old X.out)
      replace G := keepH hb9 (blk_old G.out)
      have A := keepH hb9 (g := w8.heap.size) (blk_new rfl)
      have z9 := hw9.size
      clear hb9 hw8 z8
      clear cX lX lX1 lX2 cG lG lG1 lG2
      have cX := cellH X
      obtain ⟨lX, lX1, lX2⟩ := ltH X
      have cG := cellH G
      obtain ⟨lG, lG1, lG2⟩ := ltH G
      have cA := cellH A
      obtain ⟨lA, lA1, lA2⟩ := ltH A
      go_wp2_with fail
      refine (unit_any mode u.num u.den _).mono ?_
      rintro e w10 ⟨rfl, hb10⟩
      have hw10 : Below w.heap.size w w10 := stepH (by (repeat' (first | with_reducible exact Below.refl _ _ | with_reducible assumption | with_reducible refine Below.drew ?_ | with_reducible refine below_drewN ?_ _ | with_reducible refine Below.setCell ?_ ?_ _ | with_reducible refine Below.alloc ?_ ?_ _ | omega | (simp; done) | (simp; omega)))) hb10
      replace X := keepH hb10 (blk_old X.out)
      replace G := keepH hb10 (blk_old G.out)
      replace A := keepH hb10 (blk_old A.out)
      have Z := keepH hb10 (g := w9.heap.size) (blk_new rfl)
      have z10 := hw10.size
      clear hb10 hw9 z9
      clear cX lX lX1 lX2 cG lG lG1 lG2 cA lA lA1 lA2
      have cX := cellH X
      obtain ⟨lX, lX1, lX2⟩ := ltH X
      have cG := cellH G
      obtain ⟨lG, lG1, lG2⟩ := ltH G
      have cA := cellH A
      obtain ⟨lA, lA1, lA2⟩ := ltH A
      have cZ := cellH Z
      obtain ⟨lZ, lZ1, lZ2⟩ := ltH Z
      go_wp2_with fail
      refine (first_same _ _ _).mono ?_
      rintro e w11 ⟨rfl, hb11⟩
      have hw11 : Below w.heap.size w w11 := stepH (by (repeat' (first | with_reducible exact Below.refl _ _ | with_reducible assumption | with_reducible refine Below.drew ?_ | with_reducible refine below_drewN ?_ _ | with_reducible refine Below.setCell ?_ ?_ _ | with_reducible refine Below.alloc ?_ ?_ _ | omega | (simp; done) | (simp; omega)))) hb11
      replace X := keepH hb11 (blk_old X.out)
      replace G := keepH hb11 (blk_old G.out)
      replace A := keepH hb11 (blk_old A.out)
      replace Z := keepH hb11 (blk_old Z.out)
      have U := keepH hb11 (g := w10.heap.size) (blk_new rfl)
      have z11 := hw11.size
      clear hb11 hw10 z10
      clear cX lX lX1 lX2 cG lG lG1 lG2 cA lA lA1 lA2 cZ lZ lZ1 lZ2
      have cX := cellH X
      obtain ⟨lX, lX1, lX2⟩ := ltH X
      have cG := cellH G
      obtain ⟨lG, lG1, lG2⟩ := ltH G
      have cA := cellH A
      obtain ⟨lA, lA1, lA2⟩ := ltH A
      have cZ := cellH Z
      obtain ⟨lZ, lZ1, lZ2⟩ := ltH Z
      have cU := cellH U
      obtain ⟨lU, lU1, lU2⟩ := ltH U
      go_wp2_with fail
      refine (MU.out _).mono ?_
      rintro e w12 ⟨rfl, hb12⟩
      have hw12 : Below w.heap.size w w12 := stepH (by (repeat' (first | with_reducible exact Below.refl _ _ | with_reducible assumption | with_reducible refine Below.drew ?_ | with_reducible refine below_drewN ?_ _ | with_reducible refine Below.setCell ?_ ?_ _ | with_reducible refine Below.alloc ?_ ?_ _ | omega | (simp; done) | (simp; omega)))) hb12
      replace X := keepH hb12 X.out
      replace G := keepH hb12 G.out
      replace A := keepH hb12 A.out
      replace Z := keepH hb12 Z.out
      replace U := keepH hb12 U.out
      have z12 := hw12.size
      clear hb12 hw11 z11
      clear cX lX lX1 lX2 cG lG lG1 lG2 cA lA lA1 lA2 cZ lZ lZ1 lZ2 cU lU lU1 lU2
      have cX := cellH X
      obtain ⟨lX, lX1, lX2⟩ := ltH X
      have cG := cellH G
      obtain ⟨lG, lG1, lG2⟩ := ltH G
      have cA := cellH A
      obtain ⟨lA, lA1, lA2⟩ := ltH A
      have cZ := cellH Z
      obtain ⟨lZ, lZ1, lZ2⟩ := ltH Z
      have cU := cellH U
      obtain ⟨lU, lU1, lU2⟩ := ltH U
      go_wp2_with fail
      refine (sub_any a.num a.den q.num q.den E _ BAA.1 BAA.2.1 BAA.2.2.1 BAA.2.2.2 BQ.1 BQ.2.1 BQ.2.2.1 BQ.2.2.2 ((HE.out.below (by (repeat' (first | with_reducible exact Below.refl _ _ | with_reducible assumption | with_reducible refine Below.drew ?_ | with_reducible refine below_drewN ?_ _ | with_reducible refine Below.setCell ?_ ?_ _ | with_reducible refine Below.alloc ?_ ?_ _ | omega | (simp; done) | (simp; omega))))).sub (by decide))).mono ?_
      rintro e w13 ⟨⟨n', d', err, rfl, hr⟩, hb13⟩
      have hw13 : Below w.heap.size w w13 := stepH (by (repeat' (first | with_reducible exact Below.refl _ _ | with_reducible assumption | with_reducible refine Below.drew ?_ | with_reducible refine below_drewN ?_ _ | with_reducible refine Below.setCell ?_ ?_ _ | with_reducible refine Below.alloc ?_ ?_ _ | omega | (simp; done) | (simp; omega)))) hb13
      rw [opI_good _ HA.out HQ.out] at hr
      replace X := keepH hb13 X.out
      replace G := keepH hb13 G.out
      replace A := keepH hb13 A.out
      replace Z := keepH hb13 Z.out
      replace U := keepH hb13 U.out
      have z13 := hw13.size
      clear hb13 hw12 z12
      clear cX lX lX1 lX2 cG lG lG1 lG2 cA lA lA1 lA2 cZ lZ lZ1 lZ2 cU lU lU1 lU2
      have cX := cellH X
      obtain ⟨lX, lX1, lX2⟩ := ltH X
      have cG := cellH G
      obtain ⟨lG, lG1, lG2⟩ := ltH G
      have cA := cellH A
      obtain ⟨lA, lA1, lA2⟩ := ltH A
      have cZ := cellH Z
      obtain ⟨lZ, lZ1, lZ2⟩ := ltH Z
      have cU := cellH U
      obtain ⟨lU, lU1, lU2⟩ := ltH U
      rcases resF_two hr with ⟨hg, rfl, rfl, rfl⟩ | ⟨_, rfl, rfl, rfl⟩
      rotate_left
      · go_wp2_with fail
        go_ret
        exact ⟨rfl, by (repeat' (first | with_reducible exact Below.refl _ _ | with_reducible assumption | with_reducible refine Below.drew ?_ | with_reducible refine below_drewN ?_ _ | with_reducible refine Below.setCell ?_ ?_ _ | with_reducible refine Below.alloc ?_ ?_ _ | omega | (simp; done) | (simp; omega)))⟩
      clear hr
      have ND := num_le hg
      have HG := Lib.hid hg
      clear hg
      have nX : w.heap.size ≠ w13.heap.size := by omega
      have nG : w.heap.size + 1 ≠ w13.heap.size := by omega
      have nA : w8.heap.size ≠ w13.heap.size := by omega
      have nZ : w9.heap.size ≠ w13.heap.size := by omega
      have nU : w10.heap.size ≠ w13.heap.size := by omega
      go_upto_if 78 with fail
      have hw14 : Below w.heap.size w (w13.alloc (.cells #[.int .i64 (a - q).num, .int .i64 (a - q).den] 30)) := by (repeat' (first | with_reducible exact Below.refl _ _ | with_reducible assumption | with_reducible refine Below.drew ?_ | with_reducible refine below_drewN ?_ _ | with_reducible refine Below.setCell ?_ ?_ _ | with_reducible refine Below.alloc ?_ ?_ _ | omega | (simp; done) | (simp; omega)))
      replace X : Hid ((w13.alloc (.cells #[.int .i64 (a - q).num, .int .i64 (a - q).den] 30)).heap[w.heap.size]? = some (.cells #[.int .i64 q.num, .int .i64 q.den] 30 (0, 0))) := (blk_old X.out)
      replace G : Hid ((w13.alloc (.cells #[.int .i64 (a - q).num, .int .i64 (a - q).den] 30)).heap[w.heap.size + 1]? = some (.cells #[.int .i64 mode, .int .i64 u.num, .int .i64 u.den] 32 (0, 0))) := (blk_old G.out)
      replace A : Hid ((w13.alloc (.cells #[.int .i64 (a - q).num, .int .i64 (a - q).den] 30)).heap[w8.heap.size]? = some (.cells #[.int .i64 a.num, .int .i64 a.den] 30 (0, 0))) := (blk_old A.out)
      replace Z : Hid ((w13.alloc (.cells #[.int .i64 (a - q).num, .int .i64 (a - q).den] 30)).heap[w9.heap.size]? = some (.cells #[.int .i64 a.num, .int .i64 a.den] 30 (0, 0))) := (blk_old Z.out)
      replace U : Hid ((w13.alloc (.cells #[.int .i64 (a - q).num, .int .i64 (a - q).den] 30)).heap[w10.heap.size]? = some (.cells #[.int .i64 u.num, .int .i64 u.den] 30 (0, 0))) := (blk_old U.out)
      have D : Hid ((w13.alloc (.cells #[.int .i64 (a - q).num, .int .i64 (a - q).den] 30)).heap[w13.heap.size]? = some (.cells #[.int .i64 (a - q).num, .int .i64 (a - q).den] 30 (0, 0))) := (blk_new rfl)
      clear cX lX lX1 lX2 cG lG lG1 lG2 cA lA lA1 lA2 cZ lZ lZ1 lZ2 cU lU lU1 lU2
      generalize (w13.alloc (.cells #[.int .i64 (a - q).num, .int .i64 (a - q).den] 30)) = w14 at *
      have z14 := hw14.size
      have cX := cellH X
      obtain ⟨lX, lX1, lX2⟩ := ltH X
      have cG := cellH G
      obtain ⟨lG, lG1, lG2⟩ := ltH G
      have cA := cellH A
      obtain ⟨lA, lA1, lA2⟩ := ltH A
      have cZ := cellH Z
      obtain ⟨lZ, lZ1, lZ2⟩ := ltH Z
      have cU := cellH U
      obtain ⟨lU, lU1, lU2⟩ := ltH U
      have cD := cellH D
      obtain ⟨lD, lD1, lD2⟩ := ltH D
      have fzD := frozH D
      obtain ⟨dd, hdd⟩ : ∃ dd, dd = if (a - q).num < 0 then -(a - q) else a - q := ⟨_, rfl⟩
      have HDD := Lib.hid hdd
      clear hdd
      go_cut [15] (fun s15 wx => s15 = .nilIface ∧ Below w.heap.size w wx ∧ Hid (wx.heap[w.heap.size]? = some (.cells #[.int .i64 q.num, .int .i64 q.den] 30 (0, 0))) ∧ Hid (wx.heap[w.heap.size + 1]? = some (.cells #[.int .i64 mode, .int .i64 u.num, .int .i64 u.den] 32 (0, 0))) ∧ Hid (wx.heap[w8.heap.size]? = some (.cells #[.int .i64 a.num, .int .i64 a.den] 30 (0, 0))) ∧ Hid (wx.heap[w9.heap.size]? = some (.cells #[.int .i64 a.num, .int .i64 a.den] 30 (0, 0))) ∧ Hid (wx.heap[w10.heap.size]? = some (.cells #[.int .i64 u.num, .int .i64 u.den] 30 (0, 0))) ∧ Hid (wx.heap[w13.heap.size]? = some (.cells #[.int .i64 dd.num, .int .i64 dd.den] 30 (0, 0))))
      case first =>
        have hdd := HDD.out
        by_cases hn : (a - q).num < 0
        · rw [if_pos hn] at hdd
          have e1 : dd.num = -(a - q).num := by rw [hdd, Rat.neg_num]
          have e2 : dd.den = (a - q).den := by rw [hdd, Rat.neg_den]
          clear hdd
          go_wp2_with fail
          refine (neg_good (a - q).num (a - q).den _ (by omega) (by omega)).mono ?_
          rintro e w15 ⟨rfl, hb15⟩
          have hw15 : Below w.heap.size w w15 := stepH (by (repeat' (first | with_reducible exact Below.refl _ _ | with_reducible assumption | with_reducible refine Below.drew ?_ | with_reducible refine below_drewN ?_ _ | with_reducible refine Below.setCell ?_ ?_ _ | with_reducible refine Below.alloc ?_ ?_ _ | omega | (simp; done) | (simp; omega)))) hb15
          replace X := keepH hb15 X.out
          replace G := keepH hb15 G.out
          replace A := keepH hb15 A.out
          replace Z := keepH hb15 Z.out
          replace U := keepH hb15 U.out
          replace D := keepH hb15 D.out
          have z15 := hw15.size
          clear hb15 hw14 z14
          clear cX lX lX1 lX2 cG lG lG1 lG2 cA lA lA1 lA2 cZ lZ lZ1 lZ2 cU lU lU1 lU2 cD lD lD1 lD2 fzD
          have cX := cellH X
          obtain ⟨lX, lX1, lX2⟩ := ltH X
          have cG := cellH G
          obtain ⟨lG, lG1, lG2⟩ := ltH G
          have cA := cellH A
          obtain ⟨lA, lA1, lA2⟩ := ltH A
          have cZ := cellH Z
          obtain ⟨lZ, lZ1, lZ2⟩ := ltH Z
          have cU := cellH U
          obtain ⟨lU, lU1, lU2⟩ := ltH U
          have cD := cellH D
          obtain ⟨lD, lD1, lD2⟩ := ltH D
          have fzD := frozH D
          go_wp2_with fail
          go_meet
          rw [e1, e2]
          exact ⟨rfl, (by (repeat' (first | with_reducible exact Below.refl _ _ | with_reducible assumption | with_reducible refine Below.drew ?_ | with_reducible refine below_drewN ?_ _ | with_reducible refine Below.setCell ?_ ?_ _ | with_reducible refine Below.alloc ?_ ?_ _ | omega | (simp; done) | (simp; omega)))), setH2o X nX, setH2o G nG, setH2o A nA, setH2o Z nZ, setH2o U nU, setH2 D.out⟩
        · rw [if_neg hn] at hdd
          subst hdd
          go_wp2_with fail
          go_meet
          exact ⟨rfl, (by (repeat' (first | with_reducible exact Below.refl _ _ | with_reducible assumption | with_reducible refine Below.drew ?_ | with_reducible refine below_drewN ?_ _ | with_reducible refine Below.setCell ?_ ?_ _ | with_reducible refine Below.alloc ?_ ?_ _ | omega | (simp; done) | (simp; omega)))), X, G, A, Z, U, D⟩
      case rest =>
        as_aux_lemma =>
          clear cX lX lX1 lX2 cG lG lG1 lG2 cA lA lA1 lA2 cZ lZ lZ1 lZ2 cU lU lU1 lU2 cD lD lD1 lD2 fzD
          clear X G A Z U D
          obtain ⟨rfl, hw16, X, G, A, Z, U, D⟩ := hcut
          obtain ⟨w16, rfl⟩ : ∃ x : World, x = wc := ⟨_, rfl⟩
          have z16 := hw16.size
          have cX := cellH X
          obtain ⟨lX, lX1, lX2⟩ := ltH X
          have cG := cellH G
          obtain ⟨lG, lG1, lG2⟩ := ltH G
          have cA := cellH A
          obtain ⟨lA, lA1, lA2⟩ := ltH A
          have cZ := cellH Z
          obtain ⟨lZ, lZ1, lZ2⟩ := ltH Z
          have cU := cellH U
          obtain ⟨lU, lU1, lU2⟩ := ltH U
          have cD := cellH D
          obtain ⟨lD, lD1, lD2⟩ := ltH D
          have fzD := frozH D
          have gd : Good dd := by rw [HDD.out]; split; exact good_neg HG.out; exact HG.out
          have ld : dd < u := by obtain ⟨s1, s2, _⟩ := SD.out; rw [HDD.out]; split <;> grind
          have hf : 5 ≤ mode → dd + dd ≤ u := fun h => by obtain ⟨_, _, _, _, _, _, s7⟩ := SD.out; obtain ⟨a1, a2⟩ := s7 h; rw [HDD.out]; split <;> grind
          have BD := bds gd
          have GD := Lib.hid gd
          have LD := Lib.hid ld
          have HF := Lib.hid hf
          clear gd ld hf
          go_wp2_with fail
          refine (cmp_is dd u (-1) _ GD.out HU.out (cmpQ_lt LD.out)).mono ?_
          rintro e w17 ⟨rfl, hb17⟩
          have hw17 : Below w.heap.size w w17 := stepH (by (repeat' (first | with_reducible exact Below.refl _ _ | with_reducible assumption | with_reducible refine Below.drew ?_ | with_reducible refine below_drewN ?_ _ | with_reducible refine Below.setCell ?_ ?_ _ | with_reducible refine Below.alloc ?_ ?_ _ | omega | (simp; done) | (simp; omega)))) hb17
          replace X := keepH hb17 X.out
          replace G := keepH hb17 G.out
          replace A := keepH hb17 A.out
          replace Z := keepH hb17 Z.out
          replace U := keepH hb17 U.out
          replace D := keepH hb17 D.out
          have z17 := hw17.size
          clear hb17 hw16 z16
          clear cX lX lX1 lX2 cG lG lG1 lG2 cA lA lA1 lA2 cZ lZ lZ1 lZ2 cU lU lU1 lU2 cD lD lD1 lD2 fzD
          have cX := cellH X
          obtain ⟨lX, lX1, lX2⟩ := ltH X
          have cG := cellH G
          obtain ⟨lG, lG1, lG2⟩ := ltH G
          have cA := cellH A
          obtain ⟨lA, lA1, lA2⟩ := ltH A
          have cZ := cellH Z
          obtain ⟨lZ, lZ1, lZ2⟩ := ltH Z
          have cU := cellH U
          obtain ⟨lU, lU1, lU2⟩ := ltH U
          have cD := cellH D
          obtain ⟨lD, lD1, lD2⟩ := ltH D
          have fzD := frozH D
          have six : mode = 1 ∨ mode = 2 ∨ mode = 3 ∨ mode = 4 ∨ mode = 5 ∨ mode = 6 := by omega
          rcases six with rfl | rfl | rfl | rfl | rfl | rfl
          · by_cases hx : 0 ≤ q.num
            · have sd := (SD.out.2.2.2.2.1 rfl).1 (Rat.num_nonneg.1 hx)
              obtain ⟨sd, sd2⟩ := sd
              have sn : 0 ≤ a.num := Rat.num_nonneg.2 sd2
              clear sd2
              have Csd := cmpQ_le sd
              generalize hcc : cmpQ a q = cc at Csd
              have HCC := Lib.hid hcc
              clear hcc
              go_wp2_with fail
              refine (cmp_is a q cc _ HA.out HQ.out HCC.out).mono ?_
              rintro e w18 ⟨rfl, hb18⟩
              have hw18 : Below w.heap.size w w18 := stepH (by (repeat' (first | with_reducible exact Below.refl _ _ | with_reducible assumption | with_reducible refine Below.drew ?_ | with_reducible refine below_drewN ?_ _ | with_reducible refine Below.setCell ?_ ?_ _ | with_reducible refine Below.alloc ?_ ?_ _ | omega | (simp; done) | (simp; omega)))) hb18
              replace X := keepH hb18 X.out
              replace G := keepH hb18 G.out
              replace A := keepH hb18 A.out
              replace Z := keepH hb18 Z.out
              replace U := keepH hb18 U.out
              replace D := keepH hb18 D.out
              have z18 := hw18.size
              clear hb18 hw17 z17
              clear cX lX lX1 lX2 cG lG lG1 lG2 cA lA lA1 lA2 cZ lZ lZ1 lZ2 cU lU lU1 lU2 cD lD lD1 lD2 fzD
              have cX := cellH X
              obtain ⟨lX, lX1, lX2⟩ := ltH X
              have cG := cellH G
              obtain ⟨lG, lG1, lG2⟩ := ltH G
              have cA := cellH A
              obtain ⟨lA, lA1, lA2⟩ := ltH A
              have cZ := cellH Z
              obtain ⟨lZ, lZ1, lZ2⟩ := ltH Z
              have cU := cellH U
              obtain ⟨lU, lU1, lU2⟩ := ltH U
              have cD := cellH D
              obtain ⟨lD, lD1, lD2⟩ := ltH D
              have fzD := frozH D
              go_wp2_with fail
              go_ret
              exact ⟨ret_bool (by first | rfl | (simp; omega) | exact decide_eq_true (by omega)), hw18⟩
            · have sd := (SD.out.2.2.2.2.1 rfl).2 (by have h : 0 < -q := pos_num.1 (by rw [Rat.neg_num]; omega); grind)
              have HX : Hid (¬ 0 ≤ q) := fun h => hx (Rat.num_nonneg.2 h)
              obtain ⟨sd, sd2⟩ := sd
              have sn : a.num ≤ 0 := num_le0 sd2
              clear sd2
              have Csd := cmpQ_ge sd
              generalize hcc : cmpQ a q = cc at Csd
              have HCC := Lib.hid hcc
              clear hcc
              go_wp2_with fail
              refine (cmp_is a q cc _ HA.out HQ.out HCC.out).mono ?_
              rintro e w19 ⟨rfl, hb19⟩
              have hw19 : Below w.heap.size w w19 := stepH (by (repeat' (first | with_reducible exact Below.refl _ _ | with_reducible assumption | with_reducible refine Below.drew ?_ | with_reducible refine below_drewN ?_ _ | with_reducible refine Below.setCell ?_ ?_ _ | with_reducible refine Below.alloc ?_ ?_ _ | omega | (simp; done) | (simp; omega)))) hb19
              replace X := keepH hb19 X.out
              replace G := keepH hb19 G.out
              replace A := keepH hb19 A.out
              replace Z := keepH hb19 Z.out
              replace U := keepH hb19 U.out
              replace D := keepH hb19 D.out
              have z19 := hw19.size
              clear hb19 hw17 z17
              clear cX lX lX1 lX2 cG lG lG1 lG2 cA lA lA1 lA2 cZ lZ lZ1 lZ2 cU lU lU1 lU2 cD lD lD1 lD2 fzD
              have cX := cellH X
              obtain ⟨lX, lX1, lX2⟩ := ltH X
              have cG := cellH G
              obtain ⟨lG, lG1, lG2⟩ := ltH G
              have cA := cellH A
              obtain ⟨lA, lA1, lA2⟩ := ltH A
              have cZ := cellH Z
              obtain ⟨lZ, lZ1, lZ2⟩ := ltH Z
              have cU := cellH U
              obtain ⟨lU, lU1, lU2⟩ := ltH U
              have cD := cellH D
              obtain ⟨lD, lD1, lD2⟩ := ltH D
              have fzD := frozH D
              have hq1 := HX.out
              have hq2 := decide_eq_false hq1
              have hq3 := eq_false hq1
              go_wp2_with fail
              all_goals try (exact absurd (by assumption) hq1)
              go_ret
              exact ⟨ret_bool (by first | rfl | (simp; omega) | exact decide_eq_true (by omega)), hw19⟩
          · by_cases hx : 0 ≤ q.num
            · have sd := (SD.out.2.2.2.2.2.1 rfl).1 (Rat.num_nonneg.1 hx)
              have Csd := cmpQ_ge sd
              generalize hcc : cmpQ a q = cc at Csd
              have HCC := Lib.hid hcc
              clear hcc
              go_wp2_with fail
              refine (cmp_is a q cc _ HA.out HQ.out HCC.out).mono ?_
              rintro e w20 ⟨rfl, hb20⟩
              have hw20 : Below w.heap.size w w20 := stepH (by (repeat' (first | with_reducible exact Below.refl _ _ | with_reducible assumption | with_reducible refine Below.drew ?_ | with_reducible refine below_drewN ?_ _ | with_reducible refine Below.setCell ?_ ?_ _ | with_reducible refine Below.alloc ?_ ?_ _ | omega | (simp; done) | (simp; omega)))) hb20
              replace X := keepH hb20 X.out
              replace G := keepH hb20 G.out
              replace A := keepH hb20 A.out
              replace Z := keepH hb20 Z.out
              replace U := keepH hb20 U.out
              replace D := keepH hb20 D.out
              have z20 := hw20.size
              clear hb20 hw17 z17
              clear cX lX lX1 lX2 cG lG lG1 lG2 cA lA lA1 lA2 cZ lZ lZ1 lZ2 cU lU lU1 lU2 cD lD lD1 lD2 fzD
              have cX := cellH X
              obtain ⟨lX, lX1, lX2⟩ := ltH X
              have cG := cellH G
              obtain ⟨lG, lG1, lG2⟩ := ltH G
              have cA := cellH A
              obtain ⟨lA, lA1, lA2⟩ := ltH A
              have cZ := cellH Z
              obtain ⟨lZ, lZ1, lZ2⟩ := ltH Z
              have cU := cellH U
              obtain ⟨lU, lU1, lU2⟩ := ltH U
              have cD := cellH D
              obtain ⟨lD, lD1, lD2⟩ := ltH D
              have fzD := frozH D
              go_wp2_with fail
              go_ret
              exact ⟨ret_bool (by first | rfl | (simp; omega) | exact decide_eq_true (by omega)), hw20⟩
            · have sd := (SD.out.2.2.2.2.2.1 rfl).2 (by have h : 0 < -q := pos_num.1 (by rw [Rat.neg_num]; omega); grind)
              have HX : Hid (¬ 0 ≤ q) := fun h => hx (Rat.num_nonneg.2 h)
              have Csd := cmpQ_le sd
              generalize hcc : cmpQ a q = cc at Csd
              have HCC := Lib.hid hcc
              clear hcc
              go_wp2_with fail
              refine (cmp_is a q cc _ HA.out HQ.out HCC.out).mono ?_
              rintro e w21 ⟨rfl, hb21⟩
              have hw21 : Below w.heap.size w w21 := stepH (by (repeat' (first | with_reducible exact Below.refl _ _ | with_reducible assumption | with_reducible refine Below.drew ?_ | with_reducible refine below_drewN ?_ _ | with_reducible refine Below.setCell ?_ ?_ _ | with_reducible refine Below.alloc ?_ ?_ _ | omega | (simp; done) | (simp; omega)))) hb21
              replace X := keepH hb21 X.out
              replace G := keepH hb21 G.out
              replace A := keepH hb21 A.out
              replace Z := keepH hb21 Z.out
              replace U := keepH hb21 U.out
              replace D := keepH hb21 D.out
              have z21 := hw21.size
              clear hb21 hw17 z17
              clear cX lX lX1 lX2 cG lG lG1 lG2 cA lA lA1 lA2 cZ lZ lZ1 lZ2 cU lU lU1 lU2 cD lD lD1 lD2 fzD
              have cX := cellH X
              obtain ⟨lX, lX1, lX2⟩ := ltH X
              have cG := cellH G
              obtain ⟨lG, lG1, lG2⟩ := ltH G
              have cA := cellH A
              obtain ⟨lA, lA1, lA2⟩ := ltH A
              have cZ := cellH Z
              obtain ⟨lZ, lZ1, lZ2⟩ := ltH Z
              have cU := cellH U
              obtain ⟨lU, lU1, lU2⟩ := ltH U
              have cD := cellH D
              obtain ⟨lD, lD1, lD2⟩ := ltH D
              have fzD := frozH D
              have hq1 := HX.out
              have hq2 := decide_eq_false hq1
              have hq3 := eq_false hq1
              go_wp2_with fail
              all_goals try (exact absurd (by assumption) hq1)
              go_ret
              exact ⟨ret_bool (by first | rfl | (simp; omega) | exact decide_eq_true (by omega)), hw21⟩
          · have sd := SD.out.2.2.1 rfl
            have Csd := cmpQ_le sd
            generalize hcc : cmpQ a q = cc at Csd
            have HCC := Lib.hid hcc
            clear hcc
            go_wp2_with fail
            refine (cmp_is a q cc _ HA.out HQ.out HCC.out).mono ?_
            rintro e w22 ⟨rfl, hb22⟩
            have hw22 : Below w.heap.size w w22 := stepH (by (repeat' (first | with_reducible exact Below.refl _ _ | with_reducible assumption | with_reducible refine Below.drew ?_ | with_reducible refine below_drewN ?_ _ | with_reducible refine Below.setCell ?_ ?_ _ | with_reducible refine Below.alloc ?_ ?_ _ | omega | (simp; done) | (simp; omega)))) hb22
            replace X := keepH hb22 X.out
            replace G := keepH hb22 G.out
            replace A := keepH hb22 A.out
            replace Z := keepH hb22 Z.out
            replace U := keepH hb22 U.out
            replace D := keepH hb22 D.out
            have z22 := hw22.size
            clear hb22 hw17 z17
            clear cX lX lX1 lX2 cG lG lG1 lG2 cA lA lA1 lA2 cZ lZ lZ1 lZ2 cU lU lU1 lU2 cD lD lD1 lD2 fzD
            have cX := cellH X
            obtain ⟨lX, lX1, lX2⟩ := ltH X
            have cG := cellH G
            obtain ⟨lG, lG1, lG2⟩ := ltH G
            have cA := cellH A
            obtain ⟨lA, lA1, lA2⟩ := ltH A
            have cZ := cellH Z
            obtain ⟨lZ, lZ1, lZ2⟩ := ltH Z
            have cU := cellH U
            obtain ⟨lU, lU1, lU2⟩ := ltH U
            have cD := cellH D
            obtain ⟨lD, lD1, lD2⟩ := ltH D
            have fzD := frozH D
            go_wp2_with fail
            go_ret
            exact ⟨ret_bool (by first | rfl | (simp; omega) | exact decide_eq_true (by omega)), hw22⟩
          · have sd := SD.out.2.2.2.1 rfl
            have Csd := cmpQ_ge sd
            generalize hcc : cmpQ a q = cc at Csd
            have HCC := Lib.hid hcc
            clear hcc
            go_wp2_with fail
            refine (cmp_is a q cc _ HA.out HQ.out HCC.out).mono ?_
            rintro e w23 ⟨rfl, hb23⟩
            have hw23 : Below w.heap.size w w23 := stepH (by (repeat' (first | with_reducible exact Below.refl _ _ | with_reducible assumption | with_reducible refine Below.drew ?_ | with_reducible refine below_drewN ?_ _ | with_reducible refine Below.setCell ?_ ?_ _ | with_reducible refine Below.alloc ?_ ?_ _ | omega | (simp; done) | (simp; omega)))) hb23
            replace X := keepH hb23 X.out
            replace G := keepH hb23 G.out
            replace A := keepH hb23 A.out
            replace Z := keepH hb23 Z.out
            replace U := keepH hb23 U.out
            replace D := keepH hb23 D.out
            have z23 := hw23.size
            clear hb23 hw17 z17
            clear cX lX lX1 lX2 cG lG lG1 lG2 cA lA lA1 lA2 cZ lZ lZ1 lZ2 cU lU lU1 lU2 cD lD lD1 lD2 fzD
            have cX := cellH X
            obtain ⟨lX, lX1, lX2⟩ := ltH X
            have cG := cellH G
            obtain ⟨lG, lG1, lG2⟩ := ltH G
            have cA := cellH A
            obtain ⟨lA, lA1, lA2⟩ := ltH A
            have cZ := cellH Z
            obtain ⟨lZ, lZ1, lZ2⟩ := ltH Z
            have cU := cellH U
            obtain ⟨lU, lU1, lU2⟩ := ltH U
            have cD := cellH D
            obtain ⟨lD, lD1, lD2⟩ := ltH D
            have fzD := frozH D
            go_wp2_with fail
            go_ret
            exact ⟨ret_bool (by first | rfl | (simp; omega) | exact decide_eq_true (by omega)), hw23⟩
          · go_wp2_with fail
            refine (add_any dd.num dd.den dd.num dd.den E _ BD.1 BD.2.1 BD.2.2.1 BD.2.2.2 BD.1 BD.2.1 BD.2.2.1 BD.2.2.2 ((HE.out.below (by (repeat' (first | with_reducible exact Below.refl _ _ | with_reducible assumption | with_reducible refine Below.drew ?_ | with_reducible refine below_drewN ?_ _ | with_reducible refine Below.setCell ?_ ?_ _ | with_reducible refine Below.alloc ?_ ?_ _ | omega | (simp; done) | (simp; omega))))).sub (by decide))).mono ?_
            rintro e w24 ⟨⟨n', d', err, rfl, hr⟩, hb24⟩
            have hw24 : Below w.heap.size w w24 := stepH (by (repeat' (first | with_reducible exact Below.refl _ _ | with_reducible assumption | with_reducible refine Below.drew ?_ | with_reducible refine below_drewN ?_ _ | with_reducible refine Below.setCell ?_ ?_ _ | with_reducible refine Below.alloc ?_ ?_ _ | omega | (simp; done) | (simp; omega)))) hb24
            rw [opI_good _ GD.out GD.out] at hr
            replace X := keepH hb24 X.out
            replace G := keepH hb24 G.out
            replace A := keepH hb24 A.out
            replace Z := keepH hb24 Z.out
            replace U := keepH hb24 U.out
            replace D := keepH hb24 D.out
            have z24 := hw24.size
            clear hb24 hw17 z17
            clear cX lX lX1 lX2 cG lG lG1 lG2 cA lA lA1 lA2 cZ lZ lZ1 lZ2 cU lU lU1 lU2 cD lD lD1 lD2 fzD
            have cX := cellH X
            obtain ⟨lX, lX1, lX2⟩ := ltH X
            have cG := cellH G
            obtain ⟨lG, lG1, lG2⟩ := ltH G
            have cA := cellH A
            obtain ⟨lA, lA1, lA2⟩ := ltH A
            have cZ := cellH Z
            obtain ⟨lZ, lZ1, lZ2⟩ := ltH Z
            have cU := cellH U
            obtain ⟨lU, lU1, lU2⟩ := ltH U
            have cD := cellH D
            obtain ⟨lD, lD1, lD2⟩ := ltH D
            have fzD := frozH D
            rcases resF_two hr with ⟨hg, rfl, rfl, rfl⟩ | ⟨_, rfl, rfl, rfl⟩
            · clear hr
              have HG2 := Lib.hid hg
              clear hg
              have C2 := cmpQ_le (HF.out (by omega))
              generalize hc2 : cmpQ (dd + dd) u = c2 at C2
              have HC2 := Lib.hid hc2
              clear hc2
              go_wp2_with fail
              refine (cmp_is (dd + dd) u c2 _ HG2.out HU.out HC2.out).mono ?_
              rintro e w25 ⟨rfl, hb25⟩
              have hw25 : Below w.heap.size w w25 := stepH (by (repeat' (first | with_reducible exact Below.refl _ _ | with_reducible assumption | with_reducible refine Below.drew ?_ | with_reducible refine below_drewN ?_ _ | with_reducible refine Below.setCell ?_ ?_ _ | with_reducible refine Below.alloc ?_ ?_ _ | omega | (simp; done) | (simp; omega)))) hb25
              replace X := keepH hb25 (blk_old X.out)
              replace G := keepH hb25 (blk_old G.out)
              replace A := keepH hb25 (blk_old A.out)
              replace Z := keepH hb25 (blk_old Z.out)
              replace U := keepH hb25 (blk_old U.out)
              replace D := keepH hb25 (blk_old D.out)
              have TW := keepH hb25 (g := w24.heap.size) (blk_new rfl)
              have z25 := hw25.size
              clear hb25 hw24 z24
              clear cX lX lX1 lX2 cG lG lG1 lG2 cA lA lA1 lA2 cZ lZ lZ1 lZ2 cU lU lU1 lU2 cD lD lD1 lD2 fzD
              have cX := cellH X
              obtain ⟨lX, lX1, lX2⟩ := ltH X
              have cG := cellH G
              obtain ⟨lG, lG1, lG2⟩ := ltH G
              have cA := cellH A
              obtain ⟨lA, lA1, lA2⟩ := ltH A
              have cZ := cellH Z
              obtain ⟨lZ, lZ1, lZ2⟩ := ltH Z
              have cU := cellH U
              obtain ⟨lU, lU1, lU2⟩ := ltH U
              have cD := cellH D
              obtain ⟨lD, lD1, lD2⟩ := ltH D
              have fzD := frozH D
              have cTW := cellH TW
              obtain ⟨lTW, lTW1, lTW2⟩ := ltH TW
              go_wp2_with fail
              go_ret
              exact ⟨rfl, hw25⟩
            · clear hr
              have hen := fun w => eql_nil (E 1) w
              go_wp2_with fail
              go_ret
              exact ⟨rfl, by (repeat' (first | with_reducible exact Below.refl _ _ | with_reducible assumption | with_reducible refine Below.drew ?_ | with_reducible refine below_drewN ?_ _ | with_reducible refine Below.setCell ?_ ?_ _ | with_reducible refine Below.alloc ?_ ?_ _ | omega | (simp; done) | (simp; omega)))⟩
          · go_wp2_with fail
            refine (add_any dd.num dd.den dd.num dd.den E _ BD.1 BD.2.1 BD.2.2.1 BD.2.2.2 BD.1 BD.2.1 BD.2.2.1 BD.2.2.2 ((HE.out.below (by (repeat' (first | with_reducible exact Below.refl _ _ | with_reducible assumption | with_reducible refine Below.drew ?_ | with_reducible refine below_drewN ?_ _ | with_reducible refine Below.setCell ?_ ?_ _ | with_reducible refine Below.alloc ?_ ?_ _ | omega | (simp; done) | (simp; omega))))).sub (by decide))).mono ?_
            rintro e w26 ⟨⟨n', d', err, rfl, hr⟩, hb26⟩
            have hw26 : Below w.heap.size w w26 := stepH (by (repeat' (first | with_reducible exact Below.refl _ _ | with_reducible assumption | with_reducible refine Below.drew ?_ | with_reducible refine below_drewN ?_ _ | with_reducible refine Below.setCell ?_ ?_ _ | with_reducible refine Below.alloc ?_ ?_ _ | omega | (simp; done) | (simp; omega)))) hb26
            rw [opI_good _ GD.out GD.out] at hr
            replace X := keepH hb26 X.out
            replace G := keepH hb26 G.out
            replace A := keepH hb26 A.out
            replace Z := keepH hb26 Z.out
            replace U := keepH hb26 U.out
            replace D := keepH hb26 D.out
            have z26 := hw26.size
            clear hb26 hw17 z17
            clear cX lX lX1 lX2 cG lG lG1 lG2 cA lA lA1 lA2 cZ lZ lZ1 lZ2 cU lU lU1 lU2 cD lD lD1 lD2 fzD
            have cX := cellH X
            obtain ⟨lX, lX1, lX2⟩ := ltH X
            have cG := cellH G
            obtain ⟨lG, lG1, lG2⟩ := ltH G
            have cA := cellH A
            obtain ⟨lA, lA1, lA2⟩ := ltH A
            have cZ := cellH Z
            obtain ⟨lZ, lZ1, lZ2⟩ := ltH Z
            have cU := cellH U
            obtain ⟨lU, lU1, lU2⟩ := ltH U
            have cD := cellH D
            obtain ⟨lD, lD1, lD2⟩ := ltH D
            have fzD := frozH D
            rcases resF_two hr with ⟨hg, rfl, rfl, rfl⟩ | ⟨_, rfl, rfl, rfl⟩
            · clear hr
              have HG2 := Lib.hid hg
              clear hg
              have C2 := cmpQ_le (HF.out (by omega))
              generalize hc2 : cmpQ (dd + dd) u = c2 at C2
              have HC2 := Lib.hid hc2
              clear hc2
              go_wp2_with fail
              refine (cmp_is (dd + dd) u c2 _ HG2.out HU.out HC2.out).mono ?_
              rintro e w27 ⟨rfl, hb27⟩
              have hw27 : Below w.heap.size w w27 := stepH (by (repeat' (first | with_reducible exact Below.refl _ _ | with_reducible assumption | with_reducible refine Below.drew ?_ | with_reducible refine below_drewN ?_ _ | with_reducible refine Below.setCell ?_ ?_ _ | with_reducible refine Below.alloc ?_ ?_ _ | omega | (simp; done) | (simp; omega)))) hb27
              replace X := keepH hb27 (blk_old X.out)
              replace G := keepH hb27 (blk_old G.out)
              replace A := keepH hb27 (blk_old A.out)
              replace Z := keepH hb27 (blk_old Z.out)
              replace U := keepH hb27 (blk_old U.out)
              replace D := keepH hb27 (blk_old D.out)
              have TW := keepH hb27 (g := w26.heap.size) (blk_new rfl)
              have z27 := hw27.size
              clear hb27 hw26 z26
              clear cX lX lX1 lX2 cG lG lG1 lG2 cA lA lA1 lA2 cZ lZ lZ1 lZ2 cU lU lU1 lU2 cD lD lD1 lD2 fzD
              have cX := cellH X
              obtain ⟨lX, lX1, lX2⟩ := ltH X
              have cG := cellH G
              obtain ⟨lG, lG1, lG2⟩ := ltH G
              have cA := cellH A
              obtain ⟨lA, lA1, lA2⟩ := ltH A
              have cZ := cellH Z
              obtain ⟨lZ, lZ1, lZ2⟩ := ltH Z
              have cU := cellH U
              obtain ⟨lU, lU1, lU2⟩ := ltH U
              have cD := cellH D
              obtain ⟨lD, lD1, lD2⟩ := ltH D
              have fzD := frozH D
              have cTW := cellH TW
              obtain ⟨lTW, lTW1, lTW2⟩ := ltH TW
              go_wp2_with fail
              go_ret
              exact ⟨rfl, hw27⟩
            · clear hr
              have hen := fun w => eql_nil (E 1) w
              go_wp2_with fail
              go_ret
              exact ⟨rfl, by (repeat' (first | with_reducible exact Below.refl _ _ | with_reducible assumption | with_reducible refine Below.drew ?_ | with_reducible refine below_drewN ?_ _ | with_reducible refine Below.setCell ?_ ?_ _ | with_reducible refine Below.alloc ?_ ?_ _ | omega | (simp; done) | (simp; omega)))⟩

end Go.Proofs.YtcbglkkmblmbnaaDoor
