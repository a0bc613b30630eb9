/- The walk of RoundOnce. -/
import Derived.Test.YtcbglkkmblmbnaaDoorOnce
namespace Go.Proofs.YtcbglkkmblmbnaaDoor
open Go.RowKit

theorem onceOk {mode un ud : Int} {l : List (Int × Int)} {a : Rat} (h : onceR mode un ud l = .ok a) : Good a := by
  obtain ⟨_, _, _, _, hr⟩ := once_ok h
  exact (round_ok hr).choose_spec.2.2.2.2.1

set_option maxRecDepth 100000 in
set_option maxHeartbeats 16000000 in
theorem roundOnce_walk (l : List (Int × Int)) (A : Option Addr) (c : Nat) (mode un ud : Int) (E : Nat → Addr) (w : World) (hc : l.length ≤ c) (hm : c ≤ maxLen) (hl : RowAt encF 2 w w.heap.size A l) (hI : ∀ x ∈ l, In2 x) (B : B5 0 0 mode un ud) (hE : Env LS E w) (hW : Words w) :
    Calls Tryd.prog 6 #[.slice A l.length c, .agg #[.int .i64 mode, .int .i64 un, .int .i64 ud]] w fun e w' => e = .returned (.bool true) ∧ Below w.heap.size w w' := by
  have hm' : l.length ≤ 9223372036854775807 := by unfold maxLen at hm; omega
  have HE := Lib.hid hE
  have HW := Lib.hid hW
  have HL := Lib.hid hl
  have HI := Lib.hid hI
  have HB := Lib.hid B
  have HC := Lib.hid hc
  have HM := Lib.hid hm
  clear hE hl hI B hc hm hW
  go_enter Tryd.func6, Tryd.ntmps6
  go_wp2_with fail
  refine (first2_any E _ (HE.out.below (by (repeat' (first | with_reducible exact Below.refl _ _ | with_reducible assumption | with_reducible refine Below.drew ?_ | with_reducible refine below_drewN ?_ _ | with_reducible refine Below.setCell ?_ ?_ _ | with_reducible refine Below.alloc ?_ ?_ _ | omega | (simp; done) | (simp; omega))))) (HW.out.below (by (repeat' (first | with_reducible exact Below.refl _ _ | with_reducible assumption | with_reducible refine Below.drew ?_ | with_reducible refine below_drewN ?_ _ | with_reducible refine Below.setCell ?_ ?_ _ | with_reducible refine Below.alloc ?_ ?_ _ | omega | (simp; done) | (simp; omega)))))).mono ?_
  rintro e w1 ⟨rfl, hb1⟩
  have hw1 : Below w.heap.size w w1 := stepH (by (repeat' (first | with_reducible exact Below.refl _ _ | with_reducible assumption | with_reducible refine Below.drew ?_ | with_reducible refine below_drewN ?_ _ | with_reducible refine Below.setCell ?_ ?_ _ | with_reducible refine Below.alloc ?_ ?_ _ | omega | (simp; done) | (simp; omega)))) hb1
  have G := keepH hb1 (g := w.heap.size) (blk_new rfl)
  have z1 := hw1.size
  clear hb1
  have cG := cellH G
  obtain ⟨lG, lG1, lG2⟩ := ltH G
  by_cases hn : l.length ≤ 400
  rotate_left
  · go_wp2_with fail
    go_ret
    exact ⟨rfl, by (repeat' (first | with_reducible exact Below.refl _ _ | with_reducible assumption | with_reducible refine Below.drew ?_ | with_reducible refine below_drewN ?_ _ | with_reducible refine Below.setCell ?_ ?_ _ | with_reducible refine Below.alloc ?_ ?_ _ | omega | (simp; done) | (simp; omega)))⟩
  go_wp2_with fail
  refine (once_any l A c mode un ud E _ HC.out HM.out ((HL.out.below (by (repeat' (first | with_reducible exact Below.refl _ _ | with_reducible assumption | with_reducible refine Below.drew ?_ | with_reducible refine below_drewN ?_ _ | with_reducible refine Below.setCell ?_ ?_ _ | with_reducible refine Below.alloc ?_ ?_ _ | omega | (simp; done) | (simp; omega)))) (Nat.le_refl _)).more (by first | omega | (simp; omega))) HI.out HB.out ((HE.out.below (by (repeat' (first | with_reducible exact Below.refl _ _ | with_reducible assumption | with_reducible refine Below.drew ?_ | with_reducible refine below_drewN ?_ _ | with_reducible refine Below.setCell ?_ ?_ _ | with_reducible refine Below.alloc ?_ ?_ _ | omega | (simp; done) | (simp; omega))))).sub (by decide))).mono ?_
  rintro e w2 ⟨⟨n', d', err, rfl, hr⟩, hb2⟩
  have hw2 : Below w.heap.size w w2 := stepH (by (repeat' (first | with_reducible exact Below.refl _ _ | with_reducible assumption | with_reducible refine Below.drew ?_ | with_reducible refine below_drewN ?_ _ | with_reducible refine Below.setCell ?_ ?_ _ | with_reducible refine Below.alloc ?_ ?_ _ | omega | (simp; done) | (simp; omega)))) hb2
  replace G := keepH hb2 G.out
  have z2 := hw2.size
  clear hb2 hw1 z1
  clear cG lG lG1 lG2
  have cG := cellH G
  obtain ⟨lG, lG1, lG2⟩ := ltH G
  cases ho : onceR mode un ud l
  · rename_i g
    rw [ho] at hr
    obtain ⟨rfl, rfl, rfl⟩ := hr
    clear ho
    have hen := fun w => eql_nil (E g) w
    go_wp2_with fail
    refine (each_any l A c mode un ud E _ HC.out HM.out ((HL.out.below (by (repeat' (first | with_reducible exact Below.refl _ _ | with_reducible assumption | with_reducible refine Below.drew ?_ | with_reducible refine below_drewN ?_ _ | with_reducible refine Below.setCell ?_ ?_ _ | with_reducible refine Below.alloc ?_ ?_ _ | omega | (simp; done) | (simp; omega)))) (Nat.le_refl _)).more (by first | omega | (simp; omega))) HI.out HB.out ((HE.out.below (by (repeat' (first | with_reducible exact Below.refl _ _ | with_reducible assumption | with_reducible refine Below.drew ?_ | with_reducible refine below_drewN ?_ _ | with_reducible refine Below.setCell ?_ ?_ _ | with_reducible refine Below.alloc ?_ ?_ _ | omega | (simp; done) | (simp; omega))))).sub (by decide))).mono ?_
    rintro e w3 ⟨⟨n2, d2, err2, rfl, hr2⟩, hb3⟩
    have hw3 : Below w.heap.size w w3 := stepH (by (repeat' (first | with_reducible exact Below.refl _ _ | with_reducible assumption | with_reducible refine Below.drew ?_ | with_reducible refine below_drewN ?_ _ | with_reducible refine Below.setCell ?_ ?_ _ | with_reducible refine Below.alloc ?_ ?_ _ | omega | (simp; done) | (simp; omega)))) hb3
    clear hr2
    replace G := keepH hb3 (blk_old G.out)
    have A1 := keepH hb3 (g := w2.heap.size) (blk_new rfl)
    have z3 := hw3.size
    clear hb3 hw2 z2
    clear cG lG lG1 lG2
    have cG := cellH G
    obtain ⟨lG, lG1, lG2⟩ := ltH G
    have cA1 := cellH A1
    obtain ⟨lA1, lA11, lA12⟩ := ltH A1
    go_wp2_with fail
    go_ret
    exact ⟨rfl, by (repeat' (first | with_reducible exact Below.refl _ _ | with_reducible assumption | with_reducible refine Below.drew ?_ | with_reducible refine below_drewN ?_ _ | with_reducible refine Below.setCell ?_ ?_ _ | with_reducible refine Below.alloc ?_ ?_ _ | omega | (simp; done) | (simp; omega)))⟩
  · rename_i a
    rw [ho] at hr
    obtain ⟨rfl, rfl, rfl⟩ := hr
    have ga := onceOk ho
    have NA := num_le ga
    have HO := Lib.hid ho
    have HGA := Lib.hid ga
    clear ho ga
    go_wp2_with fail
    refine (each_any l A c mode un ud E _ HC.out HM.out ((HL.out.below (by (repeat' (first | with_reducible exact Below.refl _ _ | with_reducible assumption | with_reducible refine Below.drew ?_ | with_reducible refine below_drewN ?_ _ | with_reducible refine Below.setCell ?_ ?_ _ | with_reducible refine Below.alloc ?_ ?_ _ | omega | (simp; done) | (simp; omega)))) (Nat.le_refl _)).more (by first | omega | (simp; omega))) HI.out HB.out ((HE.out.below (by (repeat' (first | with_reducible exact Below.refl _ _ | with_reducible assumption | with_reducible refine Below.drew ?_ | with_reducible refine below_drewN ?_ _ | with_reducible refine Below.setCell ?_ ?_ _ | with_reducible refine Below.alloc ?_ ?_ _ | omega | (simp; done) | (simp; omega))))).sub (by decide))).mono ?_
    rintro e w4 ⟨⟨n2, d2, err2, rfl, hr⟩, hb4⟩
    have hw4 : Below w.heap.size w w4 := stepH (by (repeat' (first | with_reducible exact Below.refl _ _ | with_reducible assumption | with_reducible refine Below.drew ?_ | with_reducible refine below_drewN ?_ _ | with_reducible refine Below.setCell ?_ ?_ _ | with_reducible refine Below.alloc ?_ ?_ _ | omega | (simp; done) | (simp; omega)))) hb4
    replace G := keepH hb4 (blk_old G.out)
    have A1 := keepH hb4 (g := w2.heap.size) (blk_new rfl)
    have z4 := hw4.size
    clear hb4 hw2 z2
    clear cG lG lG1 lG2
    have cG := cellH G
    obtain ⟨lG, lG1, lG2⟩ := ltH G
    have cA1 := cellH A1
    obtain ⟨lA1, lA11, lA12⟩ := ltH A1
    cases he : eachR mode un ud 0 l
    · rename_i g
      rw [he] at hr
      obtain ⟨rfl, rfl, rfl⟩ := hr
      clear he
      have hen := fun w => eql_nil (E g) w
      go_wp2_with fail
      go_ret
      exact ⟨rfl, by (repeat' (first | with_reducible exact Below.refl _ _ | with_reducible assumption | with_reducible refine Below.drew ?_ | with_reducible refine below_drewN ?_ _ | with_reducible refine Below.setCell ?_ ?_ _ | with_reducible refine Below.alloc ?_ ?_ _ | omega | (simp; done) | (simp; omega)))⟩
    · rename_i b
      rw [he] at hr
      obtain ⟨rfl, rfl, rfl⟩ := hr
      obtain ⟨_, gb, hcase⟩ := once_each HO.out he
      have NB := num_le gb
      have HGB := Lib.hid gb
      clear he gb
      rcases hcase with ⟨rfl, rfl⟩ | ⟨hm0, u, hu, h0, rfl, rfl, d1, d2⟩
      · go_wp2_with fail
        refine (unit_any 0 un ud _).mono ?_
        rintro e w5 ⟨rfl, hb5⟩
        have hw5 : Below w.heap.size w w5 := stepH (by (repeat' (first | with_reducible exact Below.refl _ _ | with_reducible assumption | with_reducible refine Below.drew ?_ | with_reducible refine below_drewN ?_ _ | with_reducible refine Below.setCell ?_ ?_ _ | with_reducible refine Below.alloc ?_ ?_ _ | omega | (simp; done) | (simp; omega)))) hb5
        replace G := keepH hb5 (blk_old G.out)
        replace A1 := keepH hb5 (blk_old A1.out)
        have B1 := keepH hb5 (g := w4.heap.size) (blk_new rfl)
        have z5 := hw5.size
        clear hb5 hw4 z4
        clear cG lG lG1 lG2 cA1 lA1 lA11 lA12
        have cG := cellH G
        obtain ⟨lG, lG1, lG2⟩ := ltH G
        have cA1 := cellH A1
        obtain ⟨lA1, lA11, lA12⟩ := ltH A1
        have cB1 := cellH B1
        obtain ⟨lB1, lB11, lB12⟩ := ltH B1
        go_wp2_with fail
        refine (first_same _ _ _).mono ?_
        rintro e w6 ⟨rfl, hb6⟩
        have hw6 : Below w.heap.size w w6 := stepH (by (repeat' (first | with_reducible exact Below.refl _ _ | with_reducible assumption | with_reducible refine Below.drew ?_ | with_reducible refine below_drewN ?_ _ | with_reducible refine Below.setCell ?_ ?_ _ | with_reducible refine Below.alloc ?_ ?_ _ | omega | (simp; done) | (simp; omega)))) hb6
        replace G := keepH hb6 (blk_old G.out)
        replace A1 := keepH hb6 (blk_old A1.out)
        replace B1 := keepH hb6 (blk_old B1.out)
        have U := keepH hb6 (g := w5.heap.size) (blk_new rfl)
        have z6 := hw6.size
        clear hb6 hw5 z5
        clear cG lG lG1 lG2 cA1 lA1 lA11 lA12 cB1 lB1 lB11 lB12
        have cG := cellH G
        obtain ⟨lG, lG1, lG2⟩ := ltH G
        have cA1 := cellH A1
        obtain ⟨lA1, lA11, lA12⟩ := ltH A1
        have cB1 := cellH B1
        obtain ⟨lB1, lB11, lB12⟩ := ltH B1
        have cU := cellH U
        obtain ⟨lU, lU1, lU2⟩ := ltH U
        go_wp2_with fail
        go_ret
        exact ⟨rfl, hw6⟩
      · have hmt : (mode != 0) = true := by simpa using hm0
        have HU := Lib.hid hu
        have D1 := Lib.hid d1
        have D2 := Lib.hid d2
        have BU := bds hu
        have BA := bds HGA.out
        have BB := bds HGB.out
        clear hm0 hu d1 d2
        go_wp2_with fail
        refine (unit_any mode u.num u.den _).mono ?_
        rintro e w7 ⟨rfl, hb7⟩
        have hw7 : Below w.heap.size w w7 := stepH (by (repeat' (first | with_reducible exact Below.refl _ _ | with_reducible assumption | with_reducible refine Below.drew ?_ | with_reducible refine below_drewN ?_ _ | with_reducible refine Below.setCell ?_ ?_ _ | with_reducible refine Below.alloc ?_ ?_ _ | omega | (simp; done) | (simp; omega)))) hb7
        rw [hmt]
        replace G := keepH hb7 (blk_old G.out)
        replace A1 := keepH hb7 (blk_old A1.out)
        have B1 := keepH hb7 (g := w4.heap.size) (blk_new rfl)
        have z7 := hw7.size
        clear hb7 hw4 z4
        clear cG lG lG1 lG2 cA1 lA1 lA11 lA12
        have cG := cellH G
        obtain ⟨lG, lG1, lG2⟩ := ltH G
        have cA1 := cellH A1
        obtain ⟨lA1, lA11, lA12⟩ := ltH A1
        have cB1 := cellH B1
        obtain ⟨lB1, lB11, lB12⟩ := ltH B1
        have HGK := Lib.hid (good_int (k := (l.length + 1 : Int)) (by omega) (by omega))
        go_wp2_with fail
        refine (whole_int (l.length + 1 : Int) E _ (by omega) (by omega) ((HE.out.below (by (repeat' (first | with_reducible exact Below.refl _ _ | with_reducible assumption | with_reducible refine Below.drew ?_ | with_reducible refine below_drewN ?_ _ | with_reducible refine Below.setCell ?_ ?_ _ | with_reducible refine Below.alloc ?_ ?_ _ | omega | (simp; done) | (simp; omega))))).sub (by decide))).mono ?_
        rintro e w8 ⟨rfl, hb8⟩
        have hw8 : Below w.heap.size w w8 := stepH (by (repeat' (first | with_reducible exact Below.refl _ _ | with_reducible assumption | with_reducible refine Below.drew ?_ | with_reducible refine below_drewN ?_ _ | with_reducible refine Below.setCell ?_ ?_ _ | with_reducible refine Below.alloc ?_ ?_ _ | omega | (simp; done) | (simp; omega)))) hb8
        replace G := keepH hb8 (blk_old G.out)
        replace A1 := keepH hb8 (blk_old A1.out)
        replace B1 := keepH hb8 (blk_old B1.out)
        have U := keepH hb8 (g := w7.heap.size) (blk_new rfl)
        have z8 := hw8.size
        clear hb8 hw7 z7
        clear cG lG lG1 lG2 cA1 lA1 lA11 lA12 cB1 lB1 lB11 lB12
        have cG := cellH G
        obtain ⟨lG, lG1, lG2⟩ := ltH G
        have cA1 := cellH A1
        obtain ⟨lA1, lA11, lA12⟩ := ltH A1
        have cB1 := cellH B1
        obtain ⟨lB1, lB11, lB12⟩ := ltH B1
        have cU := cellH U
        obtain ⟨lU, lU1, lU2⟩ := ltH U
        go_wp2_with fail
        refine (mul_int (l.length + 1 : Int) u E _ HGK.out HU.out ((HE.out.below (by (repeat' (first | with_reducible exact Below.refl _ _ | with_reducible assumption | with_reducible refine Below.drew ?_ | with_reducible refine below_drewN ?_ _ | with_reducible refine Below.setCell ?_ ?_ _ | with_reducible refine Below.alloc ?_ ?_ _ | omega | (simp; done) | (simp; omega))))).sub (by decide))).mono ?_
        rintro e w9 ⟨⟨n3, d3, err3, rfl, hr3⟩, hb9⟩
        have hw9 : Below w.heap.size w w9 := stepH (by (repeat' (first | with_reducible exact Below.refl _ _ | with_reducible assumption | with_reducible refine Below.drew ?_ | with_reducible refine below_drewN ?_ _ | with_reducible refine Below.setCell ?_ ?_ _ | with_reducible refine Below.alloc ?_ ?_ _ | omega | (simp; done) | (simp; omega)))) hb9
        replace G := keepH hb9 (blk_old G.out)
        replace A1 := keepH hb9 (blk_old A1.out)
        replace B1 := keepH hb9 (blk_old B1.out)
        replace U := keepH hb9 (blk_old U.out)
        have N1 := keepH hb9 (g := w8.heap.size) (blk_new rfl)
        have z9 := hw9.size
        clear hb9 hw8 z8
        clear cG lG lG1 lG2 cA1 lA1 lA11 lA12 cB1 lB1 lB11 lB12 cU lU lU1 lU2
        have cG := cellH G
        obtain ⟨lG, lG1, lG2⟩ := ltH G
        have cA1 := cellH A1
        obtain ⟨lA1, lA11, lA12⟩ := ltH A1
        have cB1 := cellH B1
        obtain ⟨lB1, lB11, lB12⟩ := ltH B1
        have cU := cellH U
        obtain ⟨lU, lU1, lU2⟩ := ltH U
        have cN1 := cellH N1
        obtain ⟨lN1, lN11, lN12⟩ := ltH N1
        go_wp2_with fail
        refine (sub_any a.num a.den b.num b.den E _ BA.1 BA.2.1 BA.2.2.1 BA.2.2.2 BB.1 BB.2.1 BB.2.2.1 BB.2.2.2 ((HE.out.below (by (repeat' (first | with_reducible exact Below.refl _ _ | with_reducible assumption | with_reducible refine Below.drew ?_ | with_reducible refine below_drewN ?_ _ | with_reducible refine Below.setCell ?_ ?_ _ | with_reducible refine Below.alloc ?_ ?_ _ | omega | (simp; done) | (simp; omega))))).sub (by decide))).mono ?_
        rintro e w10 ⟨⟨n4, d4, err4, rfl, hr4⟩, hb10⟩
        have hw10 : Below w.heap.size w w10 := stepH (by (repeat' (first | with_reducible exact Below.refl _ _ | with_reducible assumption | with_reducible refine Below.drew ?_ | with_reducible refine below_drewN ?_ _ | with_reducible refine Below.setCell ?_ ?_ _ | with_reducible refine Below.alloc ?_ ?_ _ | omega | (simp; done) | (simp; omega)))) hb10
        rw [opI_good _ HGA.out HGB.out] at hr4
        replace G := keepH hb10 (blk_old G.out)
        replace A1 := keepH hb10 (blk_old A1.out)
        replace B1 := keepH hb10 (blk_old B1.out)
        replace U := keepH hb10 (blk_old U.out)
        replace N1 := keepH hb10 (blk_old N1.out)
        have M1 := keepH hb10 (g := w9.heap.size) (blk_new rfl)
        have z10 := hw10.size
        clear hb10 hw9 z9
        clear cG lG lG1 lG2 cA1 lA1 lA11 lA12 cB1 lB1 lB11 lB12 cU lU lU1 lU2 cN1 lN1 lN11 lN12
        have cG := cellH G
        obtain ⟨lG, lG1, lG2⟩ := ltH G
        have cA1 := cellH A1
        obtain ⟨lA1, lA11, lA12⟩ := ltH A1
        have cB1 := cellH B1
        obtain ⟨lB1, lB11, lB12⟩ := ltH B1
        have cU := cellH U
        obtain ⟨lU, lU1, lU2⟩ := ltH U
        have cN1 := cellH N1
        obtain ⟨lN1, lN11, lN12⟩ := ltH N1
        have cM1 := cellH M1
        obtain ⟨lM1, lM11, lM12⟩ := ltH M1
        rcases resF_two hr3 with ⟨hg3, rfl, rfl, rfl⟩ | ⟨_, rfl, rfl, rfl⟩
        rotate_left
        · have hen := fun w => eql_nil (E 1) w
          clear hr4
          go_wp2_with fail
          go_ret
          exact ⟨rfl, by (repeat' (first | with_reducible exact Below.refl _ _ | with_reducible assumption | with_reducible refine Below.drew ?_ | with_reducible refine below_drewN ?_ _ | with_reducible refine Below.setCell ?_ ?_ _ | with_reducible refine Below.alloc ?_ ?_ _ | omega | (simp; done) | (simp; omega)))⟩
        rcases resF_two hr4 with ⟨hg, rfl, rfl, rfl⟩ | ⟨_, rfl, rfl, rfl⟩
        rotate_left
        · have hen := fun w => eql_nil (E 1) w
          go_wp2_with fail
          go_ret
          exact ⟨rfl, by (repeat' (first | with_reducible exact Below.refl _ _ | with_reducible assumption | with_reducible refine Below.drew ?_ | with_reducible refine below_drewN ?_ _ | with_reducible refine Below.setCell ?_ ?_ _ | with_reducible refine Below.alloc ?_ ?_ _ | omega | (simp; done) | (simp; omega)))⟩
        clear hr3 hr4
        have ND := num_le hg
        have NM := num_le hg3
        have HG := Lib.hid hg
        have HG3 := Lib.hid hg3
        clear hg hg3
        generalize hmo : (((l.length + 1 : Int) : Int) : Rat) * u = mo at *
        have HMO := Lib.hid hmo
        clear hmo
        have nG : w.heap.size ≠ w10.heap.size := by omega
        have nA1 : w2.heap.size ≠ w10.heap.size := by omega
        have nB1 : w4.heap.size ≠ w10.heap.size := by omega
        have nU : w7.heap.size ≠ w10.heap.size := by omega
        have nN1 : w8.heap.size ≠ w10.heap.size := by omega
        have nM1 : w9.heap.size ≠ w10.heap.size := by omega
        go_upto_if 84 with fail
        have hw11 : Below w.heap.size w (w10.alloc (.cells #[.int .i64 (a - b).num, .int .i64 (a - b).den] 30)) := by (repeat' (first | with_reducible exact Below.refl _ _ | with_reducible assumption | with_reducible refine Below.drew ?_ | with_reducible refine below_drewN ?_ _ | with_reducible refine Below.setCell ?_ ?_ _ | with_reducible refine Below.alloc ?_ ?_ _ | omega | (simp; done) | (simp; omega)))
        replace G : Hid ((w10.alloc (.cells #[.int .i64 (a - b).num, .int .i64 (a - b).den] 30)).heap[w.heap.size]? = some (.cells #[.int .i64 mode, .int .i64 u.num, .int .i64 u.den] 32 (0, 0))) := (blk_old G.out)
        replace A1 : Hid ((w10.alloc (.cells #[.int .i64 (a - b).num, .int .i64 (a - b).den] 30)).heap[w2.heap.size]? = some (.cells #[.int .i64 a.num, .int .i64 a.den] 30 (0, 0))) := (blk_old A1.out)
        replace B1 : Hid ((w10.alloc (.cells #[.int .i64 (a - b).num, .int .i64 (a - b).den] 30)).heap[w4.heap.size]? = some (.cells #[.int .i64 b.num, .int .i64 b.den] 30 (0, 0))) := (blk_old B1.out)
        replace U : Hid ((w10.alloc (.cells #[.int .i64 (a - b).num, .int .i64 (a - b).den] 30)).heap[w7.heap.size]? = some (.cells #[.int .i64 u.num, .int .i64 u.den] 30 (0, 0))) := (blk_old U.out)
        replace N1 : Hid ((w10.alloc (.cells #[.int .i64 (a - b).num, .int .i64 (a - b).den] 30)).heap[w8.heap.size]? = some (.cells #[.int .i64 (l.length + 1 : Int), .int .i64 1] 30 (0, 0))) := (blk_old N1.out)
        replace M1 : Hid ((w10.alloc (.cells #[.int .i64 (a - b).num, .int .i64 (a - b).den] 30)).heap[w9.heap.size]? = some (.cells #[.int .i64 mo.num, .int .i64 mo.den] 30 (0, 0))) := (blk_old M1.out)
        have D : Hid ((w10.alloc (.cells #[.int .i64 (a - b).num, .int .i64 (a - b).den] 30)).heap[w10.heap.size]? = some (.cells #[.int .i64 (a - b).num, .int .i64 (a - b).den] 30 (0, 0))) := (blk_new rfl)
        clear cG lG lG1 lG2 cA1 lA1 lA11 lA12 cB1 lB1 lB11 lB12 cU lU lU1 lU2 cN1 lN1 lN11 lN12 cM1 lM1 lM11 lM12
        generalize (w10.alloc (.cells #[.int .i64 (a - b).num, .int .i64 (a - b).den] 30)) = w11 at *
        have z11 := hw11.size
        have cG := cellH G
        obtain ⟨lG, lG1, lG2⟩ := ltH G
        have cA1 := cellH A1
        obtain ⟨lA1, lA11, lA12⟩ := ltH A1
        have cB1 := cellH B1
        obtain ⟨lB1, lB11, lB12⟩ := ltH B1
        have cU := cellH U
        obtain ⟨lU, lU1, lU2⟩ := ltH U
        have cN1 := cellH N1
        obtain ⟨lN1, lN11, lN12⟩ := ltH N1
        have cM1 := cellH M1
        obtain ⟨lM1, lM11, lM12⟩ := ltH M1
        have cD := cellH D
        obtain ⟨lD, lD1, lD2⟩ := ltH D
        have fzD := frozH D
        obtain ⟨dd, hdd⟩ : ∃ dd, dd = if (a - b).num < 0 then -(a - b) else a - b := ⟨_, rfl⟩
        have HDD := Lib.hid hdd
        clear hdd
        go_cut [17] (fun s17 wx => s17 = .nilIface ∧ Below w.heap.size w wx ∧ Hid (wx.heap[w.heap.size]? = some (.cells #[.int .i64 mode, .int .i64 u.num, .int .i64 u.den] 32 (0, 0))) ∧ Hid (wx.heap[w2.heap.size]? = some (.cells #[.int .i64 a.num, .int .i64 a.den] 30 (0, 0))) ∧ Hid (wx.heap[w4.heap.size]? = some (.cells #[.int .i64 b.num, .int .i64 b.den] 30 (0, 0))) ∧ Hid (wx.heap[w7.heap.size]? = some (.cells #[.int .i64 u.num, .int .i64 u.den] 30 (0, 0))) ∧ Hid (wx.heap[w8.heap.size]? = some (.cells #[.int .i64 (l.length + 1 : Int), .int .i64 1] 30 (0, 0))) ∧ Hid (wx.heap[w9.heap.size]? = some (.cells #[.int .i64 mo.num, .int .i64 mo.den] 30 (0, 0))) ∧ Hid (wx.heap[w10.heap.size]? = some (.cells #[.int .i64 dd.num, .int .i64 dd.den] 30 (0, 0))))
        case first =>
          have hdd := HDD.out
          by_cases hn : (a - b).num < 0
          · rw [if_pos hn] at hdd
            have e1 : dd.num = -(a - b).num := by rw [hdd, Rat.neg_num]
            have e2 : dd.den = (a - b).den := by rw [hdd, Rat.neg_den]
            clear hdd
            go_wp2_with fail
            refine (neg_good (a - b).num (a - b).den _ (by omega) (by omega)).mono ?_
            rintro e w12 ⟨rfl, hb12⟩
            have hw12 : Below w.heap.size w w12 := stepH (by (repeat' (first | with_reducible exact Below.refl _ _ | with_reducible assumption | with_reducible refine Below.drew ?_ | with_reducible refine below_drewN ?_ _ | with_reducible refine Below.setCell ?_ ?_ _ | with_reducible refine Below.alloc ?_ ?_ _ | omega | (simp; done) | (simp; omega)))) hb12
            replace G := keepH hb12 G.out
            replace A1 := keepH hb12 A1.out
            replace B1 := keepH hb12 B1.out
            replace U := keepH hb12 U.out
            replace N1 := keepH hb12 N1.out
            replace M1 := keepH hb12 M1.out
            replace D := keepH hb12 D.out
            have z12 := hw12.size
            clear hb12 hw11 z11
            clear cG lG lG1 lG2 cA1 lA1 lA11 lA12 cB1 lB1 lB11 lB12 cU lU lU1 lU2 cN1 lN1 lN11 lN12 cM1 lM1 lM11 lM12 cD lD lD1 lD2 fzD
            have cG := cellH G
            obtain ⟨lG, lG1, lG2⟩ := ltH G
            have cA1 := cellH A1
            obtain ⟨lA1, lA11, lA12⟩ := ltH A1
            have cB1 := cellH B1
            obtain ⟨lB1, lB11, lB12⟩ := ltH B1
            have cU := cellH U
            obtain ⟨lU, lU1, lU2⟩ := ltH U
            have cN1 := cellH N1
            obtain ⟨lN1, lN11, lN12⟩ := ltH N1
            have cM1 := cellH M1
            obtain ⟨lM1, lM11, lM12⟩ := ltH M1
            have cD := cellH D
            obtain ⟨lD, lD1, lD2⟩ := ltH D
            have fzD := frozH D
            go_wp2_with fail
            go_meet
            rw [e1, e2]
            exact ⟨rfl, (by (repeat' (first | with_reducible exact Below.refl _ _ | with_reducible assumption | with_reducible refine Below.drew ?_ | with_reducible refine below_drewN ?_ _ | with_reducible refine Below.setCell ?_ ?_ _ | with_reducible refine Below.alloc ?_ ?_ _ | omega | (simp; done) | (simp; omega)))), setH2o G nG, setH2o A1 nA1, setH2o B1 nB1, setH2o U nU, setH2o N1 nN1, setH2o M1 nM1, setH2 D.out⟩
          · rw [if_neg hn] at hdd
            subst hdd
            go_wp2_with fail
            go_meet
            exact ⟨rfl, (by (repeat' (first | with_reducible exact Below.refl _ _ | with_reducible assumption | with_reducible refine Below.drew ?_ | with_reducible refine below_drewN ?_ _ | with_reducible refine Below.setCell ?_ ?_ _ | with_reducible refine Below.alloc ?_ ?_ _ | omega | (simp; done) | (simp; omega)))), G, A1, B1, U, N1, M1, D⟩
        case rest =>
          as_aux_lemma =>
            clear cG lG lG1 lG2 cA1 lA1 lA11 lA12 cB1 lB1 lB11 lB12 cU lU lU1 lU2 cN1 lN1 lN11 lN12 cM1 lM1 lM11 lM12 cD lD lD1 lD2 fzD
            clear G A1 B1 U N1 M1 D
            obtain ⟨rfl, hw13, G, A1, B1, U, N1, M1, D⟩ := hcut
            obtain ⟨w13, rfl⟩ : ∃ x : World, x = wc := ⟨_, rfl⟩
            have z13 := hw13.size
            have cG := cellH G
            obtain ⟨lG, lG1, lG2⟩ := ltH G
            have cA1 := cellH A1
            obtain ⟨lA1, lA11, lA12⟩ := ltH A1
            have cB1 := cellH B1
            obtain ⟨lB1, lB11, lB12⟩ := ltH B1
            have cU := cellH U
            obtain ⟨lU, lU1, lU2⟩ := ltH U
            have cN1 := cellH N1
            obtain ⟨lN1, lN11, lN12⟩ := ltH N1
            have cM1 := cellH M1
            obtain ⟨lM1, lM11, lM12⟩ := ltH M1
            have cD := cellH D
            obtain ⟨lD, lD1, lD2⟩ := ltH D
            have fzD := frozH D
            have gd : Good dd := by rw [HDD.out]; split; exact good_neg HG.out; exact HG.out
            have ld : dd < mo := by have x1 := D1.out; have x2 := D2.out; rw [HDD.out]; split <;> grind
            have BD := bds gd
            have GD := Lib.hid gd
            have LD := Lib.hid ld
            clear gd ld
            go_wp2_with fail
            refine (cmp_is dd mo (-1) _ GD.out HG3.out (cmpQ_lt LD.out)).mono ?_
            rintro e w14 ⟨rfl, hb14⟩
            have hw14 : Below w.heap.size w w14 := stepH (by (repeat' (first | with_reducible exact Below.refl _ _ | with_reducible assumption | with_reducible refine Below.drew ?_ | with_reducible refine below_drewN ?_ _ | with_reducible refine Below.setCell ?_ ?_ _ | with_reducible refine Below.alloc ?_ ?_ _ | omega | (simp; done) | (simp; omega)))) hb14
            replace G := keepH hb14 G.out
            replace A1 := keepH hb14 A1.out
            replace B1 := keepH hb14 B1.out
            replace U := keepH hb14 U.out
            replace N1 := keepH hb14 N1.out
            replace M1 := keepH hb14 M1.out
            replace D := keepH hb14 D.out
            have z14 := hw14.size
            clear hb14 hw13 z13
            clear cG lG lG1 lG2 cA1 lA1 lA11 lA12 cB1 lB1 lB11 lB12 cU lU lU1 lU2 cN1 lN1 lN11 lN12 cM1 lM1 lM11 lM12 cD lD lD1 lD2 fzD
            have cG := cellH G
            obtain ⟨lG, lG1, lG2⟩ := ltH G
            have cA1 := cellH A1
            obtain ⟨lA1, lA11, lA12⟩ := ltH A1
            have cB1 := cellH B1
            obtain ⟨lB1, lB11, lB12⟩ := ltH B1
            have cU := cellH U
            obtain ⟨lU, lU1, lU2⟩ := ltH U
            have cN1 := cellH N1
            obtain ⟨lN1, lN11, lN12⟩ := ltH N1
            have cM1 := cellH M1
            obtain ⟨lM1, lM11, lM12⟩ := ltH M1
            have cD := cellH D
            obtain ⟨lD, lD1, lD2⟩ := ltH D
            have fzD := frozH D
            go_wp2_with fail
            go_ret
            exact ⟨rfl, hw14⟩

end Go.Proofs.YtcbglkkmblmbnaaDoor
