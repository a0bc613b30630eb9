/- The walk of ScaleFinds. -/
import Derived.Test.YtaoecddmbhfnmaaDoorScaleR
import Derived.Test.YtaoecddmbhfnmaaDoorScaleM
import Derived.Test.YtaoecddmbhfnmaaDoorRef
namespace Go.Proofs.YtaoecddmbhfnmaaDoor
open Go.RowKit

theorem same_x (x y : Rat) (w : World) (h : x = y) : Calls Tryd.prog 17 #[.agg #[.int .i64 x.num, .int .i64 x.den], .agg #[.int .i64 y.num, .int .i64 y.den]] w fun e w' => e = .returned (.bool true) ∧ Below w.heap.size w w' := by
  subst h; exact first_same _ _ w

set_option maxRecDepth 100000 in
set_option maxHeartbeats 16000000 in
theorem scaleFinds_walk (s : List BI) (A : Option Addr) (c : Nat) (y1 y2 l1 l2 : Int) (E : Nat → Addr) (w : World) (hl : RowAt encR 4 w w.heap.size A s) (hm : s.length ≤ 9223372036854775807) (hI : ∀ b ∈ s, In4 b) (By1 : -9223372036854775808 ≤ y1 ∧ y1 ≤ 9223372036854775807) (By2 : -9223372036854775808 ≤ y2 ∧ y2 ≤ 9223372036854775807) (Bl1 : -9223372036854775808 ≤ l1 ∧ l1 ≤ 9223372036854775807) (Bl2 : -9223372036854775808 ≤ l2 ∧ l2 ≤ 9223372036854775807) (hE : Env LC E w) :
    Calls Tryd.prog 4 #[.slice A s.length c, .agg #[.int .i64 y1, .int .i64 y2], .agg #[.int .i64 l1, .int .i64 l2]] w fun e w' => e = .returned (.bool true) ∧ Below w.heap.size w w' := by
  have HFI := Lib.hid (fun w' (h : Below w.heap.size w w') => find15_any s A c y1 y2 E w' ((hl.below h (Nat.le_refl _)).more h.size) hm hI By1 By2 (hE.below h))
  obtain ⟨y1l, y1u⟩ := By1
  obtain ⟨y2l, y2u⟩ := By2
  obtain ⟨l1l, l1u⟩ := Bl1
  obtain ⟨l2l, l2u⟩ := Bl2
  have HAT := Lib.hid (fun n d w' (h : Below w.heap.size w w') b1 b2 => at15_any s A c n d E w' ((hl.below h (Nat.le_refl _)).more h.size) hm hI b1 b2 (hE.below h))
  have HL := Lib.hid hl
  have HE := Lib.hid hE
  clear hl hI hE
  by_cases h2 : 200 < s.length
  · go_enter Tryd.func4, Tryd.ntmps4
    go_wp2_with fail
    refine (first15_any E _ (HE.out.below (by (repeat' (first | with_reducible exact Below.refl _ _ | with_reducible assumption | with_reducible refine Below.drew ?_ | with_reducible refine below_drewN ?_ _ | with_reducible refine Below.setCell ?_ ?_ _ | with_reducible refine Below.alloc ?_ ?_ _ | omega | (simp; done) | (simp; omega)))))).mono ?_
    rintro e w1 ⟨rfl, hb1⟩
    have hw1 : Below w.heap.size w w1 := stepH (by (repeat' (first | with_reducible exact Below.refl _ _ | with_reducible assumption | with_reducible refine Below.drew ?_ | with_reducible refine below_drewN ?_ _ | with_reducible refine Below.setCell ?_ ?_ _ | with_reducible refine Below.alloc ?_ ?_ _ | omega | (simp; done) | (simp; omega)))) hb1
    have Y := keepH hb1 (g := w.heap.size) (blk_old (blk_new rfl))
    have Le := keepH hb1 (g := w.heap.size + 1) (blk_new (by simp))
    have z1 := hw1.size
    clear hb1
    have cY := cellH Y
    obtain ⟨lY, lY1, lY2⟩ := ltH Y
    have cLe := cellH Le
    obtain ⟨lLe, lLe1, lLe2⟩ := ltH Le
    go_wp2_with fail
    go_ret
    exact ⟨rfl, by (repeat' (first | with_reducible exact Below.refl _ _ | with_reducible assumption | with_reducible refine Below.drew ?_ | with_reducible refine below_drewN ?_ _ | with_reducible refine Below.setCell ?_ ?_ _ | with_reducible refine Below.alloc ?_ ?_ _ | omega | (simp; done) | (simp; omega)))⟩
  · cases hf : findI s y1 y2
    · rename_i g
      have HF := Lib.hid hf
      clear hf
      have hen := fun w => eql_nil (E g) w
      go_enter Tryd.func4, Tryd.ntmps4
      go_wp2_with fail
      refine (first15_any E _ (HE.out.below (by (repeat' (first | with_reducible exact Below.refl _ _ | with_reducible assumption | with_reducible refine Below.drew ?_ | with_reducible refine below_drewN ?_ _ | with_reducible refine Below.setCell ?_ ?_ _ | with_reducible refine Below.alloc ?_ ?_ _ | omega | (simp; done) | (simp; omega)))))).mono ?_
      rintro e w2 ⟨rfl, hb2⟩
      have hw2 : Below w.heap.size w w2 := stepH (by (repeat' (first | with_reducible exact Below.refl _ _ | with_reducible assumption | with_reducible refine Below.drew ?_ | with_reducible refine below_drewN ?_ _ | with_reducible refine Below.setCell ?_ ?_ _ | with_reducible refine Below.alloc ?_ ?_ _ | omega | (simp; done) | (simp; omega)))) hb2
      have Y := keepH hb2 (g := w.heap.size) (blk_old (blk_new rfl))
      have Le := keepH hb2 (g := w.heap.size + 1) (blk_new (by simp))
      have z2 := hw2.size
      clear hb2
      have cY := cellH Y
      obtain ⟨lY, lY1, lY2⟩ := ltH Y
      have cLe := cellH Le
      obtain ⟨lLe, lLe1, lLe2⟩ := ltH Le
      go_wp2_with fail
      refine (HFI.out _ (by (repeat' (first | with_reducible exact Below.refl _ _ | with_reducible assumption | with_reducible refine Below.drew ?_ | with_reducible refine below_drewN ?_ _ | with_reducible refine Below.setCell ?_ ?_ _ | with_reducible refine Below.alloc ?_ ?_ _ | omega | (simp; done) | (simp; omega))))).mono ?_
      rintro e w3 ⟨⟨n', d', err, rfl, hr⟩, hb3⟩
      have hw3 : Below w.heap.size w w3 := stepH (by (repeat' (first | with_reducible exact Below.refl _ _ | with_reducible assumption | with_reducible refine Below.drew ?_ | with_reducible refine below_drewN ?_ _ | with_reducible refine Below.setCell ?_ ?_ _ | with_reducible refine Below.alloc ?_ ?_ _ | omega | (simp; done) | (simp; omega)))) hb3
      rw [HF.out] at hr
      obtain ⟨rfl, rfl, rfl⟩ := hr
      replace Y := keepH hb3 Y.out
      replace Le := keepH hb3 Le.out
      have z3 := hw3.size
      clear hb3 hw2 z2
      clear cY lY lY1 lY2 cLe lLe lLe1 lLe2
      have cY := cellH Y
      obtain ⟨lY, lY1, lY2⟩ := ltH Y
      have cLe := cellH Le
      obtain ⟨lLe, lLe1, lLe2⟩ := ltH Le
      go_wp2_with fail
      refine (first_same 0 0 _).mono ?_
      rintro e w4 ⟨rfl, hb4⟩
      have hw4 : Below w.heap.size w w4 := stepH (by (repeat' (first | with_reducible exact Below.refl _ _ | with_reducible assumption | with_reducible refine Below.drew ?_ | with_reducible refine below_drewN ?_ _ | with_reducible refine Below.setCell ?_ ?_ _ | with_reducible refine Below.alloc ?_ ?_ _ | omega | (simp; done) | (simp; omega)))) hb4
      replace Y := keepH hb4 (blk_old Y.out)
      replace Le := keepH hb4 (blk_old Le.out)
      have Xx := keepH hb4 (g := w3.heap.size) (blk_new rfl)
      have z4 := hw4.size
      clear hb4 hw3 z3
      clear cY lY lY1 lY2 cLe lLe lLe1 lLe2
      have cY := cellH Y
      obtain ⟨lY, lY1, lY2⟩ := ltH Y
      have cLe := cellH Le
      obtain ⟨lLe, lLe1, lLe2⟩ := ltH Le
      have cXx := cellH Xx
      obtain ⟨lXx, lXx1, lXx2⟩ := ltH Xx
      go_wp2_with fail
      go_ret
      exact ⟨rfl, by (repeat' (first | with_reducible exact Below.refl _ _ | with_reducible assumption | with_reducible refine Below.drew ?_ | with_reducible refine below_drewN ?_ _ | with_reducible refine Below.setCell ?_ ?_ _ | with_reducible refine Below.alloc ?_ ?_ _ | omega | (simp; done) | (simp; omega)))⟩
    · rename_i x
      have HF := Lib.hid hf
      obtain ⟨gs, y, rfl, hg, hy, rfl, rfl, hx, hpos, hlow, hhigh⟩ := find_ok hf
      have HX := Lib.hid hx
      have HY := Lib.hid hy
      have BX := bds hx
      obtain ⟨xb1, xb2, xb3, xb4⟩ := BX
      have HLOW := Lib.hid hlow
      have HHIGH := Lib.hid hhigh
      clear hf hg hy hx hlow hhigh
      rw [List.length_map] at *
      have hp0 : ((gs.length : Int) == 0) = false := beq_false_of_ne (by omega)
      by_cases hy0 : y.num ≤ 0
      · obtain ⟨b, hb⟩ : ∃ b, gs[0]? = some b := ⟨gs[0], List.getElem?_eq_getElem hpos⟩
        have HXB := Lib.hid (HLOW.out hy0 b hb)
        have HB0 := Lib.hid (show (gs.map bR)[0]? = some (bR b) by rw [List.getElem?_map, hb]; rfl)
        clear hb
        have hp1 : (0 : Int) < (gs.length : Int) := by omega
        go_enter Tryd.func4, Tryd.ntmps4
        go_wp2_with fail
        refine (first15_any E _ (HE.out.below (by (repeat' (first | with_reducible exact Below.refl _ _ | with_reducible assumption | with_reducible refine Below.drew ?_ | with_reducible refine below_drewN ?_ _ | with_reducible refine Below.setCell ?_ ?_ _ | with_reducible refine Below.alloc ?_ ?_ _ | omega | (simp; done) | (simp; omega)))))).mono ?_
        rintro e w5 ⟨rfl, hb5⟩
        have hw5 : Below w.heap.size w w5 := stepH (by (repeat' (first | with_reducible exact Below.refl _ _ | with_reducible assumption | with_reducible refine Below.drew ?_ | with_reducible refine below_drewN ?_ _ | with_reducible refine Below.setCell ?_ ?_ _ | with_reducible refine Below.alloc ?_ ?_ _ | omega | (simp; done) | (simp; omega)))) hb5
        have Y := keepH hb5 (g := w.heap.size) (blk_old (blk_new rfl))
        have Le := keepH hb5 (g := w.heap.size + 1) (blk_new (by simp))
        have z5 := hw5.size
        clear hb5
        have cY := cellH Y
        obtain ⟨lY, lY1, lY2⟩ := ltH Y
        have cLe := cellH Le
        obtain ⟨lLe, lLe1, lLe2⟩ := ltH Le
        go_wp2_with fail
        refine (HFI.out _ (by (repeat' (first | with_reducible exact Below.refl _ _ | with_reducible assumption | with_reducible refine Below.drew ?_ | with_reducible refine below_drewN ?_ _ | with_reducible refine Below.setCell ?_ ?_ _ | with_reducible refine Below.alloc ?_ ?_ _ | omega | (simp; done) | (simp; omega))))).mono ?_
        rintro e w6 ⟨⟨n', d', err, rfl, hr⟩, hb6⟩
        have hw6 : Below w.heap.size w w6 := stepH (by (repeat' (first | with_reducible exact Below.refl _ _ | with_reducible assumption | with_reducible refine Below.drew ?_ | with_reducible refine below_drewN ?_ _ | with_reducible refine Below.setCell ?_ ?_ _ | with_reducible refine Below.alloc ?_ ?_ _ | omega | (simp; done) | (simp; omega)))) hb6
        rw [HF.out] at hr
        obtain ⟨rfl, rfl, rfl⟩ := hr
        replace Y := keepH hb6 Y.out
        replace Le := keepH hb6 Le.out
        have z6 := hw6.size
        clear hb6 hw5 z5
        clear cY lY lY1 lY2 cLe lLe lLe1 lLe2
        have cY := cellH Y
        obtain ⟨lY, lY1, lY2⟩ := ltH Y
        have cLe := cellH Le
        obtain ⟨lLe, lLe1, lLe2⟩ := ltH Le
        go_wp2_with fail
        refine (HAT.out x.num x.den _ (by (repeat' (first | with_reducible exact Below.refl _ _ | with_reducible assumption | with_reducible refine Below.drew ?_ | with_reducible refine below_drewN ?_ _ | with_reducible refine Below.setCell ?_ ?_ _ | with_reducible refine Below.alloc ?_ ?_ _ | omega | (simp; done) | (simp; omega)))) ⟨xb1, xb2⟩ ⟨xb3, xb4⟩).mono ?_
        rintro e w7 ⟨⟨n', d', err, rfl, hr⟩, hb7⟩
        have hw7 : Below w.heap.size w w7 := stepH (by (repeat' (first | with_reducible exact Below.refl _ _ | with_reducible assumption | with_reducible refine Below.drew ?_ | with_reducible refine below_drewN ?_ _ | with_reducible refine Below.setCell ?_ ?_ _ | with_reducible refine Below.alloc ?_ ?_ _ | omega | (simp; done) | (simp; omega)))) hb7
        replace Y := keepH hb7 (blk_old Y.out)
        replace Le := keepH hb7 (blk_old Le.out)
        have Xx := keepH hb7 (g := w6.heap.size) (blk_new rfl)
        have z7 := hw7.size
        clear hb7 hw6 z6
        clear cY lY lY1 lY2 cLe lLe lLe1 lLe2
        have cY := cellH Y
        obtain ⟨lY, lY1, lY2⟩ := ltH Y
        have cLe := cellH Le
        obtain ⟨lLe, lLe1, lLe2⟩ := ltH Le
        have cXx := cellH Xx
        obtain ⟨lXx, lXx1, lXx2⟩ := ltH Xx
        go_upto_region 11 with fail
        have hw8 : Below w.heap.size w (w7.alloc (.cells #[.int .i64 n', .int .i64 d'] 24)) := by (repeat' (first | with_reducible exact Below.refl _ _ | with_reducible assumption | with_reducible refine Below.drew ?_ | with_reducible refine below_drewN ?_ _ | with_reducible refine Below.setCell ?_ ?_ _ | with_reducible refine Below.alloc ?_ ?_ _ | omega | (simp; done) | (simp; omega)))
        replace Y : Hid ((w7.alloc (.cells #[.int .i64 n', .int .i64 d'] 24)).heap[w.heap.size]? = some (.cells #[.int .i64 y.num, .int .i64 y.den] 24 (0, 0))) := (blk_old Y.out)
        replace Le : Hid ((w7.alloc (.cells #[.int .i64 n', .int .i64 d'] 24)).heap[w.heap.size + 1]? = some (.cells #[.int .i64 l1, .int .i64 l2] 24 (0, 0))) := (blk_old Le.out)
        replace Xx : Hid ((w7.alloc (.cells #[.int .i64 n', .int .i64 d'] 24)).heap[w6.heap.size]? = some (.cells #[.int .i64 x.num, .int .i64 x.den] 24 (0, 0))) := (blk_old Xx.out)
        have Aa : Hid ((w7.alloc (.cells #[.int .i64 n', .int .i64 d'] 24)).heap[w7.heap.size]? = some (.cells #[.int .i64 n', .int .i64 d'] 24 (0, 0))) := (blk_new rfl)
        clear cY lY lY1 lY2 cLe lLe lLe1 lLe2 cXx lXx lXx1 lXx2
        generalize (w7.alloc (.cells #[.int .i64 n', .int .i64 d'] 24)) = w8 at *
        have z8 := hw8.size
        have cY := cellH Y
        obtain ⟨lY, lY1, lY2⟩ := ltH Y
        have cLe := cellH Le
        obtain ⟨lLe, lLe1, lLe2⟩ := ltH Le
        have cXx := cellH Xx
        obtain ⟨lXx, lXx1, lXx2⟩ := ltH Xx
        have cAa := cellH Aa
        obtain ⟨lAa, lAa1, lAa2⟩ := ltH Aa
        clear cY lY lY1 lY2 cLe lLe lLe1 lLe2 cXx lXx lXx1 lXx2 cAa lAa lAa1 lAa2
        obtain ⟨g, off, hA, hgB, k0, k1, k2, k3⟩ := cells4 (HL.out.below hw8 (Nat.le_refl _)) HB0.out
        subst hA
        have j0 : w8.cell? ⟨g, off, none⟩ = some (.int .i64 b.1.num) := by have h : w8.cell? ⟨g, off + 0 * 4, none⟩ = some (.int .i64 b.1.num) := k0; simpa using h
        have j1 : w8.cell? ⟨g, off + 1, none⟩ = some (.int .i64 b.1.den) := by have h : w8.cell? ⟨g, off + 0 * 4 + 1, none⟩ = some (.int .i64 b.1.den) := k1; simpa using h
        clear k0 k1 k2 k3
        have x0 : w8.cell? ⟨w6.heap.size, 0, none⟩ = some (.int .i64 x.num) := cellH Xx 0
        have x1 : w8.cell? ⟨w6.heap.size, 1, none⟩ = some (.int .i64 x.den) := cellH Xx 1
        go_region_held3 (fun w' => w'.cell? ⟨w6.heap.size, 0, none⟩ = some (.int .i64 x.num) ∧ w'.cell? ⟨w6.heap.size, 1, none⟩ = some (.int .i64 x.den) ∧ w'.cell? ⟨g, off, none⟩ = some (.int .i64 b.1.num) ∧ w'.cell? ⟨g, off + 1, none⟩ = some (.int .i64 b.1.den)) (first | with_reducible exact ⟨x0, x1, j0, j1⟩ | go_keep)
          (first | (go_at_call 17; refine (same_x x b.1 _ HXB.out).mono ?_; rintro e w90 ⟨rfl, hb90⟩; have hw90 : Below w.heap.size w w90 := stepH (by (repeat' (first | with_reducible exact Below.refl _ _ | with_reducible assumption | with_reducible refine Below.drew ?_ | with_reducible refine below_drewN ?_ _ | with_reducible refine Below.setCell ?_ ?_ _ | with_reducible refine Below.alloc ?_ ?_ _ | omega | (simp; done) | (simp; omega)))) hb90; replace x0 := cellOf hb90 (by first | exact x0 | exact cell_drew x0); replace x1 := cellOf hb90 (by first | exact x1 | exact cell_drew x1); replace j0 := cellOf hb90 (by first | exact j0 | exact cell_drew j0); replace j1 := cellOf hb90 (by first | exact j1 | exact cell_drew j1)))
        all_goals go_wp2_with fail
        all_goals go_ret
        all_goals exact ⟨rfl, by (repeat' (first | with_reducible exact Below.refl _ _ | with_reducible assumption | with_reducible refine Below.drew ?_ | with_reducible refine below_drewN ?_ _ | with_reducible refine Below.setCell ?_ ?_ _ | with_reducible refine Below.alloc ?_ ?_ _ | omega | (simp; done) | (simp; omega)))⟩
      · have hy1 : 0 < y.num := by omega
        have hh := HHIGH.out hy1
        have HA1 := Lib.hid hh.1
        have HA2 := Lib.hid hh.2
        clear hh hy0 hpos HLOW HHIGH
        cases ha : atI (gs.map bR) x.num x.den
        · rename_i ga
          have HAA := Lib.hid ha
          clear ha
          have hen := fun w => eql_nil (E ga) w
          cases hl : validB l1 l2
          · have HV := Lib.hid hl
            clear hl
            go_enter Tryd.func4, Tryd.ntmps4
            go_wp2_with fail
            refine (first15_any E _ (HE.out.below (by (repeat' (first | with_reducible exact Below.refl _ _ | with_reducible assumption | with_reducible refine Below.drew ?_ | with_reducible refine below_drewN ?_ _ | with_reducible refine Below.setCell ?_ ?_ _ | with_reducible refine Below.alloc ?_ ?_ _ | omega | (simp; done) | (simp; omega)))))).mono ?_
            rintro e w9 ⟨rfl, hb9⟩
            have hw9 : Below w.heap.size w w9 := stepH (by (repeat' (first | with_reducible exact Below.refl _ _ | with_reducible assumption | with_reducible refine Below.drew ?_ | with_reducible refine below_drewN ?_ _ | with_reducible refine Below.setCell ?_ ?_ _ | with_reducible refine Below.alloc ?_ ?_ _ | omega | (simp; done) | (simp; omega)))) hb9
            have Y := keepH hb9 (g := w.heap.size) (blk_old (blk_new rfl))
            have Le := keepH hb9 (g := w.heap.size + 1) (blk_new (by simp))
            have z9 := hw9.size
            clear hb9
            have cY := cellH Y
            obtain ⟨lY, lY1, lY2⟩ := ltH Y
            have cLe := cellH Le
            obtain ⟨lLe, lLe1, lLe2⟩ := ltH Le
            go_wp2_with fail
            refine (HFI.out _ (by (repeat' (first | with_reducible exact Below.refl _ _ | with_reducible assumption | with_reducible refine Below.drew ?_ | with_reducible refine below_drewN ?_ _ | with_reducible refine Below.setCell ?_ ?_ _ | with_reducible refine Below.alloc ?_ ?_ _ | omega | (simp; done) | (simp; omega))))).mono ?_
            rintro e w10 ⟨⟨n', d', err, rfl, hr⟩, hb10⟩
            have hw10 : Below w.heap.size w w10 := stepH (by (repeat' (first | with_reducible exact Below.refl _ _ | with_reducible assumption | with_reducible refine Below.drew ?_ | with_reducible refine below_drewN ?_ _ | with_reducible refine Below.setCell ?_ ?_ _ | with_reducible refine Below.alloc ?_ ?_ _ | omega | (simp; done) | (simp; omega)))) hb10
            rw [HF.out] at hr
            obtain ⟨rfl, rfl, rfl⟩ := hr
            replace Y := keepH hb10 Y.out
            replace Le := keepH hb10 Le.out
            have z10 := hw10.size
            clear hb10 hw9 z9
            clear cY lY lY1 lY2 cLe lLe lLe1 lLe2
            have cY := cellH Y
            obtain ⟨lY, lY1, lY2⟩ := ltH Y
            have cLe := cellH Le
            obtain ⟨lLe, lLe1, lLe2⟩ := ltH Le
            go_wp2_with fail
            refine (HAT.out x.num x.den _ (by (repeat' (first | with_reducible exact Below.refl _ _ | with_reducible assumption | with_reducible refine Below.drew ?_ | with_reducible refine below_drewN ?_ _ | with_reducible refine Below.setCell ?_ ?_ _ | with_reducible refine Below.alloc ?_ ?_ _ | omega | (simp; done) | (simp; omega)))) ⟨xb1, xb2⟩ ⟨xb3, xb4⟩).mono ?_
            rintro e w11 ⟨⟨n', d', err, rfl, hr⟩, hb11⟩
            have hw11 : Below w.heap.size w w11 := stepH (by (repeat' (first | with_reducible exact Below.refl _ _ | with_reducible assumption | with_reducible refine Below.drew ?_ | with_reducible refine below_drewN ?_ _ | with_reducible refine Below.setCell ?_ ?_ _ | with_reducible refine Below.alloc ?_ ?_ _ | omega | (simp; done) | (simp; omega)))) hb11
            rw [HAA.out] at hr
            obtain ⟨rfl, rfl, rfl⟩ := hr
            replace Y := keepH hb11 (blk_old Y.out)
            replace Le := keepH hb11 (blk_old Le.out)
            have Xx := keepH hb11 (g := w10.heap.size) (blk_new rfl)
            have z11 := hw11.size
            clear hb11 hw10 z10
            clear cY lY lY1 lY2 cLe lLe lLe1 lLe2
            have cY := cellH Y
            obtain ⟨lY, lY1, lY2⟩ := ltH Y
            have cLe := cellH Le
            obtain ⟨lLe, lLe1, lLe2⟩ := ltH Le
            have cXx := cellH Xx
            obtain ⟨lXx, lXx1, lXx2⟩ := ltH Xx
            go_wp2_with fail
            refine (refv_is l1 l2 false _ HV.out (by omega) (by omega) (by omega) (by omega)).mono ?_
            rintro e w12 ⟨rfl, hb12⟩
            have hw12 : Below w.heap.size w w12 := stepH (by (repeat' (first | with_reducible exact Below.refl _ _ | with_reducible assumption | with_reducible refine Below.drew ?_ | with_reducible refine below_drewN ?_ _ | with_reducible refine Below.setCell ?_ ?_ _ | with_reducible refine Below.alloc ?_ ?_ _ | omega | (simp; done) | (simp; omega)))) hb12
            replace Y := keepH hb12 (blk_old Y.out)
            replace Le := keepH hb12 (blk_old Le.out)
            replace Xx := keepH hb12 (blk_old Xx.out)
            have Aa := keepH hb12 (g := w11.heap.size) (blk_new rfl)
            have z12 := hw12.size
            clear hb12 hw11 z11
            clear cY lY lY1 lY2 cLe lLe lLe1 lLe2 cXx lXx lXx1 lXx2
            have cY := cellH Y
            obtain ⟨lY, lY1, lY2⟩ := ltH Y
            have cLe := cellH Le
            obtain ⟨lLe, lLe1, lLe2⟩ := ltH Le
            have cXx := cellH Xx
            obtain ⟨lXx, lXx1, lXx2⟩ := ltH Xx
            have cAa := cellH Aa
            obtain ⟨lAa, lAa1, lAa2⟩ := ltH Aa
            go_wp2_with fail
            go_ret
            exact ⟨rfl, by (repeat' (first | with_reducible exact Below.refl _ _ | with_reducible assumption | with_reducible refine Below.drew ?_ | with_reducible refine below_drewN ?_ _ | with_reducible refine Below.setCell ?_ ?_ _ | with_reducible refine Below.alloc ?_ ?_ _ | omega | (simp; done) | (simp; omega)))⟩
          · obtain ⟨le, hle, rfl, rfl⟩ := good_of_validB hl
            have HV := Lib.hid hl
            have HLE := Lib.hid hle
            clear hl hle
            by_cases hl0 : le.num ≤ 0
            · go_enter Tryd.func4, Tryd.ntmps4
              go_wp2_with fail
              refine (first15_any E _ (HE.out.below (by (repeat' (first | with_reducible exact Below.refl _ _ | with_reducible assumption | with_reducible refine Below.drew ?_ | with_reducible refine below_drewN ?_ _ | with_reducible refine Below.setCell ?_ ?_ _ | with_reducible refine Below.alloc ?_ ?_ _ | omega | (simp; done) | (simp; omega)))))).mono ?_
              rintro e w13 ⟨rfl, hb13⟩
              have hw13 : Below w.heap.size w w13 := stepH (by (repeat' (first | with_reducible exact Below.refl _ _ | with_reducible assumption | with_reducible refine Below.drew ?_ | with_reducible refine below_drewN ?_ _ | with_reducible refine Below.setCell ?_ ?_ _ | with_reducible refine Below.alloc ?_ ?_ _ | omega | (simp; done) | (simp; omega)))) hb13
              have Y := keepH hb13 (g := w.heap.size) (blk_old (blk_new rfl))
              have Le := keepH hb13 (g := w.heap.size + 1) (blk_new (by simp))
              have z13 := hw13.size
              clear hb13
              have cY := cellH Y
              obtain ⟨lY, lY1, lY2⟩ := ltH Y
              have cLe := cellH Le
              obtain ⟨lLe, lLe1, lLe2⟩ := ltH Le
              go_wp2_with fail
              refine (HFI.out _ (by (repeat' (first | with_reducible exact Below.refl _ _ | with_reducible assumption | with_reducible refine Below.drew ?_ | with_reducible refine below_drewN ?_ _ | with_reducible refine Below.setCell ?_ ?_ _ | with_reducible refine Below.alloc ?_ ?_ _ | omega | (simp; done) | (simp; omega))))).mono ?_
              rintro e w14 ⟨⟨n', d', err, rfl, hr⟩, hb14⟩
              have hw14 : Below w.heap.size w w14 := stepH (by (repeat' (first | with_reducible exact Below.refl _ _ | with_reducible assumption | with_reducible refine Below.drew ?_ | with_reducible refine below_drewN ?_ _ | with_reducible refine Below.setCell ?_ ?_ _ | with_reducible refine Below.alloc ?_ ?_ _ | omega | (simp; done) | (simp; omega)))) hb14
              rw [HF.out] at hr
              obtain ⟨rfl, rfl, rfl⟩ := hr
              replace Y := keepH hb14 Y.out
              replace Le := keepH hb14 Le.out
              have z14 := hw14.size
              clear hb14 hw13 z13
              clear cY lY lY1 lY2 cLe lLe lLe1 lLe2
              have cY := cellH Y
              obtain ⟨lY, lY1, lY2⟩ := ltH Y
              have cLe := cellH Le
              obtain ⟨lLe, lLe1, lLe2⟩ := ltH Le
              go_wp2_with fail
              refine (HAT.out x.num x.den _ (by (repeat' (first | with_reducible exact Below.refl _ _ | with_reducible assumption | with_reducible refine Below.drew ?_ | with_reducible refine below_drewN ?_ _ | with_reducible refine Below.setCell ?_ ?_ _ | with_reducible refine Below.alloc ?_ ?_ _ | omega | (simp; done) | (simp; omega)))) ⟨xb1, xb2⟩ ⟨xb3, xb4⟩).mono ?_
              rintro e w15 ⟨⟨n', d', err, rfl, hr⟩, hb15⟩
              have hw15 : Below w.heap.size w w15 := stepH (by (repeat' (first | with_reducible exact Below.refl _ _ | with_reducible assumption | with_reducible refine Below.drew ?_ | with_reducible refine below_drewN ?_ _ | with_reducible refine Below.setCell ?_ ?_ _ | with_reducible refine Below.alloc ?_ ?_ _ | omega | (simp; done) | (simp; omega)))) hb15
              rw [HAA.out] at hr
              obtain ⟨rfl, rfl, rfl⟩ := hr
              replace Y := keepH hb15 (blk_old Y.out)
              replace Le := keepH hb15 (blk_old Le.out)
              have Xx := keepH hb15 (g := w14.heap.size) (blk_new rfl)
              have z15 := hw15.size
              clear hb15 hw14 z14
              clear cY lY lY1 lY2 cLe lLe lLe1 lLe2
              have cY := cellH Y
              obtain ⟨lY, lY1, lY2⟩ := ltH Y
              have cLe := cellH Le
              obtain ⟨lLe, lLe1, lLe2⟩ := ltH Le
              have cXx := cellH Xx
              obtain ⟨lXx, lXx1, lXx2⟩ := ltH Xx
              go_wp2_with fail
              refine (refv_is le.num le.den true _ HV.out (by omega) (by omega) (by omega) (by omega)).mono ?_
              rintro e w16 ⟨rfl, hb16⟩
              have hw16 : Below w.heap.size w w16 := stepH (by (repeat' (first | with_reducible exact Below.refl _ _ | with_reducible assumption | with_reducible refine Below.drew ?_ | with_reducible refine below_drewN ?_ _ | with_reducible refine Below.setCell ?_ ?_ _ | with_reducible refine Below.alloc ?_ ?_ _ | omega | (simp; done) | (simp; omega)))) hb16
              replace Y := keepH hb16 (blk_old Y.out)
              replace Le := keepH hb16 (blk_old Le.out)
              replace Xx := keepH hb16 (blk_old Xx.out)
              have Aa := keepH hb16 (g := w15.heap.size) (blk_new rfl)
              have z16 := hw16.size
              clear hb16 hw15 z15
              clear cY lY lY1 lY2 cLe lLe lLe1 lLe2 cXx lXx lXx1 lXx2
              have cY := cellH Y
              obtain ⟨lY, lY1, lY2⟩ := ltH Y
              have cLe := cellH Le
              obtain ⟨lLe, lLe1, lLe2⟩ := ltH Le
              have cXx := cellH Xx
              obtain ⟨lXx, lXx1, lXx2⟩ := ltH Xx
              have cAa := cellH Aa
              obtain ⟨lAa, lAa1, lAa2⟩ := ltH Aa
              go_wp2_with fail
              go_ret
              exact ⟨rfl, by (repeat' (first | with_reducible exact Below.refl _ _ | with_reducible assumption | with_reducible refine Below.drew ?_ | with_reducible refine below_drewN ?_ _ | with_reducible refine Below.setCell ?_ ?_ _ | with_reducible refine Below.alloc ?_ ?_ _ | omega | (simp; done) | (simp; omega)))⟩
            · have hl1 : 0 < le.num := by omega
              clear hl0
              by_cases hgz : Good (x - le)
              · have BZ := bds hgz
                obtain ⟨zb1, zb2, zb3, zb4⟩ := BZ
                cases hz : atI (gs.map bR) (x - le).num (x - le).den
                · rename_i gz
                  have HZ := Lib.hid hz
                  clear hz
                  have hen2 := fun w => eql_nil (E gz) w
                  have HGX := Lib.hid hgz
                  go_enter Tryd.func4, Tryd.ntmps4
                  go_wp2_with fail
                  refine (first15_any E _ (HE.out.below (by (repeat' (first | with_reducible exact Below.refl _ _ | with_reducible assumption | with_reducible refine Below.drew ?_ | with_reducible refine below_drewN ?_ _ | with_reducible refine Below.setCell ?_ ?_ _ | with_reducible refine Below.alloc ?_ ?_ _ | omega | (simp; done) | (simp; omega)))))).mono ?_
                  rintro e w17 ⟨rfl, hb17⟩
                  have hw17 : Below w.heap.size w w17 := stepH (by (repeat' (first | with_reducible exact Below.refl _ _ | with_reducible assumption | with_reducible refine Below.drew ?_ | with_reducible refine below_drewN ?_ _ | with_reducible refine Below.setCell ?_ ?_ _ | with_reducible refine Below.alloc ?_ ?_ _ | omega | (simp; done) | (simp; omega)))) hb17
                  have Y := keepH hb17 (g := w.heap.size) (blk_old (blk_new rfl))
                  have Le := keepH hb17 (g := w.heap.size + 1) (blk_new (by simp))
                  have z17 := hw17.size
                  clear hb17
                  have cY := cellH Y
                  obtain ⟨lY, lY1, lY2⟩ := ltH Y
                  have cLe := cellH Le
                  obtain ⟨lLe, lLe1, lLe2⟩ := ltH Le
                  go_wp2_with fail
                  refine (HFI.out _ (by (repeat' (first | with_reducible exact Below.refl _ _ | with_reducible assumption | with_reducible refine Below.drew ?_ | with_reducible refine below_drewN ?_ _ | with_reducible refine Below.setCell ?_ ?_ _ | with_reducible refine Below.alloc ?_ ?_ _ | omega | (simp; done) | (simp; omega))))).mono ?_
                  rintro e w18 ⟨⟨n', d', err, rfl, hr⟩, hb18⟩
                  have hw18 : Below w.heap.size w w18 := stepH (by (repeat' (first | with_reducible exact Below.refl _ _ | with_reducible assumption | with_reducible refine Below.drew ?_ | with_reducible refine below_drewN ?_ _ | with_reducible refine Below.setCell ?_ ?_ _ | with_reducible refine Below.alloc ?_ ?_ _ | omega | (simp; done) | (simp; omega)))) hb18
                  rw [HF.out] at hr
                  obtain ⟨rfl, rfl, rfl⟩ := hr
                  replace Y := keepH hb18 Y.out
                  replace Le := keepH hb18 Le.out
                  have z18 := hw18.size
                  clear hb18 hw17 z17
                  clear cY lY lY1 lY2 cLe lLe lLe1 lLe2
                  have cY := cellH Y
                  obtain ⟨lY, lY1, lY2⟩ := ltH Y
                  have cLe := cellH Le
                  obtain ⟨lLe, lLe1, lLe2⟩ := ltH Le
                  go_wp2_with fail
                  refine (HAT.out x.num x.den _ (by (repeat' (first | with_reducible exact Below.refl _ _ | with_reducible assumption | with_reducible refine Below.drew ?_ | with_reducible refine below_drewN ?_ _ | with_reducible refine Below.setCell ?_ ?_ _ | with_reducible refine Below.alloc ?_ ?_ _ | omega | (simp; done) | (simp; omega)))) ⟨xb1, xb2⟩ ⟨xb3, xb4⟩).mono ?_
                  rintro e w19 ⟨⟨n', d', err, rfl, hr⟩, hb19⟩
                  have hw19 : Below w.heap.size w w19 := stepH (by (repeat' (first | with_reducible exact Below.refl _ _ | with_reducible assumption | with_reducible refine Below.drew ?_ | with_reducible refine below_drewN ?_ _ | with_reducible refine Below.setCell ?_ ?_ _ | with_reducible refine Below.alloc ?_ ?_ _ | omega | (simp; done) | (simp; omega)))) hb19
                  rw [HAA.out] at hr
                  obtain ⟨rfl, rfl, rfl⟩ := hr
                  replace Y := keepH hb19 (blk_old Y.out)
                  replace Le := keepH hb19 (blk_old Le.out)
                  have Xx := keepH hb19 (g := w18.heap.size) (blk_new rfl)
                  have z19 := hw19.size
                  clear hb19 hw18 z18
                  clear cY lY lY1 lY2 cLe lLe lLe1 lLe2
                  have cY := cellH Y
                  obtain ⟨lY, lY1, lY2⟩ := ltH Y
                  have cLe := cellH Le
                  obtain ⟨lLe, lLe1, lLe2⟩ := ltH Le
                  have cXx := cellH Xx
                  obtain ⟨lXx, lXx1, lXx2⟩ := ltH Xx
                  go_wp2_with fail
                  refine (refv_is le.num le.den true _ HV.out (by omega) (by omega) (by omega) (by omega)).mono ?_
                  rintro e w20 ⟨rfl, hb20⟩
                  have hw20 : Below w.heap.size w w20 := stepH (by (repeat' (first | with_reducible exact Below.refl _ _ | with_reducible assumption | with_reducible refine Below.drew ?_ | with_reducible refine below_drewN ?_ _ | with_reducible refine Below.setCell ?_ ?_ _ | with_reducible refine Below.alloc ?_ ?_ _ | omega | (simp; done) | (simp; omega)))) hb20
                  replace Y := keepH hb20 (blk_old Y.out)
                  replace Le := keepH hb20 (blk_old Le.out)
                  replace Xx := keepH hb20 (blk_old Xx.out)
                  have Aa := keepH hb20 (g := w19.heap.size) (blk_new rfl)
                  have z20 := hw20.size
                  clear hb20 hw19 z19
                  clear cY lY lY1 lY2 cLe lLe lLe1 lLe2 cXx lXx lXx1 lXx2
                  have cY := cellH Y
                  obtain ⟨lY, lY1, lY2⟩ := ltH Y
                  have cLe := cellH Le
                  obtain ⟨lLe, lLe1, lLe2⟩ := ltH Le
                  have cXx := cellH Xx
                  obtain ⟨lXx, lXx1, lXx2⟩ := ltH Xx
                  have cAa := cellH Aa
                  obtain ⟨lAa, lAa1, lAa2⟩ := ltH Aa
                  go_wp2_with fail
                  refine (refSub_any x le _ HX.out HLE.out).mono ?_
                  rintro e w21 ⟨⟨n', d', c', rfl, hr⟩, hb21⟩
                  have hw21 : Below w.heap.size w w21 := stepH (by (repeat' (first | with_reducible exact Below.refl _ _ | with_reducible assumption | with_reducible refine Below.drew ?_ | with_reducible refine below_drewN ?_ _ | with_reducible refine Below.setCell ?_ ?_ _ | with_reducible refine Below.alloc ?_ ?_ _ | omega | (simp; done) | (simp; omega)))) hb21
                  obtain ⟨rfl, rfl, rfl⟩ := resC_ok hr (goodR_ok (decide_eq_true HGX.out))
                  clear hr
                  replace Y := keepH hb21 Y.out
                  replace Le := keepH hb21 Le.out
                  replace Xx := keepH hb21 Xx.out
                  replace Aa := keepH hb21 Aa.out
                  have z21 := hw21.size
                  clear hb21 hw20 z20
                  clear cY lY lY1 lY2 cLe lLe lLe1 lLe2 cXx lXx lXx1 lXx2 cAa lAa lAa1 lAa2
                  have cY := cellH Y
                  obtain ⟨lY, lY1, lY2⟩ := ltH Y
                  have cLe := cellH Le
                  obtain ⟨lLe, lLe1, lLe2⟩ := ltH Le
                  have cXx := cellH Xx
                  obtain ⟨lXx, lXx1, lXx2⟩ := ltH Xx
                  have cAa := cellH Aa
                  obtain ⟨lAa, lAa1, lAa2⟩ := ltH Aa
                  go_wp2_with fail
                  refine (HAT.out (x - le).num (x - le).den _ (by (repeat' (first | with_reducible exact Below.refl _ _ | with_reducible assumption | with_reducible refine Below.drew ?_ | with_reducible refine below_drewN ?_ _ | with_reducible refine Below.setCell ?_ ?_ _ | with_reducible refine Below.alloc ?_ ?_ _ | omega | (simp; done) | (simp; omega)))) ⟨zb1, zb2⟩ ⟨zb3, zb4⟩).mono ?_
                  rintro e w22 ⟨⟨n', d', err, rfl, hr⟩, hb22⟩
                  have hw22 : Below w.heap.size w w22 := stepH (by (repeat' (first | with_reducible exact Below.refl _ _ | with_reducible assumption | with_reducible refine Below.drew ?_ | with_reducible refine below_drewN ?_ _ | with_reducible refine Below.setCell ?_ ?_ _ | with_reducible refine Below.alloc ?_ ?_ _ | omega | (simp; done) | (simp; omega)))) hb22
                  rw [HZ.out] at hr
                  obtain ⟨rfl, rfl, rfl⟩ := hr
                  replace Y := keepH hb22 (blk_old Y.out)
                  replace Le := keepH hb22 (blk_old Le.out)
                  replace Xx := keepH hb22 (blk_old Xx.out)
                  replace Aa := keepH hb22 (blk_old Aa.out)
                  have Zz := keepH hb22 (g := w21.heap.size) (blk_new rfl)
                  have z22 := hw22.size
                  clear hb22 hw21 z21
                  clear cY lY lY1 lY2 cLe lLe lLe1 lLe2 cXx lXx lXx1 lXx2 cAa lAa lAa1 lAa2
                  have cY := cellH Y
                  obtain ⟨lY, lY1, lY2⟩ := ltH Y
                  have cLe := cellH Le
                  obtain ⟨lLe, lLe1, lLe2⟩ := ltH Le
                  have cXx := cellH Xx
                  obtain ⟨lXx, lXx1, lXx2⟩ := ltH Xx
                  have cAa := cellH Aa
                  obtain ⟨lAa, lAa1, lAa2⟩ := ltH Aa
                  have cZz := cellH Zz
                  obtain ⟨lZz, lZz1, lZz2⟩ := ltH Zz
                  go_wp2_with fail
                  go_ret
                  exact ⟨rfl, by (repeat' (first | with_reducible exact Below.refl _ _ | with_reducible assumption | with_reducible refine Below.drew ?_ | with_reducible refine below_drewN ?_ _ | with_reducible refine Below.setCell ?_ ?_ _ | with_reducible refine Below.alloc ?_ ?_ _ | omega | (simp; done) | (simp; omega)))⟩
                · rename_i gz
                  have HZ := Lib.hid hz
                  clear hz
                  have hzx : x - le < x := by have h : 0 < le := (by rcases tri 0 le with h | h | h; exact h; rw [← h] at hl1; exact absurd hl1 (by decide); have h9 := Rat.num_nonneg.2 (show 0 ≤ -le by grind); rw [Rat.neg_num] at h9; omega); grind
                  have HCZ := Lib.hid (cmp_lt (HA2.out _ _ hzx HZ.out))
                  have HGZ := Lib.hid (show Good gz by obtain ⟨_, _, _, _, _, _, _, _, _, _, h, _⟩ := atI_ok HZ.out; exact h)
                  clear hzx
                  have HGX := Lib.hid hgz
                  go_enter Tryd.func4, Tryd.ntmps4
                  go_wp2_with fail
                  refine (first15_any E _ (HE.out.below (by (repeat' (first | with_reducible exact Below.refl _ _ | with_reducible assumption | with_reducible refine Below.drew ?_ | with_reducible refine below_drewN ?_ _ | with_reducible refine Below.setCell ?_ ?_ _ | with_reducible refine Below.alloc ?_ ?_ _ | omega | (simp; done) | (simp; omega)))))).mono ?_
                  rintro e w23 ⟨rfl, hb23⟩
                  have hw23 : Below w.heap.size w w23 := stepH (by (repeat' (first | with_reducible exact Below.refl _ _ | with_reducible assumption | with_reducible refine Below.drew ?_ | with_reducible refine below_drewN ?_ _ | with_reducible refine Below.setCell ?_ ?_ _ | with_reducible refine Below.alloc ?_ ?_ _ | omega | (simp; done) | (simp; omega)))) hb23
                  have Y := keepH hb23 (g := w.heap.size) (blk_old (blk_new rfl))
                  have Le := keepH hb23 (g := w.heap.size + 1) (blk_new (by simp))
                  have z23 := hw23.size
                  clear hb23
                  have cY := cellH Y
                  obtain ⟨lY, lY1, lY2⟩ := ltH Y
                  have cLe := cellH Le
                  obtain ⟨lLe, lLe1, lLe2⟩ := ltH Le
                  go_wp2_with fail
                  refine (HFI.out _ (by (repeat' (first | with_reducible exact Below.refl _ _ | with_reducible assumption | with_reducible refine Below.drew ?_ | with_reducible refine below_drewN ?_ _ | with_reducible refine Below.setCell ?_ ?_ _ | with_reducible refine Below.alloc ?_ ?_ _ | omega | (simp; done) | (simp; omega))))).mono ?_
                  rintro e w24 ⟨⟨n', d', err, rfl, hr⟩, hb24⟩
                  have hw24 : Below w.heap.size w w24 := stepH (by (repeat' (first | with_reducible exact Below.refl _ _ | with_reducible assumption | with_reducible refine Below.drew ?_ | with_reducible refine below_drewN ?_ _ | with_reducible refine Below.setCell ?_ ?_ _ | with_reducible refine Below.alloc ?_ ?_ _ | omega | (simp; done) | (simp; omega)))) hb24
                  rw [HF.out] at hr
                  obtain ⟨rfl, rfl, rfl⟩ := hr
                  replace Y := keepH hb24 Y.out
                  replace Le := keepH hb24 Le.out
                  have z24 := hw24.size
                  clear hb24 hw23 z23
                  clear cY lY lY1 lY2 cLe lLe lLe1 lLe2
                  have cY := cellH Y
                  obtain ⟨lY, lY1, lY2⟩ := ltH Y
                  have cLe := cellH Le
                  obtain ⟨lLe, lLe1, lLe2⟩ := ltH Le
                  go_wp2_with fail
                  refine (HAT.out x.num x.den _ (by (repeat' (first | with_reducible exact Below.refl _ _ | with_reducible assumption | with_reducible refine Below.drew ?_ | with_reducible refine below_drewN ?_ _ | with_reducible refine Below.setCell ?_ ?_ _ | with_reducible refine Below.alloc ?_ ?_ _ | omega | (simp; done) | (simp; omega)))) ⟨xb1, xb2⟩ ⟨xb3, xb4⟩).mono ?_
                  rintro e w25 ⟨⟨n', d', err, rfl, hr⟩, hb25⟩
                  have hw25 : Below w.heap.size w w25 := stepH (by (repeat' (first | with_reducible exact Below.refl _ _ | with_reducible assumption | with_reducible refine Below.drew ?_ | with_reducible refine below_drewN ?_ _ | with_reducible refine Below.setCell ?_ ?_ _ | with_reducible refine Below.alloc ?_ ?_ _ | omega | (simp; done) | (simp; omega)))) hb25
                  rw [HAA.out] at hr
                  obtain ⟨rfl, rfl, rfl⟩ := hr
                  replace Y := keepH hb25 (blk_old Y.out)
                  replace Le := keepH hb25 (blk_old Le.out)
                  have Xx := keepH hb25 (g := w24.heap.size) (blk_new rfl)
                  have z25 := hw25.size
                  clear hb25 hw24 z24
                  clear cY lY lY1 lY2 cLe lLe lLe1 lLe2
                  have cY := cellH Y
                  obtain ⟨lY, lY1, lY2⟩ := ltH Y
                  have cLe := cellH Le
                  obtain ⟨lLe, lLe1, lLe2⟩ := ltH Le
                  have cXx := cellH Xx
                  obtain ⟨lXx, lXx1, lXx2⟩ := ltH Xx
                  go_wp2_with fail
                  refine (refv_is le.num le.den true _ HV.out (by omega) (by omega) (by omega) (by omega)).mono ?_
                  rintro e w26 ⟨rfl, hb26⟩
                  have hw26 : Below w.heap.size w w26 := stepH (by (repeat' (first | with_reducible exact Below.refl _ _ | with_reducible assumption | with_reducible refine Below.drew ?_ | with_reducible refine below_drewN ?_ _ | with_reducible refine Below.setCell ?_ ?_ _ | with_reducible refine Below.alloc ?_ ?_ _ | omega | (simp; done) | (simp; omega)))) hb26
                  replace Y := keepH hb26 (blk_old Y.out)
                  replace Le := keepH hb26 (blk_old Le.out)
                  replace Xx := keepH hb26 (blk_old Xx.out)
                  have Aa := keepH hb26 (g := w25.heap.size) (blk_new rfl)
                  have z26 := hw26.size
                  clear hb26 hw25 z25
                  clear cY lY lY1 lY2 cLe lLe lLe1 lLe2 cXx lXx lXx1 lXx2
                  have cY := cellH Y
                  obtain ⟨lY, lY1, lY2⟩ := ltH Y
                  have cLe := cellH Le
                  obtain ⟨lLe, lLe1, lLe2⟩ := ltH Le
                  have cXx := cellH Xx
                  obtain ⟨lXx, lXx1, lXx2⟩ := ltH Xx
                  have cAa := cellH Aa
                  obtain ⟨lAa, lAa1, lAa2⟩ := ltH Aa
                  go_wp2_with fail
                  refine (refSub_any x le _ HX.out HLE.out).mono ?_
                  rintro e w27 ⟨⟨n', d', c', rfl, hr⟩, hb27⟩
                  have hw27 : Below w.heap.size w w27 := stepH (by (repeat' (first | with_reducible exact Below.refl _ _ | with_reducible assumption | with_reducible refine Below.drew ?_ | with_reducible refine below_drewN ?_ _ | with_reducible refine Below.setCell ?_ ?_ _ | with_reducible refine Below.alloc ?_ ?_ _ | omega | (simp; done) | (simp; omega)))) hb27
                  obtain ⟨rfl, rfl, rfl⟩ := resC_ok hr (goodR_ok (decide_eq_true HGX.out))
                  clear hr
                  replace Y := keepH hb27 Y.out
                  replace Le := keepH hb27 Le.out
                  replace Xx := keepH hb27 Xx.out
                  replace Aa := keepH hb27 Aa.out
                  have z27 := hw27.size
                  clear hb27 hw26 z26
                  clear cY lY lY1 lY2 cLe lLe lLe1 lLe2 cXx lXx lXx1 lXx2 cAa lAa lAa1 lAa2
                  have cY := cellH Y
                  obtain ⟨lY, lY1, lY2⟩ := ltH Y
                  have cLe := cellH Le
                  obtain ⟨lLe, lLe1, lLe2⟩ := ltH Le
                  have cXx := cellH Xx
                  obtain ⟨lXx, lXx1, lXx2⟩ := ltH Xx
                  have cAa := cellH Aa
                  obtain ⟨lAa, lAa1, lAa2⟩ := ltH Aa
                  go_wp2_with fail
                  refine (HAT.out (x - le).num (x - le).den _ (by (repeat' (first | with_reducible exact Below.refl _ _ | with_reducible assumption | with_reducible refine Below.drew ?_ | with_reducible refine below_drewN ?_ _ | with_reducible refine Below.setCell ?_ ?_ _ | with_reducible refine Below.alloc ?_ ?_ _ | omega | (simp; done) | (simp; omega)))) ⟨zb1, zb2⟩ ⟨zb3, zb4⟩).mono ?_
                  rintro e w28 ⟨⟨n', d', err, rfl, hr⟩, hb28⟩
                  have hw28 : Below w.heap.size w w28 := stepH (by (repeat' (first | with_reducible exact Below.refl _ _ | with_reducible assumption | with_reducible refine Below.drew ?_ | with_reducible refine below_drewN ?_ _ | with_reducible refine Below.setCell ?_ ?_ _ | with_reducible refine Below.alloc ?_ ?_ _ | omega | (simp; done) | (simp; omega)))) hb28
                  rw [HZ.out] at hr
                  obtain ⟨rfl, rfl, rfl⟩ := hr
                  replace Y := keepH hb28 (blk_old Y.out)
                  replace Le := keepH hb28 (blk_old Le.out)
                  replace Xx := keepH hb28 (blk_old Xx.out)
                  replace Aa := keepH hb28 (blk_old Aa.out)
                  have Zz := keepH hb28 (g := w27.heap.size) (blk_new rfl)
                  have z28 := hw28.size
                  clear hb28 hw27 z27
                  clear cY lY lY1 lY2 cLe lLe lLe1 lLe2 cXx lXx lXx1 lXx2 cAa lAa lAa1 lAa2
                  have cY := cellH Y
                  obtain ⟨lY, lY1, lY2⟩ := ltH Y
                  have cLe := cellH Le
                  obtain ⟨lLe, lLe1, lLe2⟩ := ltH Le
                  have cXx := cellH Xx
                  obtain ⟨lXx, lXx1, lXx2⟩ := ltH Xx
                  have cAa := cellH Aa
                  obtain ⟨lAa, lAa1, lAa2⟩ := ltH Aa
                  have cZz := cellH Zz
                  obtain ⟨lZz, lZz1, lZz2⟩ := ltH Zz
                  go_wp2_with fail
                  refine (refCmp_is gz y (-1) _ HGZ.out HY.out HCZ.out).mono ?_
                  rintro e w29 ⟨rfl, hb29⟩
                  have hw29 : Below w.heap.size w w29 := stepH (by (repeat' (first | with_reducible exact Below.refl _ _ | with_reducible assumption | with_reducible refine Below.drew ?_ | with_reducible refine below_drewN ?_ _ | with_reducible refine Below.setCell ?_ ?_ _ | with_reducible refine Below.alloc ?_ ?_ _ | omega | (simp; done) | (simp; omega)))) hb29
                  replace Y := keepH hb29 (blk_old Y.out)
                  replace Le := keepH hb29 (blk_old Le.out)
                  replace Xx := keepH hb29 (blk_old Xx.out)
                  replace Aa := keepH hb29 (blk_old Aa.out)
                  replace Zz := keepH hb29 (blk_old Zz.out)
                  have Bb := keepH hb29 (g := w28.heap.size) (blk_new rfl)
                  have z29 := hw29.size
                  clear hb29 hw28 z28
                  clear cY lY lY1 lY2 cLe lLe lLe1 lLe2 cXx lXx lXx1 lXx2 cAa lAa lAa1 lAa2 cZz lZz lZz1 lZz2
                  have cY := cellH Y
                  obtain ⟨lY, lY1, lY2⟩ := ltH Y
                  have cLe := cellH Le
                  obtain ⟨lLe, lLe1, lLe2⟩ := ltH Le
                  have cXx := cellH Xx
                  obtain ⟨lXx, lXx1, lXx2⟩ := ltH Xx
                  have cAa := cellH Aa
                  obtain ⟨lAa, lAa1, lAa2⟩ := ltH Aa
                  have cZz := cellH Zz
                  obtain ⟨lZz, lZz1, lZz2⟩ := ltH Zz
                  have cBb := cellH Bb
                  obtain ⟨lBb, lBb1, lBb2⟩ := ltH Bb
                  go_wp2_with fail
                  go_ret
                  exact ⟨rfl, by (repeat' (first | with_reducible exact Below.refl _ _ | with_reducible assumption | with_reducible refine Below.drew ?_ | with_reducible refine below_drewN ?_ _ | with_reducible refine Below.setCell ?_ ?_ _ | with_reducible refine Below.alloc ?_ ?_ _ | omega | (simp; done) | (simp; omega)))⟩
              · have HGX := Lib.hid hgz
                clear hgz
                go_enter Tryd.func4, Tryd.ntmps4
                go_wp2_with fail
                refine (first15_any E _ (HE.out.below (by (repeat' (first | with_reducible exact Below.refl _ _ | with_reducible assumption | with_reducible refine Below.drew ?_ | with_reducible refine below_drewN ?_ _ | with_reducible refine Below.setCell ?_ ?_ _ | with_reducible refine Below.alloc ?_ ?_ _ | omega | (simp; done) | (simp; omega)))))).mono ?_
                rintro e w30 ⟨rfl, hb30⟩
                have hw30 : Below w.heap.size w w30 := stepH (by (repeat' (first | with_reducible exact Below.refl _ _ | with_reducible assumption | with_reducible refine Below.drew ?_ | with_reducible refine below_drewN ?_ _ | with_reducible refine Below.setCell ?_ ?_ _ | with_reducible refine Below.alloc ?_ ?_ _ | omega | (simp; done) | (simp; omega)))) hb30
                have Y := keepH hb30 (g := w.heap.size) (blk_old (blk_new rfl))
                have Le := keepH hb30 (g := w.heap.size + 1) (blk_new (by simp))
                have z30 := hw30.size
                clear hb30
                have cY := cellH Y
                obtain ⟨lY, lY1, lY2⟩ := ltH Y
                have cLe := cellH Le
                obtain ⟨lLe, lLe1, lLe2⟩ := ltH Le
                go_wp2_with fail
                refine (HFI.out _ (by (repeat' (first | with_reducible exact Below.refl _ _ | with_reducible assumption | with_reducible refine Below.drew ?_ | with_reducible refine below_drewN ?_ _ | with_reducible refine Below.setCell ?_ ?_ _ | with_reducible refine Below.alloc ?_ ?_ _ | omega | (simp; done) | (simp; omega))))).mono ?_
                rintro e w31 ⟨⟨n', d', err, rfl, hr⟩, hb31⟩
                have hw31 : Below w.heap.size w w31 := stepH (by (repeat' (first | with_reducible exact Below.refl _ _ | with_reducible assumption | with_reducible refine Below.drew ?_ | with_reducible refine below_drewN ?_ _ | with_reducible refine Below.setCell ?_ ?_ _ | with_reducible refine Below.alloc ?_ ?_ _ | omega | (simp; done) | (simp; omega)))) hb31
                rw [HF.out] at hr
                obtain ⟨rfl, rfl, rfl⟩ := hr
                replace Y := keepH hb31 Y.out
                replace Le := keepH hb31 Le.out
                have z31 := hw31.size
                clear hb31 hw30 z30
                clear cY lY lY1 lY2 cLe lLe lLe1 lLe2
                have cY := cellH Y
                obtain ⟨lY, lY1, lY2⟩ := ltH Y
                have cLe := cellH Le
                obtain ⟨lLe, lLe1, lLe2⟩ := ltH Le
                go_wp2_with fail
                refine (HAT.out x.num x.den _ (by (repeat' (first | with_reducible exact Below.refl _ _ | with_reducible assumption | with_reducible refine Below.drew ?_ | with_reducible refine below_drewN ?_ _ | with_reducible refine Below.setCell ?_ ?_ _ | with_reducible refine Below.alloc ?_ ?_ _ | omega | (simp; done) | (simp; omega)))) ⟨xb1, xb2⟩ ⟨xb3, xb4⟩).mono ?_
                rintro e w32 ⟨⟨n', d', err, rfl, hr⟩, hb32⟩
                have hw32 : Below w.heap.size w w32 := stepH (by (repeat' (first | with_reducible exact Below.refl _ _ | with_reducible assumption | with_reducible refine Below.drew ?_ | with_reducible refine below_drewN ?_ _ | with_reducible refine Below.setCell ?_ ?_ _ | with_reducible refine Below.alloc ?_ ?_ _ | omega | (simp; done) | (simp; omega)))) hb32
                rw [HAA.out] at hr
                obtain ⟨rfl, rfl, rfl⟩ := hr
                replace Y := keepH hb32 (blk_old Y.out)
                replace Le := keepH hb32 (blk_old Le.out)
                have Xx := keepH hb32 (g := w31.heap.size) (blk_new rfl)
                have z32 := hw32.size
                clear hb32 hw31 z31
                clear cY lY lY1 lY2 cLe lLe lLe1 lLe2
                have cY := cellH Y
                obtain ⟨lY, lY1, lY2⟩ := ltH Y
                have cLe := cellH Le
                obtain ⟨lLe, lLe1, lLe2⟩ := ltH Le
                have cXx := cellH Xx
                obtain ⟨lXx, lXx1, lXx2⟩ := ltH Xx
                go_wp2_with fail
                refine (refv_is le.num le.den true _ HV.out (by omega) (by omega) (by omega) (by omega)).mono ?_
                rintro e w33 ⟨rfl, hb33⟩
                have hw33 : Below w.heap.size w w33 := stepH (by (repeat' (first | with_reducible exact Below.refl _ _ | with_reducible assumption | with_reducible refine Below.drew ?_ | with_reducible refine below_drewN ?_ _ | with_reducible refine Below.setCell ?_ ?_ _ | with_reducible refine Below.alloc ?_ ?_ _ | omega | (simp; done) | (simp; omega)))) hb33
                replace Y := keepH hb33 (blk_old Y.out)
                replace Le := keepH hb33 (blk_old Le.out)
                replace Xx := keepH hb33 (blk_old Xx.out)
                have Aa := keepH hb33 (g := w32.heap.size) (blk_new rfl)
                have z33 := hw33.size
                clear hb33 hw32 z32
                clear cY lY lY1 lY2 cLe lLe lLe1 lLe2 cXx lXx lXx1 lXx2
                have cY := cellH Y
                obtain ⟨lY, lY1, lY2⟩ := ltH Y
                have cLe := cellH Le
                obtain ⟨lLe, lLe1, lLe2⟩ := ltH Le
                have cXx := cellH Xx
                obtain ⟨lXx, lXx1, lXx2⟩ := ltH Xx
                have cAa := cellH Aa
                obtain ⟨lAa, lAa1, lAa2⟩ := ltH Aa
                go_wp2_with fail
                refine (refSub_any x le _ HX.out HLE.out).mono ?_
                rintro e w34 ⟨⟨n', d', c', rfl, hr⟩, hb34⟩
                have hw34 : Below w.heap.size w w34 := stepH (by (repeat' (first | with_reducible exact Below.refl _ _ | with_reducible assumption | with_reducible refine Below.drew ?_ | with_reducible refine below_drewN ?_ _ | with_reducible refine Below.setCell ?_ ?_ _ | with_reducible refine Below.alloc ?_ ?_ _ | omega | (simp; done) | (simp; omega)))) hb34
                obtain ⟨rfl, rfl, hc3⟩ := resC_no hr (goodR_no (decide_eq_false HGX.out))
                clear hr
                have hcn : (c' != 0) = true := by rcases hc3 with rfl | rfl | rfl <;> decide
                clear hc3
                replace Y := keepH hb34 Y.out
                replace Le := keepH hb34 Le.out
                replace Xx := keepH hb34 Xx.out
                replace Aa := keepH hb34 Aa.out
                have z34 := hw34.size
                clear hb34 hw33 z33
                clear cY lY lY1 lY2 cLe lLe lLe1 lLe2 cXx lXx lXx1 lXx2 cAa lAa lAa1 lAa2
                have cY := cellH Y
                obtain ⟨lY, lY1, lY2⟩ := ltH Y
                have cLe := cellH Le
                obtain ⟨lLe, lLe1, lLe2⟩ := ltH Le
                have cXx := cellH Xx
                obtain ⟨lXx, lXx1, lXx2⟩ := ltH Xx
                have cAa := cellH Aa
                obtain ⟨lAa, lAa1, lAa2⟩ := ltH Aa
                go_wp2_with fail
                go_ret
                exact ⟨rfl, by (repeat' (first | with_reducible exact Below.refl _ _ | with_reducible assumption | with_reducible refine Below.drew ?_ | with_reducible refine below_drewN ?_ _ | with_reducible refine Below.setCell ?_ ?_ _ | with_reducible refine Below.alloc ?_ ?_ _ | omega | (simp; done) | (simp; omega)))⟩
        · rename_i ga
          have HAA := Lib.hid ha
          clear ha
          have HAA : Hid (atI (gs.map bR) x.num x.den = .ok y) := by have h := HAA.out; rw [HA1.out _ h] at h; exact h
          cases hl : validB l1 l2
          · have HV := Lib.hid hl
            clear hl
            go_enter Tryd.func4, Tryd.ntmps4
            go_wp2_with fail
            refine (first15_any E _ (HE.out.below (by (repeat' (first | with_reducible exact Below.refl _ _ | with_reducible assumption | with_reducible refine Below.drew ?_ | with_reducible refine below_drewN ?_ _ | with_reducible refine Below.setCell ?_ ?_ _ | with_reducible refine Below.alloc ?_ ?_ _ | omega | (simp; done) | (simp; omega)))))).mono ?_
            rintro e w35 ⟨rfl, hb35⟩
            have hw35 : Below w.heap.size w w35 := stepH (by (repeat' (first | with_reducible exact Below.refl _ _ | with_reducible assumption | with_reducible refine Below.drew ?_ | with_reducible refine below_drewN ?_ _ | with_reducible refine Below.setCell ?_ ?_ _ | with_reducible refine Below.alloc ?_ ?_ _ | omega | (simp; done) | (simp; omega)))) hb35
            have Y := keepH hb35 (g := w.heap.size) (blk_old (blk_new rfl))
            have Le := keepH hb35 (g := w.heap.size + 1) (blk_new (by simp))
            have z35 := hw35.size
            clear hb35
            have cY := cellH Y
            obtain ⟨lY, lY1, lY2⟩ := ltH Y
            have cLe := cellH Le
            obtain ⟨lLe, lLe1, lLe2⟩ := ltH Le
            go_wp2_with fail
            refine (HFI.out _ (by (repeat' (first | with_reducible exact Below.refl _ _ | with_reducible assumption | with_reducible refine Below.drew ?_ | with_reducible refine below_drewN ?_ _ | with_reducible refine Below.setCell ?_ ?_ _ | with_reducible refine Below.alloc ?_ ?_ _ | omega | (simp; done) | (simp; omega))))).mono ?_
            rintro e w36 ⟨⟨n', d', err, rfl, hr⟩, hb36⟩
            have hw36 : Below w.heap.size w w36 := stepH (by (repeat' (first | with_reducible exact Below.refl _ _ | with_reducible assumption | with_reducible refine Below.drew ?_ | with_reducible refine below_drewN ?_ _ | with_reducible refine Below.setCell ?_ ?_ _ | with_reducible refine Below.alloc ?_ ?_ _ | omega | (simp; done) | (simp; omega)))) hb36
            rw [HF.out] at hr
            obtain ⟨rfl, rfl, rfl⟩ := hr
            replace Y := keepH hb36 Y.out
            replace Le := keepH hb36 Le.out
            have z36 := hw36.size
            clear hb36 hw35 z35
            clear cY lY lY1 lY2 cLe lLe lLe1 lLe2
            have cY := cellH Y
            obtain ⟨lY, lY1, lY2⟩ := ltH Y
            have cLe := cellH Le
            obtain ⟨lLe, lLe1, lLe2⟩ := ltH Le
            go_wp2_with fail
            refine (HAT.out x.num x.den _ (by (repeat' (first | with_reducible exact Below.refl _ _ | with_reducible assumption | with_reducible refine Below.drew ?_ | with_reducible refine below_drewN ?_ _ | with_reducible refine Below.setCell ?_ ?_ _ | with_reducible refine Below.alloc ?_ ?_ _ | omega | (simp; done) | (simp; omega)))) ⟨xb1, xb2⟩ ⟨xb3, xb4⟩).mono ?_
            rintro e w37 ⟨⟨n', d', err, rfl, hr⟩, hb37⟩
            have hw37 : Below w.heap.size w w37 := stepH (by (repeat' (first | with_reducible exact Below.refl _ _ | with_reducible assumption | with_reducible refine Below.drew ?_ | with_reducible refine below_drewN ?_ _ | with_reducible refine Below.setCell ?_ ?_ _ | with_reducible refine Below.alloc ?_ ?_ _ | omega | (simp; done) | (simp; omega)))) hb37
            rw [HAA.out] at hr
            obtain ⟨rfl, rfl, rfl⟩ := hr
            replace Y := keepH hb37 (blk_old Y.out)
            replace Le := keepH hb37 (blk_old Le.out)
            have Xx := keepH hb37 (g := w36.heap.size) (blk_new rfl)
            have z37 := hw37.size
            clear hb37 hw36 z36
            clear cY lY lY1 lY2 cLe lLe lLe1 lLe2
            have cY := cellH Y
            obtain ⟨lY, lY1, lY2⟩ := ltH Y
            have cLe := cellH Le
            obtain ⟨lLe, lLe1, lLe2⟩ := ltH Le
            have cXx := cellH Xx
            obtain ⟨lXx, lXx1, lXx2⟩ := ltH Xx
            go_wp2_with fail
            refine (first_same _ _ _).mono ?_
            rintro e w38 ⟨rfl, hb38⟩
            have hw38 : Below w.heap.size w w38 := stepH (by (repeat' (first | with_reducible exact Below.refl _ _ | with_reducible assumption | with_reducible refine Below.drew ?_ | with_reducible refine below_drewN ?_ _ | with_reducible refine Below.setCell ?_ ?_ _ | with_reducible refine Below.alloc ?_ ?_ _ | omega | (simp; done) | (simp; omega)))) hb38
            replace Y := keepH hb38 (blk_old Y.out)
            replace Le := keepH hb38 (blk_old Le.out)
            replace Xx := keepH hb38 (blk_old Xx.out)
            have Aa := keepH hb38 (g := w37.heap.size) (blk_new rfl)
            have z38 := hw38.size
            clear hb38 hw37 z37
            clear cY lY lY1 lY2 cLe lLe lLe1 lLe2 cXx lXx lXx1 lXx2
            have cY := cellH Y
            obtain ⟨lY, lY1, lY2⟩ := ltH Y
            have cLe := cellH Le
            obtain ⟨lLe, lLe1, lLe2⟩ := ltH Le
            have cXx := cellH Xx
            obtain ⟨lXx, lXx1, lXx2⟩ := ltH Xx
            have cAa := cellH Aa
            obtain ⟨lAa, lAa1, lAa2⟩ := ltH Aa
            go_wp2_with fail
            refine (refv_is l1 l2 false _ HV.out (by omega) (by omega) (by omega) (by omega)).mono ?_
            rintro e w39 ⟨rfl, hb39⟩
            have hw39 : Below w.heap.size w w39 := stepH (by (repeat' (first | with_reducible exact Below.refl _ _ | with_reducible assumption | with_reducible refine Below.drew ?_ | with_reducible refine below_drewN ?_ _ | with_reducible refine Below.setCell ?_ ?_ _ | with_reducible refine Below.alloc ?_ ?_ _ | omega | (simp; done) | (simp; omega)))) hb39
            replace Y := keepH hb39 Y.out
            replace Le := keepH hb39 Le.out
            replace Xx := keepH hb39 Xx.out
            replace Aa := keepH hb39 Aa.out
            have z39 := hw39.size
            clear hb39 hw38 z38
            clear cY lY lY1 lY2 cLe lLe lLe1 lLe2 cXx lXx lXx1 lXx2 cAa lAa lAa1 lAa2
            have cY := cellH Y
            obtain ⟨lY, lY1, lY2⟩ := ltH Y
            have cLe := cellH Le
            obtain ⟨lLe, lLe1, lLe2⟩ := ltH Le
            have cXx := cellH Xx
            obtain ⟨lXx, lXx1, lXx2⟩ := ltH Xx
            have cAa := cellH Aa
            obtain ⟨lAa, lAa1, lAa2⟩ := ltH Aa
            go_wp2_with fail
            go_ret
            exact ⟨rfl, by (repeat' (first | with_reducible exact Below.refl _ _ | with_reducible assumption | with_reducible refine Below.drew ?_ | with_reducible refine below_drewN ?_ _ | with_reducible refine Below.setCell ?_ ?_ _ | with_reducible refine Below.alloc ?_ ?_ _ | omega | (simp; done) | (simp; omega)))⟩
          · obtain ⟨le, hle, rfl, rfl⟩ := good_of_validB hl
            have HV := Lib.hid hl
            have HLE := Lib.hid hle
            clear hl hle
            by_cases hl0 : le.num ≤ 0
            · go_enter Tryd.func4, Tryd.ntmps4
              go_wp2_with fail
              refine (first15_any E _ (HE.out.below (by (repeat' (first | with_reducible exact Below.refl _ _ | with_reducible assumption | with_reducible refine Below.drew ?_ | with_reducible refine below_drewN ?_ _ | with_reducible refine Below.setCell ?_ ?_ _ | with_reducible refine Below.alloc ?_ ?_ _ | omega | (simp; done) | (simp; omega)))))).mono ?_
              rintro e w40 ⟨rfl, hb40⟩
              have hw40 : Below w.heap.size w w40 := stepH (by (repeat' (first | with_reducible exact Below.refl _ _ | with_reducible assumption | with_reducible refine Below.drew ?_ | with_reducible refine below_drewN ?_ _ | with_reducible refine Below.setCell ?_ ?_ _ | with_reducible refine Below.alloc ?_ ?_ _ | omega | (simp; done) | (simp; omega)))) hb40
              have Y := keepH hb40 (g := w.heap.size) (blk_old (blk_new rfl))
              have Le := keepH hb40 (g := w.heap.size + 1) (blk_new (by simp))
              have z40 := hw40.size
              clear hb40
              have cY := cellH Y
              obtain ⟨lY, lY1, lY2⟩ := ltH Y
              have cLe := cellH Le
              obtain ⟨lLe, lLe1, lLe2⟩ := ltH Le
              go_wp2_with fail
              refine (HFI.out _ (by (repeat' (first | with_reducible exact Below.refl _ _ | with_reducible assumption | with_reducible refine Below.drew ?_ | with_reducible refine below_drewN ?_ _ | with_reducible refine Below.setCell ?_ ?_ _ | with_reducible refine Below.alloc ?_ ?_ _ | omega | (simp; done) | (simp; omega))))).mono ?_
              rintro e w41 ⟨⟨n', d', err, rfl, hr⟩, hb41⟩
              have hw41 : Below w.heap.size w w41 := stepH (by (repeat' (first | with_reducible exact Below.refl _ _ | with_reducible assumption | with_reducible refine Below.drew ?_ | with_reducible refine below_drewN ?_ _ | with_reducible refine Below.setCell ?_ ?_ _ | with_reducible refine Below.alloc ?_ ?_ _ | omega | (simp; done) | (simp; omega)))) hb41
              rw [HF.out] at hr
              obtain ⟨rfl, rfl, rfl⟩ := hr
              replace Y := keepH hb41 Y.out
              replace Le := keepH hb41 Le.out
              have z41 := hw41.size
              clear hb41 hw40 z40
              clear cY lY lY1 lY2 cLe lLe lLe1 lLe2
              have cY := cellH Y
              obtain ⟨lY, lY1, lY2⟩ := ltH Y
              have cLe := cellH Le
              obtain ⟨lLe, lLe1, lLe2⟩ := ltH Le
              go_wp2_with fail
              refine (HAT.out x.num x.den _ (by (repeat' (first | with_reducible exact Below.refl _ _ | with_reducible assumption | with_reducible refine Below.drew ?_ | with_reducible refine below_drewN ?_ _ | with_reducible refine Below.setCell ?_ ?_ _ | with_reducible refine Below.alloc ?_ ?_ _ | omega | (simp; done) | (simp; omega)))) ⟨xb1, xb2⟩ ⟨xb3, xb4⟩).mono ?_
              rintro e w42 ⟨⟨n', d', err, rfl, hr⟩, hb42⟩
              have hw42 : Below w.heap.size w w42 := stepH (by (repeat' (first | with_reducible exact Below.refl _ _ | with_reducible assumption | with_reducible refine Below.drew ?_ | with_reducible refine below_drewN ?_ _ | with_reducible refine Below.setCell ?_ ?_ _ | with_reducible refine Below.alloc ?_ ?_ _ | omega | (simp; done) | (simp; omega)))) hb42
              rw [HAA.out] at hr
              obtain ⟨rfl, rfl, rfl⟩ := hr
              replace Y := keepH hb42 (blk_old Y.out)
              replace Le := keepH hb42 (blk_old Le.out)
              have Xx := keepH hb42 (g := w41.heap.size) (blk_new rfl)
              have z42 := hw42.size
              clear hb42 hw41 z41
              clear cY lY lY1 lY2 cLe lLe lLe1 lLe2
              have cY := cellH Y
              obtain ⟨lY, lY1, lY2⟩ := ltH Y
              have cLe := cellH Le
              obtain ⟨lLe, lLe1, lLe2⟩ := ltH Le
              have cXx := cellH Xx
              obtain ⟨lXx, lXx1, lXx2⟩ := ltH Xx
              go_wp2_with fail
              refine (first_same _ _ _).mono ?_
              rintro e w43 ⟨rfl, hb43⟩
              have hw43 : Below w.heap.size w w43 := stepH (by (repeat' (first | with_reducible exact Below.refl _ _ | with_reducible assumption | with_reducible refine Below.drew ?_ | with_reducible refine below_drewN ?_ _ | with_reducible refine Below.setCell ?_ ?_ _ | with_reducible refine Below.alloc ?_ ?_ _ | omega | (simp; done) | (simp; omega)))) hb43
              replace Y := keepH hb43 (blk_old Y.out)
              replace Le := keepH hb43 (blk_old Le.out)
              replace Xx := keepH hb43 (blk_old Xx.out)
              have Aa := keepH hb43 (g := w42.heap.size) (blk_new rfl)
              have z43 := hw43.size
              clear hb43 hw42 z42
              clear cY lY lY1 lY2 cLe lLe lLe1 lLe2 cXx lXx lXx1 lXx2
              have cY := cellH Y
              obtain ⟨lY, lY1, lY2⟩ := ltH Y
              have cLe := cellH Le
              obtain ⟨lLe, lLe1, lLe2⟩ := ltH Le
              have cXx := cellH Xx
              obtain ⟨lXx, lXx1, lXx2⟩ := ltH Xx
              have cAa := cellH Aa
              obtain ⟨lAa, lAa1, lAa2⟩ := ltH Aa
              go_wp2_with fail
              refine (refv_is le.num le.den true _ HV.out (by omega) (by omega) (by omega) (by omega)).mono ?_
              rintro e w44 ⟨rfl, hb44⟩
              have hw44 : Below w.heap.size w w44 := stepH (by (repeat' (first | with_reducible exact Below.refl _ _ | with_reducible assumption | with_reducible refine Below.drew ?_ | with_reducible refine below_drewN ?_ _ | with_reducible refine Below.setCell ?_ ?_ _ | with_reducible refine Below.alloc ?_ ?_ _ | omega | (simp; done) | (simp; omega)))) hb44
              replace Y := keepH hb44 Y.out
              replace Le := keepH hb44 Le.out
              replace Xx := keepH hb44 Xx.out
              replace Aa := keepH hb44 Aa.out
              have z44 := hw44.size
              clear hb44 hw43 z43
              clear cY lY lY1 lY2 cLe lLe lLe1 lLe2 cXx lXx lXx1 lXx2 cAa lAa lAa1 lAa2
              have cY := cellH Y
              obtain ⟨lY, lY1, lY2⟩ := ltH Y
              have cLe := cellH Le
              obtain ⟨lLe, lLe1, lLe2⟩ := ltH Le
              have cXx := cellH Xx
              obtain ⟨lXx, lXx1, lXx2⟩ := ltH Xx
              have cAa := cellH Aa
              obtain ⟨lAa, lAa1, lAa2⟩ := ltH Aa
              go_wp2_with fail
              go_ret
              exact ⟨rfl, by (repeat' (first | with_reducible exact Below.refl _ _ | with_reducible assumption | with_reducible refine Below.drew ?_ | with_reducible refine below_drewN ?_ _ | with_reducible refine Below.setCell ?_ ?_ _ | with_reducible refine Below.alloc ?_ ?_ _ | omega | (simp; done) | (simp; omega)))⟩
            · have hl1 : 0 < le.num := by omega
              clear hl0
              by_cases hgz : Good (x - le)
              · have BZ := bds hgz
                obtain ⟨zb1, zb2, zb3, zb4⟩ := BZ
                cases hz : atI (gs.map bR) (x - le).num (x - le).den
                · rename_i gz
                  have HZ := Lib.hid hz
                  clear hz
                  have hen2 := fun w => eql_nil (E gz) w
                  have HGX := Lib.hid hgz
                  go_enter Tryd.func4, Tryd.ntmps4
                  go_wp2_with fail
                  refine (first15_any E _ (HE.out.below (by (repeat' (first | with_reducible exact Below.refl _ _ | with_reducible assumption | with_reducible refine Below.drew ?_ | with_reducible refine below_drewN ?_ _ | with_reducible refine Below.setCell ?_ ?_ _ | with_reducible refine Below.alloc ?_ ?_ _ | omega | (simp; done) | (simp; omega)))))).mono ?_
                  rintro e w45 ⟨rfl, hb45⟩
                  have hw45 : Below w.heap.size w w45 := stepH (by (repeat' (first | with_reducible exact Below.refl _ _ | with_reducible assumption | with_reducible refine Below.drew ?_ | with_reducible refine below_drewN ?_ _ | with_reducible refine Below.setCell ?_ ?_ _ | with_reducible refine Below.alloc ?_ ?_ _ | omega | (simp; done) | (simp; omega)))) hb45
                  have Y := keepH hb45 (g := w.heap.size) (blk_old (blk_new rfl))
                  have Le := keepH hb45 (g := w.heap.size + 1) (blk_new (by simp))
                  have z45 := hw45.size
                  clear hb45
                  have cY := cellH Y
                  obtain ⟨lY, lY1, lY2⟩ := ltH Y
                  have cLe := cellH Le
                  obtain ⟨lLe, lLe1, lLe2⟩ := ltH Le
                  go_wp2_with fail
                  refine (HFI.out _ (by (repeat' (first | with_reducible exact Below.refl _ _ | with_reducible assumption | with_reducible refine Below.drew ?_ | with_reducible refine below_drewN ?_ _ | with_reducible refine Below.setCell ?_ ?_ _ | with_reducible refine Below.alloc ?_ ?_ _ | omega | (simp; done) | (simp; omega))))).mono ?_
                  rintro e w46 ⟨⟨n', d', err, rfl, hr⟩, hb46⟩
                  have hw46 : Below w.heap.size w w46 := stepH (by (repeat' (first | with_reducible exact Below.refl _ _ | with_reducible assumption | with_reducible refine Below.drew ?_ | with_reducible refine below_drewN ?_ _ | with_reducible refine Below.setCell ?_ ?_ _ | with_reducible refine Below.alloc ?_ ?_ _ | omega | (simp; done) | (simp; omega)))) hb46
                  rw [HF.out] at hr
                  obtain ⟨rfl, rfl, rfl⟩ := hr
                  replace Y := keepH hb46 Y.out
                  replace Le := keepH hb46 Le.out
                  have z46 := hw46.size
                  clear hb46 hw45 z45
                  clear cY lY lY1 lY2 cLe lLe lLe1 lLe2
                  have cY := cellH Y
                  obtain ⟨lY, lY1, lY2⟩ := ltH Y
                  have cLe := cellH Le
                  obtain ⟨lLe, lLe1, lLe2⟩ := ltH Le
                  go_wp2_with fail
                  refine (HAT.out x.num x.den _ (by (repeat' (first | with_reducible exact Below.refl _ _ | with_reducible assumption | with_reducible refine Below.drew ?_ | with_reducible refine below_drewN ?_ _ | with_reducible refine Below.setCell ?_ ?_ _ | with_reducible refine Below.alloc ?_ ?_ _ | omega | (simp; done) | (simp; omega)))) ⟨xb1, xb2⟩ ⟨xb3, xb4⟩).mono ?_
                  rintro e w47 ⟨⟨n', d', err, rfl, hr⟩, hb47⟩
                  have hw47 : Below w.heap.size w w47 := stepH (by (repeat' (first | with_reducible exact Below.refl _ _ | with_reducible assumption | with_reducible refine Below.drew ?_ | with_reducible refine below_drewN ?_ _ | with_reducible refine Below.setCell ?_ ?_ _ | with_reducible refine Below.alloc ?_ ?_ _ | omega | (simp; done) | (simp; omega)))) hb47
                  rw [HAA.out] at hr
                  obtain ⟨rfl, rfl, rfl⟩ := hr
                  replace Y := keepH hb47 (blk_old Y.out)
                  replace Le := keepH hb47 (blk_old Le.out)
                  have Xx := keepH hb47 (g := w46.heap.size) (blk_new rfl)
                  have z47 := hw47.size
                  clear hb47 hw46 z46
                  clear cY lY lY1 lY2 cLe lLe lLe1 lLe2
                  have cY := cellH Y
                  obtain ⟨lY, lY1, lY2⟩ := ltH Y
                  have cLe := cellH Le
                  obtain ⟨lLe, lLe1, lLe2⟩ := ltH Le
                  have cXx := cellH Xx
                  obtain ⟨lXx, lXx1, lXx2⟩ := ltH Xx
                  go_wp2_with fail
                  refine (first_same _ _ _).mono ?_
                  rintro e w48 ⟨rfl, hb48⟩
                  have hw48 : Below w.heap.size w w48 := stepH (by (repeat' (first | with_reducible exact Below.refl _ _ | with_reducible assumption | with_reducible refine Below.drew ?_ | with_reducible refine below_drewN ?_ _ | with_reducible refine Below.setCell ?_ ?_ _ | with_reducible refine Below.alloc ?_ ?_ _ | omega | (simp; done) | (simp; omega)))) hb48
                  replace Y := keepH hb48 (blk_old Y.out)
                  replace Le := keepH hb48 (blk_old Le.out)
                  replace Xx := keepH hb48 (blk_old Xx.out)
                  have Aa := keepH hb48 (g := w47.heap.size) (blk_new rfl)
                  have z48 := hw48.size
                  clear hb48 hw47 z47
                  clear cY lY lY1 lY2 cLe lLe lLe1 lLe2 cXx lXx lXx1 lXx2
                  have cY := cellH Y
                  obtain ⟨lY, lY1, lY2⟩ := ltH Y
                  have cLe := cellH Le
                  obtain ⟨lLe, lLe1, lLe2⟩ := ltH Le
                  have cXx := cellH Xx
                  obtain ⟨lXx, lXx1, lXx2⟩ := ltH Xx
                  have cAa := cellH Aa
                  obtain ⟨lAa, lAa1, lAa2⟩ := ltH Aa
                  go_wp2_with fail
                  refine (refv_is le.num le.den true _ HV.out (by omega) (by omega) (by omega) (by omega)).mono ?_
                  rintro e w49 ⟨rfl, hb49⟩
                  have hw49 : Below w.heap.size w w49 := stepH (by (repeat' (first | with_reducible exact Below.refl _ _ | with_reducible assumption | with_reducible refine Below.drew ?_ | with_reducible refine below_drewN ?_ _ | with_reducible refine Below.setCell ?_ ?_ _ | with_reducible refine Below.alloc ?_ ?_ _ | omega | (simp; done) | (simp; omega)))) hb49
                  replace Y := keepH hb49 Y.out
                  replace Le := keepH hb49 Le.out
                  replace Xx := keepH hb49 Xx.out
                  replace Aa := keepH hb49 Aa.out
                  have z49 := hw49.size
                  clear hb49 hw48 z48
                  clear cY lY lY1 lY2 cLe lLe lLe1 lLe2 cXx lXx lXx1 lXx2 cAa lAa lAa1 lAa2
                  have cY := cellH Y
                  obtain ⟨lY, lY1, lY2⟩ := ltH Y
                  have cLe := cellH Le
                  obtain ⟨lLe, lLe1, lLe2⟩ := ltH Le
                  have cXx := cellH Xx
                  obtain ⟨lXx, lXx1, lXx2⟩ := ltH Xx
                  have cAa := cellH Aa
                  obtain ⟨lAa, lAa1, lAa2⟩ := ltH Aa
                  go_wp2_with fail
                  refine (refSub_any x le _ HX.out HLE.out).mono ?_
                  rintro e w50 ⟨⟨n', d', c', rfl, hr⟩, hb50⟩
                  have hw50 : Below w.heap.size w w50 := stepH (by (repeat' (first | with_reducible exact Below.refl _ _ | with_reducible assumption | with_reducible refine Below.drew ?_ | with_reducible refine below_drewN ?_ _ | with_reducible refine Below.setCell ?_ ?_ _ | with_reducible refine Below.alloc ?_ ?_ _ | omega | (simp; done) | (simp; omega)))) hb50
                  obtain ⟨rfl, rfl, rfl⟩ := resC_ok hr (goodR_ok (decide_eq_true HGX.out))
                  clear hr
                  replace Y := keepH hb50 Y.out
                  replace Le := keepH hb50 Le.out
                  replace Xx := keepH hb50 Xx.out
                  replace Aa := keepH hb50 Aa.out
                  have z50 := hw50.size
                  clear hb50 hw49 z49
                  clear cY lY lY1 lY2 cLe lLe lLe1 lLe2 cXx lXx lXx1 lXx2 cAa lAa lAa1 lAa2
                  have cY := cellH Y
                  obtain ⟨lY, lY1, lY2⟩ := ltH Y
                  have cLe := cellH Le
                  obtain ⟨lLe, lLe1, lLe2⟩ := ltH Le
                  have cXx := cellH Xx
                  obtain ⟨lXx, lXx1, lXx2⟩ := ltH Xx
                  have cAa := cellH Aa
                  obtain ⟨lAa, lAa1, lAa2⟩ := ltH Aa
                  go_wp2_with fail
                  refine (HAT.out (x - le).num (x - le).den _ (by (repeat' (first | with_reducible exact Below.refl _ _ | with_reducible assumption | with_reducible refine Below.drew ?_ | with_reducible refine below_drewN ?_ _ | with_reducible refine Below.setCell ?_ ?_ _ | with_reducible refine Below.alloc ?_ ?_ _ | omega | (simp; done) | (simp; omega)))) ⟨zb1, zb2⟩ ⟨zb3, zb4⟩).mono ?_
                  rintro e w51 ⟨⟨n', d', err, rfl, hr⟩, hb51⟩
                  have hw51 : Below w.heap.size w w51 := stepH (by (repeat' (first | with_reducible exact Below.refl _ _ | with_reducible assumption | with_reducible refine Below.drew ?_ | with_reducible refine below_drewN ?_ _ | with_reducible refine Below.setCell ?_ ?_ _ | with_reducible refine Below.alloc ?_ ?_ _ | omega | (simp; done) | (simp; omega)))) hb51
                  rw [HZ.out] at hr
                  obtain ⟨rfl, rfl, rfl⟩ := hr
                  replace Y := keepH hb51 (blk_old Y.out)
                  replace Le := keepH hb51 (blk_old Le.out)
                  replace Xx := keepH hb51 (blk_old Xx.out)
                  replace Aa := keepH hb51 (blk_old Aa.out)
                  have Zz := keepH hb51 (g := w50.heap.size) (blk_new rfl)
                  have z51 := hw51.size
                  clear hb51 hw50 z50
                  clear cY lY lY1 lY2 cLe lLe lLe1 lLe2 cXx lXx lXx1 lXx2 cAa lAa lAa1 lAa2
                  have cY := cellH Y
                  obtain ⟨lY, lY1, lY2⟩ := ltH Y
                  have cLe := cellH Le
                  obtain ⟨lLe, lLe1, lLe2⟩ := ltH Le
                  have cXx := cellH Xx
                  obtain ⟨lXx, lXx1, lXx2⟩ := ltH Xx
                  have cAa := cellH Aa
                  obtain ⟨lAa, lAa1, lAa2⟩ := ltH Aa
                  have cZz := cellH Zz
                  obtain ⟨lZz, lZz1, lZz2⟩ := ltH Zz
                  go_wp2_with fail
                  go_ret
                  exact ⟨rfl, by (repeat' (first | with_reducible exact Below.refl _ _ | with_reducible assumption | with_reducible refine Below.drew ?_ | with_reducible refine below_drewN ?_ _ | with_reducible refine Below.setCell ?_ ?_ _ | with_reducible refine Below.alloc ?_ ?_ _ | omega | (simp; done) | (simp; omega)))⟩
                · rename_i gz
                  have HZ := Lib.hid hz
                  clear hz
                  have hzx : x - le < x := by have h : 0 < le := (by rcases tri 0 le with h | h | h; exact h; rw [← h] at hl1; exact absurd hl1 (by decide); have h9 := Rat.num_nonneg.2 (show 0 ≤ -le by grind); rw [Rat.neg_num] at h9; omega); grind
                  have HCZ := Lib.hid (cmp_lt (HA2.out _ _ hzx HZ.out))
                  have HGZ := Lib.hid (show Good gz by obtain ⟨_, _, _, _, _, _, _, _, _, _, h, _⟩ := atI_ok HZ.out; exact h)
                  clear hzx
                  have HGX := Lib.hid hgz
                  go_enter Tryd.func4, Tryd.ntmps4
                  go_wp2_with fail
                  refine (first15_any E _ (HE.out.below (by (repeat' (first | with_reducible exact Below.refl _ _ | with_reducible assumption | with_reducible refine Below.drew ?_ | with_reducible refine below_drewN ?_ _ | with_reducible refine Below.setCell ?_ ?_ _ | with_reducible refine Below.alloc ?_ ?_ _ | omega | (simp; done) | (simp; omega)))))).mono ?_
                  rintro e w52 ⟨rfl, hb52⟩
                  have hw52 : Below w.heap.size w w52 := stepH (by (repeat' (first | with_reducible exact Below.refl _ _ | with_reducible assumption | with_reducible refine Below.drew ?_ | with_reducible refine below_drewN ?_ _ | with_reducible refine Below.setCell ?_ ?_ _ | with_reducible refine Below.alloc ?_ ?_ _ | omega | (simp; done) | (simp; omega)))) hb52
                  have Y := keepH hb52 (g := w.heap.size) (blk_old (blk_new rfl))
                  have Le := keepH hb52 (g := w.heap.size + 1) (blk_new (by simp))
                  have z52 := hw52.size
                  clear hb52
                  have cY := cellH Y
                  obtain ⟨lY, lY1, lY2⟩ := ltH Y
                  have cLe := cellH Le
                  obtain ⟨lLe, lLe1, lLe2⟩ := ltH Le
                  go_wp2_with fail
                  refine (HFI.out _ (by (repeat' (first | with_reducible exact Below.refl _ _ | with_reducible assumption | with_reducible refine Below.drew ?_ | with_reducible refine below_drewN ?_ _ | with_reducible refine Below.setCell ?_ ?_ _ | with_reducible refine Below.alloc ?_ ?_ _ | omega | (simp; done) | (simp; omega))))).mono ?_
                  rintro e w53 ⟨⟨n', d', err, rfl, hr⟩, hb53⟩
                  have hw53 : Below w.heap.size w w53 := stepH (by (repeat' (first | with_reducible exact Below.refl _ _ | with_reducible assumption | with_reducible refine Below.drew ?_ | with_reducible refine below_drewN ?_ _ | with_reducible refine Below.setCell ?_ ?_ _ | with_reducible refine Below.alloc ?_ ?_ _ | omega | (simp; done) | (simp; omega)))) hb53
                  rw [HF.out] at hr
                  obtain ⟨rfl, rfl, rfl⟩ := hr
                  replace Y := keepH hb53 Y.out
                  replace Le := keepH hb53 Le.out
                  have z53 := hw53.size
                  clear hb53 hw52 z52
                  clear cY lY lY1 lY2 cLe lLe lLe1 lLe2
                  have cY := cellH Y
                  obtain ⟨lY, lY1, lY2⟩ := ltH Y
                  have cLe := cellH Le
                  obtain ⟨lLe, lLe1, lLe2⟩ := ltH Le
                  go_wp2_with fail
                  refine (HAT.out x.num x.den _ (by (repeat' (first | with_reducible exact Below.refl _ _ | with_reducible assumption | with_reducible refine Below.drew ?_ | with_reducible refine below_drewN ?_ _ | with_reducible refine Below.setCell ?_ ?_ _ | with_reducible refine Below.alloc ?_ ?_ _ | omega | (simp; done) | (simp; omega)))) ⟨xb1, xb2⟩ ⟨xb3, xb4⟩).mono ?_
                  rintro e w54 ⟨⟨n', d', err, rfl, hr⟩, hb54⟩
                  have hw54 : Below w.heap.size w w54 := stepH (by (repeat' (first | with_reducible exact Below.refl _ _ | with_reducible assumption | with_reducible refine Below.drew ?_ | with_reducible refine below_drewN ?_ _ | with_reducible refine Below.setCell ?_ ?_ _ | with_reducible refine Below.alloc ?_ ?_ _ | omega | (simp; done) | (simp; omega)))) hb54
                  rw [HAA.out] at hr
                  obtain ⟨rfl, rfl, rfl⟩ := hr
                  replace Y := keepH hb54 (blk_old Y.out)
                  replace Le := keepH hb54 (blk_old Le.out)
                  have Xx := keepH hb54 (g := w53.heap.size) (blk_new rfl)
                  have z54 := hw54.size
                  clear hb54 hw53 z53
                  clear cY lY lY1 lY2 cLe lLe lLe1 lLe2
                  have cY := cellH Y
                  obtain ⟨lY, lY1, lY2⟩ := ltH Y
                  have cLe := cellH Le
                  obtain ⟨lLe, lLe1, lLe2⟩ := ltH Le
                  have cXx := cellH Xx
                  obtain ⟨lXx, lXx1, lXx2⟩ := ltH Xx
                  go_wp2_with fail
                  refine (first_same _ _ _).mono ?_
                  rintro e w55 ⟨rfl, hb55⟩
                  have hw55 : Below w.heap.size w w55 := stepH (by (repeat' (first | with_reducible exact Below.refl _ _ | with_reducible assumption | with_reducible refine Below.drew ?_ | with_reducible refine below_drewN ?_ _ | with_reducible refine Below.setCell ?_ ?_ _ | with_reducible refine Below.alloc ?_ ?_ _ | omega | (simp; done) | (simp; omega)))) hb55
                  replace Y := keepH hb55 (blk_old Y.out)
                  replace Le := keepH hb55 (blk_old Le.out)
                  replace Xx := keepH hb55 (blk_old Xx.out)
                  have Aa := keepH hb55 (g := w54.heap.size) (blk_new rfl)
                  have z55 := hw55.size
                  clear hb55 hw54 z54
                  clear cY lY lY1 lY2 cLe lLe lLe1 lLe2 cXx lXx lXx1 lXx2
                  have cY := cellH Y
                  obtain ⟨lY, lY1, lY2⟩ := ltH Y
                  have cLe := cellH Le
                  obtain ⟨lLe, lLe1, lLe2⟩ := ltH Le
                  have cXx := cellH Xx
                  obtain ⟨lXx, lXx1, lXx2⟩ := ltH Xx
                  have cAa := cellH Aa
                  obtain ⟨lAa, lAa1, lAa2⟩ := ltH Aa
                  go_wp2_with fail
                  refine (refv_is le.num le.den true _ HV.out (by omega) (by omega) (by omega) (by omega)).mono ?_
                  rintro e w56 ⟨rfl, hb56⟩
                  have hw56 : Below w.heap.size w w56 := stepH (by (repeat' (first | with_reducible exact Below.refl _ _ | with_reducible assumption | with_reducible refine Below.drew ?_ | with_reducible refine below_drewN ?_ _ | with_reducible refine Below.setCell ?_ ?_ _ | with_reducible refine Below.alloc ?_ ?_ _ | omega | (simp; done) | (simp; omega)))) hb56
                  replace Y := keepH hb56 Y.out
                  replace Le := keepH hb56 Le.out
                  replace Xx := keepH hb56 Xx.out
                  replace Aa := keepH hb56 Aa.out
                  have z56 := hw56.size
                  clear hb56 hw55 z55
                  clear cY lY lY1 lY2 cLe lLe lLe1 lLe2 cXx lXx lXx1 lXx2 cAa lAa lAa1 lAa2
                  have cY := cellH Y
                  obtain ⟨lY, lY1, lY2⟩ := ltH Y
                  have cLe := cellH Le
                  obtain ⟨lLe, lLe1, lLe2⟩ := ltH Le
                  have cXx := cellH Xx
                  obtain ⟨lXx, lXx1, lXx2⟩ := ltH Xx
                  have cAa := cellH Aa
                  obtain ⟨lAa, lAa1, lAa2⟩ := ltH Aa
                  go_wp2_with fail
                  refine (refSub_any x le _ HX.out HLE.out).mono ?_
                  rintro e w57 ⟨⟨n', d', c', rfl, hr⟩, hb57⟩
                  have hw57 : Below w.heap.size w w57 := stepH (by (repeat' (first | with_reducible exact Below.refl _ _ | with_reducible assumption | with_reducible refine Below.drew ?_ | with_reducible refine below_drewN ?_ _ | with_reducible refine Below.setCell ?_ ?_ _ | with_reducible refine Below.alloc ?_ ?_ _ | omega | (simp; done) | (simp; omega)))) hb57
                  obtain ⟨rfl, rfl, rfl⟩ := resC_ok hr (goodR_ok (decide_eq_true HGX.out))
                  clear hr
                  replace Y := keepH hb57 Y.out
                  replace Le := keepH hb57 Le.out
                  replace Xx := keepH hb57 Xx.out
                  replace Aa := keepH hb57 Aa.out
                  have z57 := hw57.size
                  clear hb57 hw56 z56
                  clear cY lY lY1 lY2 cLe lLe lLe1 lLe2 cXx lXx lXx1 lXx2 cAa lAa lAa1 lAa2
                  have cY := cellH Y
                  obtain ⟨lY, lY1, lY2⟩ := ltH Y
                  have cLe := cellH Le
                  obtain ⟨lLe, lLe1, lLe2⟩ := ltH Le
                  have cXx := cellH Xx
                  obtain ⟨lXx, lXx1, lXx2⟩ := ltH Xx
                  have cAa := cellH Aa
                  obtain ⟨lAa, lAa1, lAa2⟩ := ltH Aa
                  go_wp2_with fail
                  refine (HAT.out (x - le).num (x - le).den _ (by (repeat' (first | with_reducible exact Below.refl _ _ | with_reducible assumption | with_reducible refine Below.drew ?_ | with_reducible refine below_drewN ?_ _ | with_reducible refine Below.setCell ?_ ?_ _ | with_reducible refine Below.alloc ?_ ?_ _ | omega | (simp; done) | (simp; omega)))) ⟨zb1, zb2⟩ ⟨zb3, zb4⟩).mono ?_
                  rintro e w58 ⟨⟨n', d', err, rfl, hr⟩, hb58⟩
                  have hw58 : Below w.heap.size w w58 := stepH (by (repeat' (first | with_reducible exact Below.refl _ _ | with_reducible assumption | with_reducible refine Below.drew ?_ | with_reducible refine below_drewN ?_ _ | with_reducible refine Below.setCell ?_ ?_ _ | with_reducible refine Below.alloc ?_ ?_ _ | omega | (simp; done) | (simp; omega)))) hb58
                  rw [HZ.out] at hr
                  obtain ⟨rfl, rfl, rfl⟩ := hr
                  replace Y := keepH hb58 (blk_old Y.out)
                  replace Le := keepH hb58 (blk_old Le.out)
                  replace Xx := keepH hb58 (blk_old Xx.out)
                  replace Aa := keepH hb58 (blk_old Aa.out)
                  have Zz := keepH hb58 (g := w57.heap.size) (blk_new rfl)
                  have z58 := hw58.size
                  clear hb58 hw57 z57
                  clear cY lY lY1 lY2 cLe lLe lLe1 lLe2 cXx lXx lXx1 lXx2 cAa lAa lAa1 lAa2
                  have cY := cellH Y
                  obtain ⟨lY, lY1, lY2⟩ := ltH Y
                  have cLe := cellH Le
                  obtain ⟨lLe, lLe1, lLe2⟩ := ltH Le
                  have cXx := cellH Xx
                  obtain ⟨lXx, lXx1, lXx2⟩ := ltH Xx
                  have cAa := cellH Aa
                  obtain ⟨lAa, lAa1, lAa2⟩ := ltH Aa
                  have cZz := cellH Zz
                  obtain ⟨lZz, lZz1, lZz2⟩ := ltH Zz
                  go_wp2_with fail
                  refine (refCmp_is gz y (-1) _ HGZ.out HY.out HCZ.out).mono ?_
                  rintro e w59 ⟨rfl, hb59⟩
                  have hw59 : Below w.heap.size w w59 := stepH (by (repeat' (first | with_reducible exact Below.refl _ _ | with_reducible assumption | with_reducible refine Below.drew ?_ | with_reducible refine below_drewN ?_ _ | with_reducible refine Below.setCell ?_ ?_ _ | with_reducible refine Below.alloc ?_ ?_ _ | omega | (simp; done) | (simp; omega)))) hb59
                  replace Y := keepH hb59 (blk_old Y.out)
                  replace Le := keepH hb59 (blk_old Le.out)
                  replace Xx := keepH hb59 (blk_old Xx.out)
                  replace Aa := keepH hb59 (blk_old Aa.out)
                  replace Zz := keepH hb59 (blk_old Zz.out)
                  have Bb := keepH hb59 (g := w58.heap.size) (blk_new rfl)
                  have z59 := hw59.size
                  clear hb59 hw58 z58
                  clear cY lY lY1 lY2 cLe lLe lLe1 lLe2 cXx lXx lXx1 lXx2 cAa lAa lAa1 lAa2 cZz lZz lZz1 lZz2
                  have cY := cellH Y
                  obtain ⟨lY, lY1, lY2⟩ := ltH Y
                  have cLe := cellH Le
                  obtain ⟨lLe, lLe1, lLe2⟩ := ltH Le
                  have cXx := cellH Xx
                  obtain ⟨lXx, lXx1, lXx2⟩ := ltH Xx
                  have cAa := cellH Aa
                  obtain ⟨lAa, lAa1, lAa2⟩ := ltH Aa
                  have cZz := cellH Zz
                  obtain ⟨lZz, lZz1, lZz2⟩ := ltH Zz
                  have cBb := cellH Bb
                  obtain ⟨lBb, lBb1, lBb2⟩ := ltH Bb
                  go_wp2_with fail
                  go_ret
                  exact ⟨rfl, by (repeat' (first | with_reducible exact Below.refl _ _ | with_reducible assumption | with_reducible refine Below.drew ?_ | with_reducible refine below_drewN ?_ _ | with_reducible refine Below.setCell ?_ ?_ _ | with_reducible refine Below.alloc ?_ ?_ _ | omega | (simp; done) | (simp; omega)))⟩
              · have HGX := Lib.hid hgz
                clear hgz
                go_enter Tryd.func4, Tryd.ntmps4
                go_wp2_with fail
                refine (first15_any E _ (HE.out.below (by (repeat' (first | with_reducible exact Below.refl _ _ | with_reducible assumption | with_reducible refine Below.drew ?_ | with_reducible refine below_drewN ?_ _ | with_reducible refine Below.setCell ?_ ?_ _ | with_reducible refine Below.alloc ?_ ?_ _ | omega | (simp; done) | (simp; omega)))))).mono ?_
                rintro e w60 ⟨rfl, hb60⟩
                have hw60 : Below w.heap.size w w60 := stepH (by (repeat' (first | with_reducible exact Below.refl _ _ | with_reducible assumption | with_reducible refine Below.drew ?_ | with_reducible refine below_drewN ?_ _ | with_reducible refine Below.setCell ?_ ?_ _ | with_reducible refine Below.alloc ?_ ?_ _ | omega | (simp; done) | (simp; omega)))) hb60
                have Y := keepH hb60 (g := w.heap.size) (blk_old (blk_new rfl))
                have Le := keepH hb60 (g := w.heap.size + 1) (blk_new (by simp))
                have z60 := hw60.size
                clear hb60
                have cY := cellH Y
                obtain ⟨lY, lY1, lY2⟩ := ltH Y
                have cLe := cellH Le
                obtain ⟨lLe, lLe1, lLe2⟩ := ltH Le
                go_wp2_with fail
                refine (HFI.out _ (by (repeat' (first | with_reducible exact Below.refl _ _ | with_reducible assumption | with_reducible refine Below.drew ?_ | with_reducible refine below_drewN ?_ _ | with_reducible refine Below.setCell ?_ ?_ _ | with_reducible refine Below.alloc ?_ ?_ _ | omega | (simp; done) | (simp; omega))))).mono ?_
                rintro e w61 ⟨⟨n', d', err, rfl, hr⟩, hb61⟩
                have hw61 : Below w.heap.size w w61 := stepH (by (repeat' (first | with_reducible exact Below.refl _ _ | with_reducible assumption | with_reducible refine Below.drew ?_ | with_reducible refine below_drewN ?_ _ | with_reducible refine Below.setCell ?_ ?_ _ | with_reducible refine Below.alloc ?_ ?_ _ | omega | (simp; done) | (simp; omega)))) hb61
                rw [HF.out] at hr
                obtain ⟨rfl, rfl, rfl⟩ := hr
                replace Y := keepH hb61 Y.out
                replace Le := keepH hb61 Le.out
                have z61 := hw61.size
                clear hb61 hw60 z60
                clear cY lY lY1 lY2 cLe lLe lLe1 lLe2
                have cY := cellH Y
                obtain ⟨lY, lY1, lY2⟩ := ltH Y
                have cLe := cellH Le
                obtain ⟨lLe, lLe1, lLe2⟩ := ltH Le
                go_wp2_with fail
                refine (HAT.out x.num x.den _ (by (repeat' (first | with_reducible exact Below.refl _ _ | with_reducible assumption | with_reducible refine Below.drew ?_ | with_reducible refine below_drewN ?_ _ | with_reducible refine Below.setCell ?_ ?_ _ | with_reducible refine Below.alloc ?_ ?_ _ | omega | (simp; done) | (simp; omega)))) ⟨xb1, xb2⟩ ⟨xb3, xb4⟩).mono ?_
                rintro e w62 ⟨⟨n', d', err, rfl, hr⟩, hb62⟩
                have hw62 : Below w.heap.size w w62 := stepH (by (repeat' (first | with_reducible exact Below.refl _ _ | with_reducible assumption | with_reducible refine Below.drew ?_ | with_reducible refine below_drewN ?_ _ | with_reducible refine Below.setCell ?_ ?_ _ | with_reducible refine Below.alloc ?_ ?_ _ | omega | (simp; done) | (simp; omega)))) hb62
                rw [HAA.out] at hr
                obtain ⟨rfl, rfl, rfl⟩ := hr
                replace Y := keepH hb62 (blk_old Y.out)
                replace Le := keepH hb62 (blk_old Le.out)
                have Xx := keepH hb62 (g := w61.heap.size) (blk_new rfl)
                have z62 := hw62.size
                clear hb62 hw61 z61
                clear cY lY lY1 lY2 cLe lLe lLe1 lLe2
                have cY := cellH Y
                obtain ⟨lY, lY1, lY2⟩ := ltH Y
                have cLe := cellH Le
                obtain ⟨lLe, lLe1, lLe2⟩ := ltH Le
                have cXx := cellH Xx
                obtain ⟨lXx, lXx1, lXx2⟩ := ltH Xx
                go_wp2_with fail
                refine (first_same _ _ _).mono ?_
                rintro e w63 ⟨rfl, hb63⟩
                have hw63 : Below w.heap.size w w63 := stepH (by (repeat' (first | with_reducible exact Below.refl _ _ | with_reducible assumption | with_reducible refine Below.drew ?_ | with_reducible refine below_drewN ?_ _ | with_reducible refine Below.setCell ?_ ?_ _ | with_reducible refine Below.alloc ?_ ?_ _ | omega | (simp; done) | (simp; omega)))) hb63
                replace Y := keepH hb63 (blk_old Y.out)
                replace Le := keepH hb63 (blk_old Le.out)
                replace Xx := keepH hb63 (blk_old Xx.out)
                have Aa := keepH hb63 (g := w62.heap.size) (blk_new rfl)
                have z63 := hw63.size
                clear hb63 hw62 z62
                clear cY lY lY1 lY2 cLe lLe lLe1 lLe2 cXx lXx lXx1 lXx2
                have cY := cellH Y
                obtain ⟨lY, lY1, lY2⟩ := ltH Y
                have cLe := cellH Le
                obtain ⟨lLe, lLe1, lLe2⟩ := ltH Le
                have cXx := cellH Xx
                obtain ⟨lXx, lXx1, lXx2⟩ := ltH Xx
                have cAa := cellH Aa
                obtain ⟨lAa, lAa1, lAa2⟩ := ltH Aa
                go_wp2_with fail
                refine (refv_is le.num le.den true _ HV.out (by omega) (by omega) (by omega) (by omega)).mono ?_
                rintro e w64 ⟨rfl, hb64⟩
                have hw64 : Below w.heap.size w w64 := stepH (by (repeat' (first | with_reducible exact Below.refl _ _ | with_reducible assumption | with_reducible refine Below.drew ?_ | with_reducible refine below_drewN ?_ _ | with_reducible refine Below.setCell ?_ ?_ _ | with_reducible refine Below.alloc ?_ ?_ _ | omega | (simp; done) | (simp; omega)))) hb64
                replace Y := keepH hb64 Y.out
                replace Le := keepH hb64 Le.out
                replace Xx := keepH hb64 Xx.out
                replace Aa := keepH hb64 Aa.out
                have z64 := hw64.size
                clear hb64 hw63 z63
                clear cY lY lY1 lY2 cLe lLe lLe1 lLe2 cXx lXx lXx1 lXx2 cAa lAa lAa1 lAa2
                have cY := cellH Y
                obtain ⟨lY, lY1, lY2⟩ := ltH Y
                have cLe := cellH Le
                obtain ⟨lLe, lLe1, lLe2⟩ := ltH Le
                have cXx := cellH Xx
                obtain ⟨lXx, lXx1, lXx2⟩ := ltH Xx
                have cAa := cellH Aa
                obtain ⟨lAa, lAa1, lAa2⟩ := ltH Aa
                go_wp2_with fail
                refine (refSub_any x le _ HX.out HLE.out).mono ?_
                rintro e w65 ⟨⟨n', d', c', rfl, hr⟩, hb65⟩
                have hw65 : Below w.heap.size w w65 := stepH (by (repeat' (first | with_reducible exact Below.refl _ _ | with_reducible assumption | with_reducible refine Below.drew ?_ | with_reducible refine below_drewN ?_ _ | with_reducible refine Below.setCell ?_ ?_ _ | with_reducible refine Below.alloc ?_ ?_ _ | omega | (simp; done) | (simp; omega)))) hb65
                obtain ⟨rfl, rfl, hc3⟩ := resC_no hr (goodR_no (decide_eq_false HGX.out))
                clear hr
                have hcn : (c' != 0) = true := by rcases hc3 with rfl | rfl | rfl <;> decide
                clear hc3
                replace Y := keepH hb65 Y.out
                replace Le := keepH hb65 Le.out
                replace Xx := keepH hb65 Xx.out
                replace Aa := keepH hb65 Aa.out
                have z65 := hw65.size
                clear hb65 hw64 z64
                clear cY lY lY1 lY2 cLe lLe lLe1 lLe2 cXx lXx lXx1 lXx2 cAa lAa lAa1 lAa2
                have cY := cellH Y
                obtain ⟨lY, lY1, lY2⟩ := ltH Y
                have cLe := cellH Le
                obtain ⟨lLe, lLe1, lLe2⟩ := ltH Le
                have cXx := cellH Xx
                obtain ⟨lXx, lXx1, lXx2⟩ := ltH Xx
                have cAa := cellH Aa
                obtain ⟨lAa, lAa1, lAa2⟩ := ltH Aa
                go_wp2_with fail
                go_ret
                exact ⟨rfl, by (repeat' (first | with_reducible exact Below.refl _ _ | with_reducible assumption | with_reducible refine Below.drew ?_ | with_reducible refine below_drewN ?_ _ | with_reducible refine Below.setCell ?_ ?_ _ | with_reducible refine Below.alloc ?_ ?_ _ | omega | (simp; done) | (simp; omega)))⟩

end Go.Proofs.YtaoecddmbhfnmaaDoor
