/- The walk of RoundOrder. -/
import Derived.Test.YtcbglkkmblmbnaaDoorRoundLink
import Derived.Test.YtcbglkkmblmbnaaDoorFirst2
namespace Go.Proofs.YtcbglkkmblmbnaaDoor
open Go.RowKit

theorem good_neg {q : Rat} (h : Good q) : Good (-q) := by unfold Good at *; rw [Rat.neg_num, Rat.neg_den]; omega
theorem valid_num {q : Rat} (h : Good q) : validB q.num q.den = true := by rw [validB_good]; exact decide_eq_true h
/-- with the sign turned the ways turn -/
theorem round_turned {q : Rat} {mode un ud : Int} {a : Rat} (h : roundI q.num q.den mode un ud = .ok a) : roundI (-q.num) q.den (turnM mode) un ud = .ok (-a) := by
  obtain ⟨q', hq, e1, e2, hrd, hga, hc⟩ := round_ok h
  obtain rfl := fv_inj e1 e2
  rw [← Rat.neg_num, ← Rat.neg_den]
  rcases hc with ⟨rfl, rfl⟩ | ⟨m1, m2, u, hu, h0, rfl, rfl, rfl⟩
  · show roundI (-a).num (-a).den 0 un ud = _
    rw [roundI_none (valid_num (good_neg hq)) hrd, Rat.num_divInt_den]
  · have t1 : 1 ≤ turnM mode ∧ turnM mode ≤ 6 := by unfold turnM; split <;> (try split) <;> omega
    rw [roundI_good (good_neg hq) hu h0 t1.1 t1.2, roundQ_neg m1 m2]
    unfold goodR
    rw [if_pos (good_neg hga)]
/-- of two amounts the greater one's is not the lesser one -/
theorem round_le {q p : Rat} {mode un ud : Int} {a b : Rat} (h1 : roundI q.num q.den mode un ud = .ok a) (h2 : roundI p.num p.den mode un ud = .ok b) (h : q ≤ p) : a ≤ b := by
  obtain ⟨q', _, e1, e2, _, _, c1⟩ := round_ok h1
  obtain ⟨p', _, e3, e4, _, _, c2⟩ := round_ok h2
  obtain rfl := fv_inj e1 e2
  obtain rfl := fv_inj e3 e4
  rcases c1 with ⟨rfl, rfl⟩ | ⟨m1, m2, u, hu, h0, rfl, rfl, rfl⟩
  · rcases c2 with ⟨_, rfl⟩ | ⟨m3, _, _⟩
    · exact h
    · omega
  · rcases c2 with ⟨rfl, _⟩ | ⟨_, _, u', _, _, e5, e6, rfl⟩
    · omega
    · obtain rfl := fv_inj e5 e6
      exact roundQ_mono h0 h
theorem cmp_is (p q : Rat) (c : Int) (w : World) (hp : Good p) (hq : Good q) (h : cmpQ p q = c) :
    Calls Tryd.prog 15 #[.agg #[.int .i64 p.num, .int .i64 p.den], .agg #[.int .i64 q.num, .int .i64 q.den]] w fun e w' => e = .returned (.int .i64 c) ∧ Below w.heap.size w w' := by
  subst h; exact cmp_any p q w hp hq
theorem cmpQ_le {p q : Rat} (h : p ≤ q) : cmpQ p q ≤ 0 := by
  unfold cmpQ
  split
  · omega
  · rw [if_neg (by rw [Rat.not_lt]; exact h)]; omega
theorem cmpQ_ge {p q : Rat} (h : q ≤ p) : 0 ≤ cmpQ p q := by
  unfold cmpQ
  rw [if_neg (by rw [Rat.not_lt]; exact h)]
  split <;> omega
theorem cmpQ_lt {p q : Rat} (h : p < q) : cmpQ p q = -1 := by unfold cmpQ; rw [if_pos h]
theorem cmpQ_gt {p q : Rat} (h : q < p) : cmpQ p q = 1 := by unfold cmpQ; rw [if_neg (by rw [Rat.not_lt]; grind), if_pos h]
theorem cmpQ_self (p : Rat) : cmpQ p p = 0 := by unfold cmpQ; rw [if_neg Rat.lt_irrefl, if_neg Rat.lt_irrefl]

set_option maxRecDepth 100000 in
set_option maxHeartbeats 16000000 in
theorem roundOrder_walk (n1 d1 n2 d2 mode un ud : Int) (E : Nat → Addr) (w : World) (B : B5 n1 d1 mode un ud) (B' : B5 n2 d2 mode un ud) (hE : Env LS E w) (hW : Words w) :
    Calls Tryd.prog 4 #[.agg #[.int .i64 n1, .int .i64 d1], .agg #[.int .i64 n2, .int .i64 d2], .agg #[.int .i64 mode, .int .i64 un, .int .i64 ud]] w fun e w' => e = .returned (.bool true) ∧ Below w.heap.size w w' := by
  have HE := Lib.hid hE
  have HW := Lib.hid hW
  have HB := Lib.hid B
  have HB' := Lib.hid B'
  clear hE hW B B'
  cases h1 : roundI n1 d1 mode un ud
  · rename_i g
    have H1 := Lib.hid h1
    clear h1
    go_enter Tryd.func4, Tryd.ntmps4
    go_wp2_with fail
    refine (first2_any E _ (HE.out.below (by (repeat' (first | with_reducible exact Below.refl _ _ | with_reducible assumption | with_reducible refine Below.drew ?_ | with_reducible refine below_drewN ?_ _ | with_reducible refine Below.setCell ?_ ?_ _ | with_reducible refine Below.alloc ?_ ?_ _ | omega | (simp; done) | (simp; omega))))) (HW.out.below (by (repeat' (first | with_reducible exact Below.refl _ _ | with_reducible assumption | with_reducible refine Below.drew ?_ | with_reducible refine below_drewN ?_ _ | with_reducible refine Below.setCell ?_ ?_ _ | with_reducible refine Below.alloc ?_ ?_ _ | omega | (simp; done) | (simp; omega)))))).mono ?_
    rintro e w1 ⟨rfl, hb1⟩
    have hw1 : Below w.heap.size w w1 := stepH (by (repeat' (first | with_reducible exact Below.refl _ _ | with_reducible assumption | with_reducible refine Below.drew ?_ | with_reducible refine below_drewN ?_ _ | with_reducible refine Below.setCell ?_ ?_ _ | with_reducible refine Below.alloc ?_ ?_ _ | omega | (simp; done) | (simp; omega)))) hb1
    have X := keepH hb1 (g := w.heap.size) (blk_old (blk_old (blk_new rfl)))
    have Y := keepH hb1 (g := w.heap.size + 1) (blk_old (blk_new (by simp)))
    have G := keepH hb1 (g := w.heap.size + 1 + 1) (blk_new (by simp))
    have z1 := hw1.size
    clear hb1
    have cX := cellH X
    obtain ⟨lX, lX1, lX2⟩ := ltH X
    have cY := cellH Y
    obtain ⟨lY, lY1, lY2⟩ := ltH Y
    have cG := cellH G
    obtain ⟨lG, lG1, lG2⟩ := ltH G
    go_wp2_with fail
    refine (round_any n1 d1 mode un ud E _ HB.out ((HE.out.below (by (repeat' (first | with_reducible exact Below.refl _ _ | with_reducible assumption | with_reducible refine Below.drew ?_ | with_reducible refine below_drewN ?_ _ | with_reducible refine Below.setCell ?_ ?_ _ | with_reducible refine Below.alloc ?_ ?_ _ | omega | (simp; done) | (simp; omega))))).sub (by decide))).mono ?_
    rintro e w2 ⟨⟨n', d', err, rfl, hr⟩, hb2⟩
    have hw2 : Below w.heap.size w w2 := stepH (by (repeat' (first | with_reducible exact Below.refl _ _ | with_reducible assumption | with_reducible refine Below.drew ?_ | with_reducible refine below_drewN ?_ _ | with_reducible refine Below.setCell ?_ ?_ _ | with_reducible refine Below.alloc ?_ ?_ _ | omega | (simp; done) | (simp; omega)))) hb2
    rw [H1.out] at hr
    obtain ⟨rfl, rfl, rfl⟩ := hr
    replace X := keepH hb2 X.out
    replace Y := keepH hb2 Y.out
    replace G := keepH hb2 G.out
    have z2 := hw2.size
    clear hb2 hw1 z1
    clear cX lX lX1 lX2 cY lY lY1 lY2 cG lG lG1 lG2
    have cX := cellH X
    obtain ⟨lX, lX1, lX2⟩ := ltH X
    have cY := cellH Y
    obtain ⟨lY, lY1, lY2⟩ := ltH Y
    have cG := cellH G
    obtain ⟨lG, lG1, lG2⟩ := ltH G
    go_wp2_with fail
    refine (round_any n2 d2 mode un ud E _ HB'.out ((HE.out.below (by (repeat' (first | with_reducible exact Below.refl _ _ | with_reducible assumption | with_reducible refine Below.drew ?_ | with_reducible refine below_drewN ?_ _ | with_reducible refine Below.setCell ?_ ?_ _ | with_reducible refine Below.alloc ?_ ?_ _ | omega | (simp; done) | (simp; omega))))).sub (by decide))).mono ?_
    rintro e w3 ⟨⟨n2', d2', err2, rfl, hr2⟩, hb3⟩
    have hw3 : Below w.heap.size w w3 := stepH (by (repeat' (first | with_reducible exact Below.refl _ _ | with_reducible assumption | with_reducible refine Below.drew ?_ | with_reducible refine below_drewN ?_ _ | with_reducible refine Below.setCell ?_ ?_ _ | with_reducible refine Below.alloc ?_ ?_ _ | omega | (simp; done) | (simp; omega)))) hb3
    clear hr2
    replace X := keepH hb3 (blk_old X.out)
    replace Y := keepH hb3 (blk_old Y.out)
    replace G := keepH hb3 (blk_old G.out)
    have A := keepH hb3 (g := w2.heap.size) (blk_new rfl)
    have z3 := hw3.size
    clear hb3 hw2 z2
    clear cX lX lX1 lX2 cY lY lY1 lY2 cG lG lG1 lG2
    have cX := cellH X
    obtain ⟨lX, lX1, lX2⟩ := ltH X
    have cY := cellH Y
    obtain ⟨lY, lY1, lY2⟩ := ltH Y
    have cG := cellH G
    obtain ⟨lG, lG1, lG2⟩ := ltH G
    have cA := cellH A
    obtain ⟨lA, lA1, lA2⟩ := ltH A
    go_wp2_with fail
    go_ret
    exact ⟨rfl, by (repeat' (first | with_reducible exact Below.refl _ _ | with_reducible assumption | with_reducible refine Below.drew ?_ | with_reducible refine below_drewN ?_ _ | with_reducible refine Below.setCell ?_ ?_ _ | with_reducible refine Below.alloc ?_ ?_ _ | omega | (simp; done) | (simp; omega)))⟩
  · rename_i a
    obtain ⟨q, hq, rfl, rfl, _, hga, _⟩ := round_ok h1
    have H1 := Lib.hid h1
    have HQ := Lib.hid hq
    have HA := Lib.hid hga
    have NQ := num_le hq
    have NA := num_le hga
    clear h1 hq hga
    go_enter Tryd.func4, Tryd.ntmps4
    go_wp2_with fail
    refine (first2_any E _ (HE.out.below (by (repeat' (first | with_reducible exact Below.refl _ _ | with_reducible assumption | with_reducible refine Below.drew ?_ | with_reducible refine below_drewN ?_ _ | with_reducible refine Below.setCell ?_ ?_ _ | with_reducible refine Below.alloc ?_ ?_ _ | omega | (simp; done) | (simp; omega))))) (HW.out.below (by (repeat' (first | with_reducible exact Below.refl _ _ | with_reducible assumption | with_reducible refine Below.drew ?_ | with_reducible refine below_drewN ?_ _ | with_reducible refine Below.setCell ?_ ?_ _ | with_reducible refine Below.alloc ?_ ?_ _ | omega | (simp; done) | (simp; omega)))))).mono ?_
    rintro e w1 ⟨rfl, hb1⟩
    have hw1 : Below w.heap.size w w1 := stepH (by (repeat' (first | with_reducible exact Below.refl _ _ | with_reducible assumption | with_reducible refine Below.drew ?_ | with_reducible refine below_drewN ?_ _ | with_reducible refine Below.setCell ?_ ?_ _ | with_reducible refine Below.alloc ?_ ?_ _ | omega | (simp; done) | (simp; omega)))) hb1
    have X := keepH hb1 (g := w.heap.size) (blk_old (blk_old (blk_new rfl)))
    have Y := keepH hb1 (g := w.heap.size + 1) (blk_old (blk_new (by simp)))
    have G := keepH hb1 (g := w.heap.size + 1 + 1) (blk_new (by simp))
    have z1 := hw1.size
    clear hb1
    have cX := cellH X
    obtain ⟨lX, lX1, lX2⟩ := ltH X
    have cY := cellH Y
    obtain ⟨lY, lY1, lY2⟩ := ltH Y
    have cG := cellH G
    obtain ⟨lG, lG1, lG2⟩ := ltH G
    go_wp2_with fail
    refine (round_any q.num q.den mode un ud E _ HB.out ((HE.out.below (by (repeat' (first | with_reducible exact Below.refl _ _ | with_reducible assumption | with_reducible refine Below.drew ?_ | with_reducible refine below_drewN ?_ _ | with_reducible refine Below.setCell ?_ ?_ _ | with_reducible refine Below.alloc ?_ ?_ _ | omega | (simp; done) | (simp; omega))))).sub (by decide))).mono ?_
    rintro e w2 ⟨⟨n', d', err, rfl, hr⟩, hb2⟩
    have hw2 : Below w.heap.size w w2 := stepH (by (repeat' (first | with_reducible exact Below.refl _ _ | with_reducible assumption | with_reducible refine Below.drew ?_ | with_reducible refine below_drewN ?_ _ | with_reducible refine Below.setCell ?_ ?_ _ | with_reducible refine Below.alloc ?_ ?_ _ | omega | (simp; done) | (simp; omega)))) hb2
    rw [H1.out] at hr
    obtain ⟨rfl, rfl, rfl⟩ := hr
    replace X := keepH hb2 X.out
    replace Y := keepH hb2 Y.out
    replace G := keepH hb2 G.out
    have z2 := hw2.size
    clear hb2 hw1 z1
    clear cX lX lX1 lX2 cY lY lY1 lY2 cG lG lG1 lG2
    have cX := cellH X
    obtain ⟨lX, lX1, lX2⟩ := ltH X
    have cY := cellH Y
    obtain ⟨lY, lY1, lY2⟩ := ltH Y
    have cG := cellH G
    obtain ⟨lG, lG1, lG2⟩ := ltH G
    go_wp2_with fail
    refine (round_any n2 d2 mode un ud E _ HB'.out ((HE.out.below (by (repeat' (first | with_reducible exact Below.refl _ _ | with_reducible assumption | with_reducible refine Below.drew ?_ | with_reducible refine below_drewN ?_ _ | with_reducible refine Below.setCell ?_ ?_ _ | with_reducible refine Below.alloc ?_ ?_ _ | omega | (simp; done) | (simp; omega))))).sub (by decide))).mono ?_
    rintro e w3 ⟨⟨n2', d2', err2, rfl, hr2⟩, hb3⟩
    have hw3 : Below w.heap.size w w3 := stepH (by (repeat' (first | with_reducible exact Below.refl _ _ | with_reducible assumption | with_reducible refine Below.drew ?_ | with_reducible refine below_drewN ?_ _ | with_reducible refine Below.setCell ?_ ?_ _ | with_reducible refine Below.alloc ?_ ?_ _ | omega | (simp; done) | (simp; omega)))) hb3
    replace X := keepH hb3 (blk_old X.out)
    replace Y := keepH hb3 (blk_old Y.out)
    replace G := keepH hb3 (blk_old G.out)
    have A := keepH hb3 (g := w2.heap.size) (blk_new rfl)
    have z3 := hw3.size
    clear hb3 hw2 z2
    clear cX lX lX1 lX2 cY lY lY1 lY2 cG lG lG1 lG2
    have cX := cellH X
    obtain ⟨lX, lX1, lX2⟩ := ltH X
    have cY := cellH Y
    obtain ⟨lY, lY1, lY2⟩ := ltH Y
    have cG := cellH G
    obtain ⟨lG, lG1, lG2⟩ := ltH G
    have cA := cellH A
    obtain ⟨lA, lA1, lA2⟩ := ltH A
    go_upto_region 6 with fail
    go_cut [64] (fun s64 wx => s64 = .bool false ∧ Below w.heap.size w wx ∧ Hid (wx.heap[w.heap.size]? = some (.cells #[.int .i64 q.num, .int .i64 q.den] 30 (0, 0))) ∧ Hid (wx.heap[w.heap.size + 1]? = some (.cells #[.int .i64 n2, .int .i64 d2] 30 (0, 0))) ∧ Hid (wx.heap[w.heap.size + 1 + 1]? = some (.cells #[.int .i64 mode, .int .i64 un, .int .i64 ud] 32 (0, 0))) ∧ Hid (wx.heap[w2.heap.size]? = some (.cells #[.int .i64 a.num, .int .i64 a.den] 30 (0, 0))) ∧ Hid (wx.heap[w3.heap.size]? = some (.cells #[.int .i64 n2', .int .i64 d2'] 30 (0, 0))))
    case first =>
      cases h2 : roundI n2 d2 mode un ud
      · rename_i g2
        rw [h2] at hr2
        obtain ⟨rfl, rfl, rfl⟩ := hr2
        have hen := fun w => eql_nil (E g2) w
        go_wp2_with fail
        go_meet
        exact ⟨rfl, (by (repeat' (first | with_reducible exact Below.refl _ _ | with_reducible assumption | with_reducible refine Below.drew ?_ | with_reducible refine below_drewN ?_ _ | with_reducible refine Below.setCell ?_ ?_ _ | with_reducible refine Below.alloc ?_ ?_ _ | omega | (simp; done) | (simp; omega)))), (blk_old X.out), (blk_old Y.out), (blk_old G.out), (blk_old A.out), (blk_new rfl)⟩
      · rename_i b
        rw [h2] at hr2
        obtain ⟨rfl, rfl, rfl⟩ := hr2
        obtain ⟨p, hp, rfl, rfl, _, hgb, _⟩ := round_ok h2
        have L1 := Lib.hid (round_le H1.out h2)
        have L2 := Lib.hid (round_le h2 H1.out)
        have HP := Lib.hid hp
        have HBb := Lib.hid hgb
        clear h2 hp hgb
        have hw4 : Below w.heap.size w (w3.alloc (.cells #[.int .i64 b.num, .int .i64 b.den] 30)) := by (repeat' (first | with_reducible exact Below.refl _ _ | with_reducible assumption | with_reducible refine Below.drew ?_ | with_reducible refine below_drewN ?_ _ | with_reducible refine Below.setCell ?_ ?_ _ | with_reducible refine Below.alloc ?_ ?_ _ | omega | (simp; done) | (simp; omega)))
        replace X : Hid ((w3.alloc (.cells #[.int .i64 b.num, .int .i64 b.den] 30)).heap[w.heap.size]? = some (.cells #[.int .i64 q.num, .int .i64 q.den] 30 (0, 0))) := (blk_old X.out)
        replace Y : Hid ((w3.alloc (.cells #[.int .i64 b.num, .int .i64 b.den] 30)).heap[w.heap.size + 1]? = some (.cells #[.int .i64 p.num, .int .i64 p.den] 30 (0, 0))) := (blk_old Y.out)
        replace G : Hid ((w3.alloc (.cells #[.int .i64 b.num, .int .i64 b.den] 30)).heap[w.heap.size + 1 + 1]? = some (.cells #[.int .i64 mode, .int .i64 un, .int .i64 ud] 32 (0, 0))) := (blk_old G.out)
        replace A : Hid ((w3.alloc (.cells #[.int .i64 b.num, .int .i64 b.den] 30)).heap[w2.heap.size]? = some (.cells #[.int .i64 a.num, .int .i64 a.den] 30 (0, 0))) := (blk_old A.out)
        have B : Hid ((w3.alloc (.cells #[.int .i64 b.num, .int .i64 b.den] 30)).heap[w3.heap.size]? = some (.cells #[.int .i64 b.num, .int .i64 b.den] 30 (0, 0))) := (blk_new rfl)
        clear cX lX lX1 lX2 cY lY lY1 lY2 cG lG lG1 lG2 cA lA lA1 lA2
        generalize (w3.alloc (.cells #[.int .i64 b.num, .int .i64 b.den] 30)) = w4 at *
        have z4 := hw4.size
        have cX := cellH X
        obtain ⟨lX, lX1, lX2⟩ := ltH X
        have cY := cellH Y
        obtain ⟨lY, lY1, lY2⟩ := ltH Y
        have cG := cellH G
        obtain ⟨lG, lG1, lG2⟩ := ltH G
        have cA := cellH A
        obtain ⟨lA, lA1, lA2⟩ := ltH A
        have cB := cellH B
        obtain ⟨lB, lB1, lB2⟩ := ltH B
        have tri : q < p ∨ q = p ∨ p < q := by grind
        rcases tri with tri | tri | tri
        · have C2 := cmpQ_le (L1.out (by grind))
          generalize hcc : cmpQ a b = cc at C2
          have hcc := Lib.hid hcc
          go_wp2_with fail
          refine (cmp_is q p (-1) _ HQ.out HP.out (cmpQ_lt tri)).mono ?_
          rintro e w5 ⟨rfl, hb5⟩
          have hw5 : Below w.heap.size w w5 := stepH (by (repeat' (first | with_reducible exact Below.refl _ _ | with_reducible assumption | with_reducible refine Below.drew ?_ | with_reducible refine below_drewN ?_ _ | with_reducible refine Below.setCell ?_ ?_ _ | with_reducible refine Below.alloc ?_ ?_ _ | omega | (simp; done) | (simp; omega)))) hb5
          replace X := keepH hb5 X.out
          replace Y := keepH hb5 Y.out
          replace G := keepH hb5 G.out
          replace A := keepH hb5 A.out
          replace B := keepH hb5 B.out
          have z5 := hw5.size
          clear hb5 hw4 z4
          clear cX lX lX1 lX2 cY lY lY1 lY2 cG lG lG1 lG2 cA lA lA1 lA2 cB lB lB1 lB2
          have cX := cellH X
          obtain ⟨lX, lX1, lX2⟩ := ltH X
          have cY := cellH Y
          obtain ⟨lY, lY1, lY2⟩ := ltH Y
          have cG := cellH G
          obtain ⟨lG, lG1, lG2⟩ := ltH G
          have cA := cellH A
          obtain ⟨lA, lA1, lA2⟩ := ltH A
          have cB := cellH B
          obtain ⟨lB, lB1, lB2⟩ := ltH B
          go_wp2_with fail
          refine (cmp_is a b cc _ HA.out HBb.out hcc.out).mono ?_
          rintro e w6 ⟨rfl, hb6⟩
          have hw6 : Below w.heap.size w w6 := stepH (by (repeat' (first | with_reducible exact Below.refl _ _ | with_reducible assumption | with_reducible refine Below.drew ?_ | with_reducible refine below_drewN ?_ _ | with_reducible refine Below.setCell ?_ ?_ _ | with_reducible refine Below.alloc ?_ ?_ _ | omega | (simp; done) | (simp; omega)))) hb6
          replace X := keepH hb6 X.out
          replace Y := keepH hb6 Y.out
          replace G := keepH hb6 G.out
          replace A := keepH hb6 A.out
          replace B := keepH hb6 B.out
          have z6 := hw6.size
          clear hb6 hw5 z5
          clear cX lX lX1 lX2 cY lY lY1 lY2 cG lG lG1 lG2 cA lA lA1 lA2 cB lB lB1 lB2
          have cX := cellH X
          obtain ⟨lX, lX1, lX2⟩ := ltH X
          have cY := cellH Y
          obtain ⟨lY, lY1, lY2⟩ := ltH Y
          have cG := cellH G
          obtain ⟨lG, lG1, lG2⟩ := ltH G
          have cA := cellH A
          obtain ⟨lA, lA1, lA2⟩ := ltH A
          have cB := cellH B
          obtain ⟨lB, lB1, lB2⟩ := ltH B
          go_wp2_with fail
          refine (cmp_is q p (-1) _ HQ.out HP.out (cmpQ_lt tri)).mono ?_
          rintro e w7 ⟨rfl, hb7⟩
          have hw7 : Below w.heap.size w w7 := stepH (by (repeat' (first | with_reducible exact Below.refl _ _ | with_reducible assumption | with_reducible refine Below.drew ?_ | with_reducible refine below_drewN ?_ _ | with_reducible refine Below.setCell ?_ ?_ _ | with_reducible refine Below.alloc ?_ ?_ _ | omega | (simp; done) | (simp; omega)))) hb7
          replace X := keepH hb7 X.out
          replace Y := keepH hb7 Y.out
          replace G := keepH hb7 G.out
          replace A := keepH hb7 A.out
          replace B := keepH hb7 B.out
          have z7 := hw7.size
          clear hb7 hw6 z6
          clear cX lX lX1 lX2 cY lY lY1 lY2 cG lG lG1 lG2 cA lA lA1 lA2 cB lB lB1 lB2
          have cX := cellH X
          obtain ⟨lX, lX1, lX2⟩ := ltH X
          have cY := cellH Y
          obtain ⟨lY, lY1, lY2⟩ := ltH Y
          have cG := cellH G
          obtain ⟨lG, lG1, lG2⟩ := ltH G
          have cA := cellH A
          obtain ⟨lA, lA1, lA2⟩ := ltH A
          have cB := cellH B
          obtain ⟨lB, lB1, lB2⟩ := ltH B
          go_wp2_with fail
          go_meet
          exact ⟨(congrArg Value.bool (decide_eq_false (by omega))), (by (repeat' (first | with_reducible exact Below.refl _ _ | with_reducible assumption | with_reducible refine Below.drew ?_ | with_reducible refine below_drewN ?_ _ | with_reducible refine Below.setCell ?_ ?_ _ | with_reducible refine Below.alloc ?_ ?_ _ | omega | (simp; done) | (simp; omega)))), X, Y, G, A, B⟩
        · subst tri
          obtain rfl : a = b := by have := L1.out Rat.le_refl; have := L2.out Rat.le_refl; grind
          go_wp2_with fail
          refine (cmp_is q q (0) _ HQ.out HP.out (cmpQ_self _)).mono ?_
          rintro e w8 ⟨rfl, hb8⟩
          have hw8 : Below w.heap.size w w8 := stepH (by (repeat' (first | with_reducible exact Below.refl _ _ | with_reducible assumption | with_reducible refine Below.drew ?_ | with_reducible refine below_drewN ?_ _ | with_reducible refine Below.setCell ?_ ?_ _ | with_reducible refine Below.alloc ?_ ?_ _ | omega | (simp; done) | (simp; omega)))) hb8
          replace X := keepH hb8 X.out
          replace Y := keepH hb8 Y.out
          replace G := keepH hb8 G.out
          replace A := keepH hb8 A.out
          replace B := keepH hb8 B.out
          have z8 := hw8.size
          clear hb8 hw4 z4
          clear cX lX lX1 lX2 cY lY lY1 lY2 cG lG lG1 lG2 cA lA lA1 lA2 cB lB lB1 lB2
          have cX := cellH X
          obtain ⟨lX, lX1, lX2⟩ := ltH X
          have cY := cellH Y
          obtain ⟨lY, lY1, lY2⟩ := ltH Y
          have cG := cellH G
          obtain ⟨lG, lG1, lG2⟩ := ltH G
          have cA := cellH A
          obtain ⟨lA, lA1, lA2⟩ := ltH A
          have cB := cellH B
          obtain ⟨lB, lB1, lB2⟩ := ltH B
          go_wp2_with fail
          refine (cmp_is a a 0 _ HA.out HA.out (cmpQ_self _)).mono ?_
          rintro e w9 ⟨rfl, hb9⟩
          have hw9 : Below w.heap.size w w9 := stepH (by (repeat' (first | with_reducible exact Below.refl _ _ | with_reducible assumption | with_reducible refine Below.drew ?_ | with_reducible refine below_drewN ?_ _ | with_reducible refine Below.setCell ?_ ?_ _ | with_reducible refine Below.alloc ?_ ?_ _ | omega | (simp; done) | (simp; omega)))) hb9
          replace X := keepH hb9 X.out
          replace Y := keepH hb9 Y.out
          replace G := keepH hb9 G.out
          replace A := keepH hb9 A.out
          replace B := keepH hb9 B.out
          have z9 := hw9.size
          clear hb9 hw8 z8
          clear cX lX lX1 lX2 cY lY lY1 lY2 cG lG lG1 lG2 cA lA lA1 lA2 cB lB lB1 lB2
          have cX := cellH X
          obtain ⟨lX, lX1, lX2⟩ := ltH X
          have cY := cellH Y
          obtain ⟨lY, lY1, lY2⟩ := ltH Y
          have cG := cellH G
          obtain ⟨lG, lG1, lG2⟩ := ltH G
          have cA := cellH A
          obtain ⟨lA, lA1, lA2⟩ := ltH A
          have cB := cellH B
          obtain ⟨lB, lB1, lB2⟩ := ltH B
          go_wp2_with fail
          refine (cmp_is q q (0) _ HQ.out HP.out (cmpQ_self _)).mono ?_
          rintro e w10 ⟨rfl, hb10⟩
          have hw10 : Below w.heap.size w w10 := stepH (by (repeat' (first | with_reducible exact Below.refl _ _ | with_reducible assumption | with_reducible refine Below.drew ?_ | with_reducible refine below_drewN ?_ _ | with_reducible refine Below.setCell ?_ ?_ _ | with_reducible refine Below.alloc ?_ ?_ _ | omega | (simp; done) | (simp; omega)))) hb10
          replace X := keepH hb10 X.out
          replace Y := keepH hb10 Y.out
          replace G := keepH hb10 G.out
          replace A := keepH hb10 A.out
          replace B := keepH hb10 B.out
          have z10 := hw10.size
          clear hb10 hw9 z9
          clear cX lX lX1 lX2 cY lY lY1 lY2 cG lG lG1 lG2 cA lA lA1 lA2 cB lB lB1 lB2
          have cX := cellH X
          obtain ⟨lX, lX1, lX2⟩ := ltH X
          have cY := cellH Y
          obtain ⟨lY, lY1, lY2⟩ := ltH Y
          have cG := cellH G
          obtain ⟨lG, lG1, lG2⟩ := ltH G
          have cA := cellH A
          obtain ⟨lA, lA1, lA2⟩ := ltH A
          have cB := cellH B
          obtain ⟨lB, lB1, lB2⟩ := ltH B
          go_wp2_with fail
          refine (cmp_is a a 0 _ HA.out HA.out (cmpQ_self _)).mono ?_
          rintro e w11 ⟨rfl, hb11⟩
          have hw11 : Below w.heap.size w w11 := stepH (by (repeat' (first | with_reducible exact Below.refl _ _ | with_reducible assumption | with_reducible refine Below.drew ?_ | with_reducible refine below_drewN ?_ _ | with_reducible refine Below.setCell ?_ ?_ _ | with_reducible refine Below.alloc ?_ ?_ _ | omega | (simp; done) | (simp; omega)))) hb11
          replace X := keepH hb11 X.out
          replace Y := keepH hb11 Y.out
          replace G := keepH hb11 G.out
          replace A := keepH hb11 A.out
          replace B := keepH hb11 B.out
          have z11 := hw11.size
          clear hb11 hw10 z10
          clear cX lX lX1 lX2 cY lY lY1 lY2 cG lG lG1 lG2 cA lA lA1 lA2 cB lB lB1 lB2
          have cX := cellH X
          obtain ⟨lX, lX1, lX2⟩ := ltH X
          have cY := cellH Y
          obtain ⟨lY, lY1, lY2⟩ := ltH Y
          have cG := cellH G
          obtain ⟨lG, lG1, lG2⟩ := ltH G
          have cA := cellH A
          obtain ⟨lA, lA1, lA2⟩ := ltH A
          have cB := cellH B
          obtain ⟨lB, lB1, lB2⟩ := ltH B
          go_wp2_with fail
          go_meet
          exact ⟨rfl, (by (repeat' (first | with_reducible exact Below.refl _ _ | with_reducible assumption | with_reducible refine Below.drew ?_ | with_reducible refine below_drewN ?_ _ | with_reducible refine Below.setCell ?_ ?_ _ | with_reducible refine Below.alloc ?_ ?_ _ | omega | (simp; done) | (simp; omega)))), X, Y, G, A, B⟩
        · have C2 := cmpQ_ge (L2.out (by grind))
          generalize hcc : cmpQ a b = cc at C2
          have hcc := Lib.hid hcc
          go_wp2_with fail
          refine (cmp_is q p (1) _ HQ.out HP.out (cmpQ_gt tri)).mono ?_
          rintro e w12 ⟨rfl, hb12⟩
          have hw12 : Below w.heap.size w w12 := stepH (by (repeat' (first | with_reducible exact Below.refl _ _ | with_reducible assumption | with_reducible refine Below.drew ?_ | with_reducible refine below_drewN ?_ _ | with_reducible refine Below.setCell ?_ ?_ _ | with_reducible refine Below.alloc ?_ ?_ _ | omega | (simp; done) | (simp; omega)))) hb12
          replace X := keepH hb12 X.out
          replace Y := keepH hb12 Y.out
          replace G := keepH hb12 G.out
          replace A := keepH hb12 A.out
          replace B := keepH hb12 B.out
          have z12 := hw12.size
          clear hb12 hw4 z4
          clear cX lX lX1 lX2 cY lY lY1 lY2 cG lG lG1 lG2 cA lA lA1 lA2 cB lB lB1 lB2
          have cX := cellH X
          obtain ⟨lX, lX1, lX2⟩ := ltH X
          have cY := cellH Y
          obtain ⟨lY, lY1, lY2⟩ := ltH Y
          have cG := cellH G
          obtain ⟨lG, lG1, lG2⟩ := ltH G
          have cA := cellH A
          obtain ⟨lA, lA1, lA2⟩ := ltH A
          have cB := cellH B
          obtain ⟨lB, lB1, lB2⟩ := ltH B
          go_wp2_with fail
          refine (cmp_is q p (1) _ HQ.out HP.out (cmpQ_gt tri)).mono ?_
          rintro e w13 ⟨rfl, hb13⟩
          have hw13 : Below w.heap.size w w13 := stepH (by (repeat' (first | with_reducible exact Below.refl _ _ | with_reducible assumption | with_reducible refine Below.drew ?_ | with_reducible refine below_drewN ?_ _ | with_reducible refine Below.setCell ?_ ?_ _ | with_reducible refine Below.alloc ?_ ?_ _ | omega | (simp; done) | (simp; omega)))) hb13
          replace X := keepH hb13 X.out
          replace Y := keepH hb13 Y.out
          replace G := keepH hb13 G.out
          replace A := keepH hb13 A.out
          replace B := keepH hb13 B.out
          have z13 := hw13.size
          clear hb13 hw12 z12
          clear cX lX lX1 lX2 cY lY lY1 lY2 cG lG lG1 lG2 cA lA lA1 lA2 cB lB lB1 lB2
          have cX := cellH X
          obtain ⟨lX, lX1, lX2⟩ := ltH X
          have cY := cellH Y
          obtain ⟨lY, lY1, lY2⟩ := ltH Y
          have cG := cellH G
          obtain ⟨lG, lG1, lG2⟩ := ltH G
          have cA := cellH A
          obtain ⟨lA, lA1, lA2⟩ := ltH A
          have cB := cellH B
          obtain ⟨lB, lB1, lB2⟩ := ltH B
          go_wp2_with fail
          refine (cmp_is a b cc _ HA.out HBb.out hcc.out).mono ?_
          rintro e w14 ⟨rfl, hb14⟩
          have hw14 : Below w.heap.size w w14 := stepH (by (repeat' (first | with_reducible exact Below.refl _ _ | with_reducible assumption | with_reducible refine Below.drew ?_ | with_reducible refine below_drewN ?_ _ | with_reducible refine Below.setCell ?_ ?_ _ | with_reducible refine Below.alloc ?_ ?_ _ | omega | (simp; done) | (simp; omega)))) hb14
          replace X := keepH hb14 X.out
          replace Y := keepH hb14 Y.out
          replace G := keepH hb14 G.out
          replace A := keepH hb14 A.out
          replace B := keepH hb14 B.out
          have z14 := hw14.size
          clear hb14 hw13 z13
          clear cX lX lX1 lX2 cY lY lY1 lY2 cG lG lG1 lG2 cA lA lA1 lA2 cB lB lB1 lB2
          have cX := cellH X
          obtain ⟨lX, lX1, lX2⟩ := ltH X
          have cY := cellH Y
          obtain ⟨lY, lY1, lY2⟩ := ltH Y
          have cG := cellH G
          obtain ⟨lG, lG1, lG2⟩ := ltH G
          have cA := cellH A
          obtain ⟨lA, lA1, lA2⟩ := ltH A
          have cB := cellH B
          obtain ⟨lB, lB1, lB2⟩ := ltH B
          go_wp2_with fail
          go_meet
          exact ⟨(congrArg Value.bool (decide_eq_false (by omega))), (by (repeat' (first | with_reducible exact Below.refl _ _ | with_reducible assumption | with_reducible refine Below.drew ?_ | with_reducible refine below_drewN ?_ _ | with_reducible refine Below.setCell ?_ ?_ _ | with_reducible refine Below.alloc ?_ ?_ _ | omega | (simp; done) | (simp; omega)))), X, Y, G, A, B⟩
    case rest =>
      as_aux_lemma =>
        clear cX lX lX1 lX2 cY lY lY1 lY2 cG lG lG1 lG2 cA lA lA1 lA2
        clear X Y G A
        obtain ⟨rfl, hw15, X, Y, G, A, B⟩ := hcut
        obtain ⟨w15, rfl⟩ : ∃ x : World, x = wc := ⟨_, rfl⟩
        have z15 := hw15.size
        have cX := cellH X
        obtain ⟨lX, lX1, lX2⟩ := ltH X
        have cY := cellH Y
        obtain ⟨lY, lY1, lY2⟩ := ltH Y
        have cG := cellH G
        obtain ⟨lG, lG1, lG2⟩ := ltH G
        have cA := cellH A
        obtain ⟨lA, lA1, lA2⟩ := ltH A
        have cB := cellH B
        obtain ⟨lB, lB1, lB2⟩ := ltH B
        have HT := Lib.hid (round_turned H1.out)
        have hm : mode = 3 ∨ mode = 4 ∨ (mode ≠ 3 ∧ mode ≠ 4) := by omega
        rcases hm with rfl | rfl | ⟨hm3, hm4⟩
        · have HTM : Hid (turnM 3 = 4) := rfl
          have HT2 : Hid (roundI (-q.num) q.den (4) un ud = .ok (-a)) := by rw [← HTM.out]; exact HT.out
          go_upto_region 14 with fail
          have hw16 : Below w.heap.size w (w15.alloc (.cells #[.int .i64 (4), .int .i64 un, .int .i64 ud] 32)) := by (repeat' (first | with_reducible exact Below.refl _ _ | with_reducible assumption | with_reducible refine Below.drew ?_ | with_reducible refine below_drewN ?_ _ | with_reducible refine Below.setCell ?_ ?_ _ | with_reducible refine Below.alloc ?_ ?_ _ | omega | (simp; done) | (simp; omega)))
          replace X : Hid ((w15.alloc (.cells #[.int .i64 (4), .int .i64 un, .int .i64 ud] 32)).heap[w.heap.size]? = some (.cells #[.int .i64 q.num, .int .i64 q.den] 30 (0, 0))) := (blk_old X.out)
          replace G : Hid ((w15.alloc (.cells #[.int .i64 (4), .int .i64 un, .int .i64 ud] 32)).heap[w.heap.size + 1 + 1]? = some (.cells #[.int .i64 3, .int .i64 un, .int .i64 ud] 32 (0, 0))) := (blk_old G.out)
          replace A : Hid ((w15.alloc (.cells #[.int .i64 (4), .int .i64 un, .int .i64 ud] 32)).heap[w2.heap.size]? = some (.cells #[.int .i64 a.num, .int .i64 a.den] 30 (0, 0))) := (blk_old A.out)
          have Tn : Hid ((w15.alloc (.cells #[.int .i64 (4), .int .i64 un, .int .i64 ud] 32)).heap[w15.heap.size]? = some (.cells #[.int .i64 (4), .int .i64 un, .int .i64 ud] 32 (0, 0))) := (blk_new rfl)
          clear cX lX lX1 lX2 cY lY lY1 lY2 cG lG lG1 lG2 cA lA lA1 lA2 cB lB lB1 lB2
          generalize (w15.alloc (.cells #[.int .i64 (4), .int .i64 un, .int .i64 ud] 32)) = w16 at *
          have z16 := hw16.size
          have cX := cellH X
          obtain ⟨lX, lX1, lX2⟩ := ltH X
          have cG := cellH G
          obtain ⟨lG, lG1, lG2⟩ := ltH G
          have cA := cellH A
          obtain ⟨lA, lA1, lA2⟩ := ltH A
          have cTn := cellH Tn
          obtain ⟨lTn, lTn1, lTn2⟩ := ltH Tn
          go_cut [13, 14] (fun s13 s14 wx => ∃ g : Nat, s13 = .pointer (some ⟨g, 0, none⟩) ∧ s14 = .nilIface ∧ Below w.heap.size w wx ∧ Hid (wx.heap[w.heap.size]? = some (.cells #[.int .i64 q.num, .int .i64 q.den] 30 (0, 0))) ∧ Hid (wx.heap[w.heap.size + 1 + 1]? = some (.cells #[.int .i64 3, .int .i64 un, .int .i64 ud] 32 (0, 0))) ∧ Hid (wx.heap[w2.heap.size]? = some (.cells #[.int .i64 a.num, .int .i64 a.den] 30 (0, 0))) ∧ Hid (wx.heap[w15.heap.size]? = some (.cells #[.int .i64 (4), .int .i64 un, .int .i64 ud] 32 (0, 0))) ∧ Hid (wx.heap[g]? = some (.cells #[.int .i64 (-a.num), .int .i64 a.den] 30 (0, 0))))
          case first =>
            as_aux_lemma =>
              clear cX lX lX1 lX2 cG lG lG1 lG2 cA lA lA1 lA2 cTn lTn lTn1 lTn2
              have kX0 : w16.cell? ⟨w.heap.size, 0, none⟩ = some (.int .i64 q.num) := cellH X 0
              have kX1 : w16.cell? ⟨w.heap.size, 1, none⟩ = some (.int .i64 q.den) := cellH X 1
              have kTn0 : w16.cell? ⟨w15.heap.size, 0, none⟩ = some (.int .i64 (4)) := cellH Tn 0
              have kTn1 : w16.cell? ⟨w15.heap.size, 1, none⟩ = some (.int .i64 un) := cellH Tn 1
              have kTn2 : w16.cell? ⟨w15.heap.size, 2, none⟩ = some (.int .i64 ud) := cellH Tn 2
              have lX := lt_of_H X
              have nX : w.heap.size ≠ w16.heap.size := Nat.ne_of_lt lX
              have lG := lt_of_H G
              have nG : w.heap.size + 1 + 1 ≠ w16.heap.size := Nat.ne_of_lt lG
              have lA := lt_of_H A
              have nA : w2.heap.size ≠ w16.heap.size := Nat.ne_of_lt lA
              have lTn := lt_of_H Tn
              have nTn : w15.heap.size ≠ w16.heap.size := Nat.ne_of_lt lTn
              have BT : Hid (B5 (-q.num) q.den (4) un ud) := by obtain ⟨b1, b2, b3, b4, b5⟩ := HB.out; exact ⟨⟨by omega, by omega⟩, b2, ⟨by omega, by omega⟩, b4, b5⟩
              go_region_held3 (fun w' => w'.cell? ⟨w.heap.size, 0, none⟩ = some (.int .i64 q.num) ∧ w'.cell? ⟨w.heap.size, 1, none⟩ = some (.int .i64 q.den) ∧ w'.cell? ⟨w15.heap.size, 0, none⟩ = some (.int .i64 (4)) ∧ w'.cell? ⟨w15.heap.size, 1, none⟩ = some (.int .i64 un) ∧ w'.cell? ⟨w15.heap.size, 2, none⟩ = some (.int .i64 ud)) (first | with_reducible exact ⟨kX0, kX1, kTn0, kTn1, kTn2⟩ | with_reducible exact ⟨cell_set (cell_set kX0 (by first | assumption | (dsimp only; assumption) | (dsimp only; omega))) (by first | assumption | (dsimp only; assumption) | (dsimp only; omega)), cell_set (cell_set kX1 (by first | assumption | (dsimp only; assumption) | (dsimp only; omega))) (by first | assumption | (dsimp only; assumption) | (dsimp only; omega)), cell_set (cell_set kTn0 (by first | assumption | (dsimp only; assumption) | (dsimp only; omega))) (by first | assumption | (dsimp only; assumption) | (dsimp only; omega)), cell_set (cell_set kTn1 (by first | assumption | (dsimp only; assumption) | (dsimp only; omega))) (by first | assumption | (dsimp only; assumption) | (dsimp only; omega)), cell_set (cell_set kTn2 (by first | assumption | (dsimp only; assumption) | (dsimp only; omega))) (by first | assumption | (dsimp only; assumption) | (dsimp only; omega))⟩ | go_keep)
                (first | (go_at_call 16; refine (neg_good q.num q.den _ (by omega) (by omega)).mono ?_; rintro e w17 ⟨rfl, hb17⟩; have hw17 : Below w.heap.size w w17 := stepH (by (repeat' (first | with_reducible exact Below.refl _ _ | with_reducible assumption | with_reducible refine Below.drew ?_ | with_reducible refine below_drewN ?_ _ | with_reducible refine Below.setCell ?_ ?_ _ | with_reducible refine Below.alloc ?_ ?_ _ | omega | (simp; done) | (simp; omega)))) hb17; have zw17 := hw17.size; (try (have NB := keepH hb17 (by with_reducible first | exact blk_new rfl | exact drew_old (blk_new rfl) | exact NB.out | exact drew_old NB.out); have cNB := cellH NB; have fNB := frozH NB)); replace X := keepH hb17 (by first | with_reducible exact X.out | with_reducible exact blk_old X.out | with_reducible exact drew_old X.out | with_reducible exact drew_old (blk_old X.out)); replace G := keepH hb17 (by first | with_reducible exact G.out | with_reducible exact blk_old G.out | with_reducible exact drew_old G.out | with_reducible exact drew_old (blk_old G.out)); replace A := keepH hb17 (by first | with_reducible exact A.out | with_reducible exact blk_old A.out | with_reducible exact drew_old A.out | with_reducible exact drew_old (blk_old A.out)); replace Tn := keepH hb17 (by first | with_reducible exact Tn.out | with_reducible exact blk_old Tn.out | with_reducible exact drew_old Tn.out | with_reducible exact drew_old (blk_old Tn.out)); have kX0 : w17.cell? ⟨w.heap.size, 0, none⟩ = some (.int .i64 q.num) := cellH X 0; have kX1 : w17.cell? ⟨w.heap.size, 1, none⟩ = some (.int .i64 q.den) := cellH X 1; have kTn0 : w17.cell? ⟨w15.heap.size, 0, none⟩ = some (.int .i64 (4)) := cellH Tn 0; have kTn1 : w17.cell? ⟨w15.heap.size, 1, none⟩ = some (.int .i64 un) := cellH Tn 1; have kTn2 : w17.cell? ⟨w15.heap.size, 2, none⟩ = some (.int .i64 ud) := cellH Tn 2; have lX := lt_of_H X; have nX : w.heap.size ≠ w17.heap.size := Nat.ne_of_lt lX; have lG := lt_of_H G; have nG : w.heap.size + 1 + 1 ≠ w17.heap.size := Nat.ne_of_lt lG; have lA := lt_of_H A; have nA : w2.heap.size ≠ w17.heap.size := Nat.ne_of_lt lA; have lTn := lt_of_H Tn; have nTn : w15.heap.size ≠ w17.heap.size := Nat.ne_of_lt lTn) | (go_at_call 14; refine (round_any (-q.num) q.den (4) un ud E _ BT.out ((HE.out.below (by (repeat' (first | with_reducible exact Below.refl _ _ | with_reducible assumption | with_reducible refine Below.drew ?_ | with_reducible refine below_drewN ?_ _ | with_reducible refine Below.setCell ?_ ?_ _ | with_reducible refine Below.alloc ?_ ?_ _ | omega | (simp; done) | (simp; omega))))).sub (by decide))).mono ?_; rintro e w17 ⟨⟨n', d', err, rfl, hr⟩, hb17⟩; rw [HT2.out] at hr; obtain ⟨r1, r2, rfl⟩ := hr; rw [Rat.neg_num] at r1; rw [Rat.neg_den] at r2; subst r1 r2; have hw17 : Below w.heap.size w w17 := stepH (by (repeat' (first | with_reducible exact Below.refl _ _ | with_reducible assumption | with_reducible refine Below.drew ?_ | with_reducible refine below_drewN ?_ _ | with_reducible refine Below.setCell ?_ ?_ _ | with_reducible refine Below.alloc ?_ ?_ _ | omega | (simp; done) | (simp; omega)))) hb17; have zw17 := hw17.size; (try (have NB := keepH hb17 (by with_reducible first | exact blk_new rfl | exact drew_old (blk_new rfl) | exact NB.out | exact drew_old NB.out); have cNB := cellH NB; have fNB := frozH NB)); replace X := keepH hb17 (by first | with_reducible exact X.out | with_reducible exact blk_old X.out | with_reducible exact drew_old X.out | with_reducible exact drew_old (blk_old X.out)); replace G := keepH hb17 (by first | with_reducible exact G.out | with_reducible exact blk_old G.out | with_reducible exact drew_old G.out | with_reducible exact drew_old (blk_old G.out)); replace A := keepH hb17 (by first | with_reducible exact A.out | with_reducible exact blk_old A.out | with_reducible exact drew_old A.out | with_reducible exact drew_old (blk_old A.out)); replace Tn := keepH hb17 (by first | with_reducible exact Tn.out | with_reducible exact blk_old Tn.out | with_reducible exact drew_old Tn.out | with_reducible exact drew_old (blk_old Tn.out)); have kX0 : w17.cell? ⟨w.heap.size, 0, none⟩ = some (.int .i64 q.num) := cellH X 0; have kX1 : w17.cell? ⟨w.heap.size, 1, none⟩ = some (.int .i64 q.den) := cellH X 1; have kTn0 : w17.cell? ⟨w15.heap.size, 0, none⟩ = some (.int .i64 (4)) := cellH Tn 0; have kTn1 : w17.cell? ⟨w15.heap.size, 1, none⟩ = some (.int .i64 un) := cellH Tn 1; have kTn2 : w17.cell? ⟨w15.heap.size, 2, none⟩ = some (.int .i64 ud) := cellH Tn 2; have lX := lt_of_H X; have nX : w.heap.size ≠ w17.heap.size := Nat.ne_of_lt lX; have lG := lt_of_H G; have nG : w.heap.size + 1 + 1 ≠ w17.heap.size := Nat.ne_of_lt lG; have lA := lt_of_H A; have nA : w2.heap.size ≠ w17.heap.size := Nat.ne_of_lt lA; have lTn := lt_of_H Tn; have nTn : w15.heap.size ≠ w17.heap.size := Nat.ne_of_lt lTn))
              all_goals go_wp2_with fail
              all_goals go_meet
              all_goals exact ⟨_, rfl, rfl, (by (repeat' (first | with_reducible exact Below.refl _ _ | with_reducible assumption | with_reducible refine Below.drew ?_ | with_reducible refine below_drewN ?_ _ | with_reducible refine Below.setCell ?_ ?_ _ | with_reducible refine Below.alloc ?_ ?_ _ | omega | (simp; done) | (simp; omega)))), (by with_reducible first | exact X | exact setH2o X (by assumption) | exact Lib.hid (blk_old X.out)), (by with_reducible first | exact G | exact setH2o G (by assumption) | exact Lib.hid (blk_old G.out)), (by with_reducible first | exact A | exact setH2o A (by assumption) | exact Lib.hid (blk_old A.out)), (by with_reducible first | exact Tn | exact setH2o Tn (by assumption) | exact Lib.hid (blk_old Tn.out)), (by first | with_reducible exact setH2 NB.out | exact blk_new rfl)⟩
          case rest =>
            as_aux_lemma =>
              clear X G A Tn
              obtain ⟨gC, rfl, rfl, hw18, X, G, A, Tn, C⟩ := hcut
              obtain ⟨w18, rfl⟩ : ∃ x : World, x = wc := ⟨_, rfl⟩
              have z18 := hw18.size
              have cX := cellH X
              obtain ⟨lX, lX1, lX2⟩ := ltH X
              have cG := cellH G
              obtain ⟨lG, lG1, lG2⟩ := ltH G
              have cA := cellH A
              obtain ⟨lA, lA1, lA2⟩ := ltH A
              have cTn := cellH Tn
              obtain ⟨lTn, lTn1, lTn2⟩ := ltH Tn
              have cC := cellH C
              obtain ⟨lC, lC1, lC2⟩ := ltH C
              go_wp2_with fail
              go_region_held3 (fun w' => w'.cell? ⟨w2.heap.size, 0, none⟩ = some (.int .i64 a.num) ∧ w'.cell? ⟨w2.heap.size, 1, none⟩ = some (.int .i64 a.den) ∧ w'.cell? ⟨gC, 0, none⟩ = some (.int .i64 (-a.num)) ∧ w'.cell? ⟨gC, 1, none⟩ = some (.int .i64 a.den)) (first | exact ⟨cellH A 0, cellH A 1, cellH C 0, cellH C 1⟩ | go_keep)
                (first | (go_at_call 16; refine (neg_good a.num a.den _ (by omega) (by omega)).mono ?_; rintro e w19 ⟨rfl, hb19⟩; have hw19 : Below w.heap.size w w19 := stepH (by (repeat' (first | with_reducible exact Below.refl _ _ | with_reducible assumption | with_reducible refine Below.drew ?_ | with_reducible refine below_drewN ?_ _ | with_reducible refine Below.setCell ?_ ?_ _ | with_reducible refine Below.alloc ?_ ?_ _ | omega | (simp; done) | (simp; omega)))) hb19; replace X := keepH hb19 X.out; replace G := keepH hb19 G.out; replace A := keepH hb19 A.out; replace Tn := keepH hb19 Tn.out; replace C := keepH hb19 C.out) | (go_at_call 17; refine (first_same _ _ _).mono ?_; rintro e w19 ⟨rfl, hb19⟩; have hw19 : Below w.heap.size w w19 := stepH (by (repeat' (first | with_reducible exact Below.refl _ _ | with_reducible assumption | with_reducible refine Below.drew ?_ | with_reducible refine below_drewN ?_ _ | with_reducible refine Below.setCell ?_ ?_ _ | with_reducible refine Below.alloc ?_ ?_ _ | omega | (simp; done) | (simp; omega)))) hb19; replace X := keepH hb19 X.out; replace G := keepH hb19 G.out; replace A := keepH hb19 A.out; replace Tn := keepH hb19 Tn.out; replace C := keepH hb19 C.out))
              clear cX lX lX1 lX2 cG lG lG1 lG2 cA lA lA1 lA2 cTn lTn lTn1 lTn2 cC lC lC1 lC2
              have z19 := hw19.size
              all_goals go_wp2_with fail
              all_goals go_ret
              all_goals exact ⟨rfl, by (repeat' (first | with_reducible exact Below.refl _ _ | with_reducible assumption | with_reducible refine Below.drew ?_ | with_reducible refine below_drewN ?_ _ | with_reducible refine Below.setCell ?_ ?_ _ | with_reducible refine Below.alloc ?_ ?_ _ | omega | (simp; done) | (simp; omega)))⟩
        · have HTM : Hid (turnM 4 = 3) := rfl
          have HT2 : Hid (roundI (-q.num) q.den (3) un ud = .ok (-a)) := by rw [← HTM.out]; exact HT.out
          go_upto_region 14 with fail
          have hw20 : Below w.heap.size w (w15.alloc (.cells #[.int .i64 (3), .int .i64 un, .int .i64 ud] 32)) := by (repeat' (first | with_reducible exact Below.refl _ _ | with_reducible assumption | with_reducible refine Below.drew ?_ | with_reducible refine below_drewN ?_ _ | with_reducible refine Below.setCell ?_ ?_ _ | with_reducible refine Below.alloc ?_ ?_ _ | omega | (simp; done) | (simp; omega)))
          replace X : Hid ((w15.alloc (.cells #[.int .i64 (3), .int .i64 un, .int .i64 ud] 32)).heap[w.heap.size]? = some (.cells #[.int .i64 q.num, .int .i64 q.den] 30 (0, 0))) := (blk_old X.out)
          replace G : Hid ((w15.alloc (.cells #[.int .i64 (3), .int .i64 un, .int .i64 ud] 32)).heap[w.heap.size + 1 + 1]? = some (.cells #[.int .i64 4, .int .i64 un, .int .i64 ud] 32 (0, 0))) := (blk_old G.out)
          replace A : Hid ((w15.alloc (.cells #[.int .i64 (3), .int .i64 un, .int .i64 ud] 32)).heap[w2.heap.size]? = some (.cells #[.int .i64 a.num, .int .i64 a.den] 30 (0, 0))) := (blk_old A.out)
          have Tn : Hid ((w15.alloc (.cells #[.int .i64 (3), .int .i64 un, .int .i64 ud] 32)).heap[w15.heap.size]? = some (.cells #[.int .i64 (3), .int .i64 un, .int .i64 ud] 32 (0, 0))) := (blk_new rfl)
          clear cX lX lX1 lX2 cY lY lY1 lY2 cG lG lG1 lG2 cA lA lA1 lA2 cB lB lB1 lB2
          generalize (w15.alloc (.cells #[.int .i64 (3), .int .i64 un, .int .i64 ud] 32)) = w20 at *
          have z20 := hw20.size
          have cX := cellH X
          obtain ⟨lX, lX1, lX2⟩ := ltH X
          have cG := cellH G
          obtain ⟨lG, lG1, lG2⟩ := ltH G
          have cA := cellH A
          obtain ⟨lA, lA1, lA2⟩ := ltH A
          have cTn := cellH Tn
          obtain ⟨lTn, lTn1, lTn2⟩ := ltH Tn
          go_cut [13, 14] (fun s13 s14 wx => ∃ g : Nat, s13 = .pointer (some ⟨g, 0, none⟩) ∧ s14 = .nilIface ∧ Below w.heap.size w wx ∧ Hid (wx.heap[w.heap.size]? = some (.cells #[.int .i64 q.num, .int .i64 q.den] 30 (0, 0))) ∧ Hid (wx.heap[w.heap.size + 1 + 1]? = some (.cells #[.int .i64 4, .int .i64 un, .int .i64 ud] 32 (0, 0))) ∧ Hid (wx.heap[w2.heap.size]? = some (.cells #[.int .i64 a.num, .int .i64 a.den] 30 (0, 0))) ∧ Hid (wx.heap[w15.heap.size]? = some (.cells #[.int .i64 (3), .int .i64 un, .int .i64 ud] 32 (0, 0))) ∧ Hid (wx.heap[g]? = some (.cells #[.int .i64 (-a.num), .int .i64 a.den] 30 (0, 0))))
          case first =>
            as_aux_lemma =>
              clear cX lX lX1 lX2 cG lG lG1 lG2 cA lA lA1 lA2 cTn lTn lTn1 lTn2
              have kX0 : w20.cell? ⟨w.heap.size, 0, none⟩ = some (.int .i64 q.num) := cellH X 0
              have kX1 : w20.cell? ⟨w.heap.size, 1, none⟩ = some (.int .i64 q.den) := cellH X 1
              have kTn0 : w20.cell? ⟨w15.heap.size, 0, none⟩ = some (.int .i64 (3)) := cellH Tn 0
              have kTn1 : w20.cell? ⟨w15.heap.size, 1, none⟩ = some (.int .i64 un) := cellH Tn 1
              have kTn2 : w20.cell? ⟨w15.heap.size, 2, none⟩ = some (.int .i64 ud) := cellH Tn 2
              have lX := lt_of_H X
              have nX : w.heap.size ≠ w20.heap.size := Nat.ne_of_lt lX
              have lG := lt_of_H G
              have nG : w.heap.size + 1 + 1 ≠ w20.heap.size := Nat.ne_of_lt lG
              have lA := lt_of_H A
              have nA : w2.heap.size ≠ w20.heap.size := Nat.ne_of_lt lA
              have lTn := lt_of_H Tn
              have nTn : w15.heap.size ≠ w20.heap.size := Nat.ne_of_lt lTn
              have BT : Hid (B5 (-q.num) q.den (3) un ud) := by obtain ⟨b1, b2, b3, b4, b5⟩ := HB.out; exact ⟨⟨by omega, by omega⟩, b2, ⟨by omega, by omega⟩, b4, b5⟩
              go_region_held3 (fun w' => w'.cell? ⟨w.heap.size, 0, none⟩ = some (.int .i64 q.num) ∧ w'.cell? ⟨w.heap.size, 1, none⟩ = some (.int .i64 q.den) ∧ w'.cell? ⟨w15.heap.size, 0, none⟩ = some (.int .i64 (3)) ∧ w'.cell? ⟨w15.heap.size, 1, none⟩ = some (.int .i64 un) ∧ w'.cell? ⟨w15.heap.size, 2, none⟩ = some (.int .i64 ud)) (first | with_reducible exact ⟨kX0, kX1, kTn0, kTn1, kTn2⟩ | with_reducible exact ⟨cell_set (cell_set kX0 (by first | assumption | (dsimp only; assumption) | (dsimp only; omega))) (by first | assumption | (dsimp only; assumption) | (dsimp only; omega)), cell_set (cell_set kX1 (by first | assumption | (dsimp only; assumption) | (dsimp only; omega))) (by first | assumption | (dsimp only; assumption) | (dsimp only; omega)), cell_set (cell_set kTn0 (by first | assumption | (dsimp only; assumption) | (dsimp only; omega))) (by first | assumption | (dsimp only; assumption) | (dsimp only; omega)), cell_set (cell_set kTn1 (by first | assumption | (dsimp only; assumption) | (dsimp only; omega))) (by first | assumption | (dsimp only; assumption) | (dsimp only; omega)), cell_set (cell_set kTn2 (by first | assumption | (dsimp only; assumption) | (dsimp only; omega))) (by first | assumption | (dsimp only; assumption) | (dsimp only; omega))⟩ | go_keep)
                (first | (go_at_call 16; refine (neg_good q.num q.den _ (by omega) (by omega)).mono ?_; rintro e w21 ⟨rfl, hb21⟩; have hw21 : Below w.heap.size w w21 := stepH (by (repeat' (first | with_reducible exact Below.refl _ _ | with_reducible assumption | with_reducible refine Below.drew ?_ | with_reducible refine below_drewN ?_ _ | with_reducible refine Below.setCell ?_ ?_ _ | with_reducible refine Below.alloc ?_ ?_ _ | omega | (simp; done) | (simp; omega)))) hb21; have zw21 := hw21.size; (try (have NB := keepH hb21 (by with_reducible first | exact blk_new rfl | exact drew_old (blk_new rfl) | exact NB.out | exact drew_old NB.out); have cNB := cellH NB; have fNB := frozH NB)); replace X := keepH hb21 (by first | with_reducible exact X.out | with_reducible exact blk_old X.out | with_reducible exact drew_old X.out | with_reducible exact drew_old (blk_old X.out)); replace G := keepH hb21 (by first | with_reducible exact G.out | with_reducible exact blk_old G.out | with_reducible exact drew_old G.out | with_reducible exact drew_old (blk_old G.out)); replace A := keepH hb21 (by first | with_reducible exact A.out | with_reducible exact blk_old A.out | with_reducible exact drew_old A.out | with_reducible exact drew_old (blk_old A.out)); replace Tn := keepH hb21 (by first | with_reducible exact Tn.out | with_reducible exact blk_old Tn.out | with_reducible exact drew_old Tn.out | with_reducible exact drew_old (blk_old Tn.out)); have kX0 : w21.cell? ⟨w.heap.size, 0, none⟩ = some (.int .i64 q.num) := cellH X 0; have kX1 : w21.cell? ⟨w.heap.size, 1, none⟩ = some (.int .i64 q.den) := cellH X 1; have kTn0 : w21.cell? ⟨w15.heap.size, 0, none⟩ = some (.int .i64 (3)) := cellH Tn 0; have kTn1 : w21.cell? ⟨w15.heap.size, 1, none⟩ = some (.int .i64 un) := cellH Tn 1; have kTn2 : w21.cell? ⟨w15.heap.size, 2, none⟩ = some (.int .i64 ud) := cellH Tn 2; have lX := lt_of_H X; have nX : w.heap.size ≠ w21.heap.size := Nat.ne_of_lt lX; have lG := lt_of_H G; have nG : w.heap.size + 1 + 1 ≠ w21.heap.size := Nat.ne_of_lt lG; have lA := lt_of_H A; have nA : w2.heap.size ≠ w21.heap.size := Nat.ne_of_lt lA; have lTn := lt_of_H Tn; have nTn : w15.heap.size ≠ w21.heap.size := Nat.ne_of_lt lTn) | (go_at_call 14; refine (round_any (-q.num) q.den (3) un ud E _ BT.out ((HE.out.below (by (repeat' (first | with_reducible exact Below.refl _ _ | with_reducible assumption | with_reducible refine Below.drew ?_ | with_reducible refine below_drewN ?_ _ | with_reducible refine Below.setCell ?_ ?_ _ | with_reducible refine Below.alloc ?_ ?_ _ | omega | (simp; done) | (simp; omega))))).sub (by decide))).mono ?_; rintro e w21 ⟨⟨n', d', err, rfl, hr⟩, hb21⟩; rw [HT2.out] at hr; obtain ⟨r1, r2, rfl⟩ := hr; rw [Rat.neg_num] at r1; rw [Rat.neg_den] at r2; subst r1 r2; have hw21 : Below w.heap.size w w21 := stepH (by (repeat' (first | with_reducible exact Below.refl _ _ | with_reducible assumption | with_reducible refine Below.drew ?_ | with_reducible refine below_drewN ?_ _ | with_reducible refine Below.setCell ?_ ?_ _ | with_reducible refine Below.alloc ?_ ?_ _ | omega | (simp; done) | (simp; omega)))) hb21; have zw21 := hw21.size; (try (have NB := keepH hb21 (by with_reducible first | exact blk_new rfl | exact drew_old (blk_new rfl) | exact NB.out | exact drew_old NB.out); have cNB := cellH NB; have fNB := frozH NB)); replace X := keepH hb21 (by first | with_reducible exact X.out | with_reducible exact blk_old X.out | with_reducible exact drew_old X.out | with_reducible exact drew_old (blk_old X.out)); replace G := keepH hb21 (by first | with_reducible exact G.out | with_reducible exact blk_old G.out | with_reducible exact drew_old G.out | with_reducible exact drew_old (blk_old G.out)); replace A := keepH hb21 (by first | with_reducible exact A.out | with_reducible exact blk_old A.out | with_reducible exact drew_old A.out | with_reducible exact drew_old (blk_old A.out)); replace Tn := keepH hb21 (by first | with_reducible exact Tn.out | with_reducible exact blk_old Tn.out | with_reducible exact drew_old Tn.out | with_reducible exact drew_old (blk_old Tn.out)); have kX0 : w21.cell? ⟨w.heap.size, 0, none⟩ = some (.int .i64 q.num) := cellH X 0; have kX1 : w21.cell? ⟨w.heap.size, 1, none⟩ = some (.int .i64 q.den) := cellH X 1; have kTn0 : w21.cell? ⟨w15.heap.size, 0, none⟩ = some (.int .i64 (3)) := cellH Tn 0; have kTn1 : w21.cell? ⟨w15.heap.size, 1, none⟩ = some (.int .i64 un) := cellH Tn 1; have kTn2 : w21.cell? ⟨w15.heap.size, 2, none⟩ = some (.int .i64 ud) := cellH Tn 2; have lX := lt_of_H X; have nX : w.heap.size ≠ w21.heap.size := Nat.ne_of_lt lX; have lG := lt_of_H G; have nG : w.heap.size + 1 + 1 ≠ w21.heap.size := Nat.ne_of_lt lG; have lA := lt_of_H A; have nA : w2.heap.size ≠ w21.heap.size := Nat.ne_of_lt lA; have lTn := lt_of_H Tn; have nTn : w15.heap.size ≠ w21.heap.size := Nat.ne_of_lt lTn))
              all_goals go_wp2_with fail
              all_goals go_meet
              all_goals exact ⟨_, rfl, rfl, (by (repeat' (first | with_reducible exact Below.refl _ _ | with_reducible assumption | with_reducible refine Below.drew ?_ | with_reducible refine below_drewN ?_ _ | with_reducible refine Below.setCell ?_ ?_ _ | with_reducible refine Below.alloc ?_ ?_ _ | omega | (simp; done) | (simp; omega)))), (by with_reducible first | exact X | exact setH2o X (by assumption) | exact Lib.hid (blk_old X.out)), (by with_reducible first | exact G | exact setH2o G (by assumption) | exact Lib.hid (blk_old G.out)), (by with_reducible first | exact A | exact setH2o A (by assumption) | exact Lib.hid (blk_old A.out)), (by with_reducible first | exact Tn | exact setH2o Tn (by assumption) | exact Lib.hid (blk_old Tn.out)), (by first | with_reducible exact setH2 NB.out | exact blk_new rfl)⟩
          case rest =>
            as_aux_lemma =>
              clear X G A Tn
              obtain ⟨gC, rfl, rfl, hw22, X, G, A, Tn, C⟩ := hcut
              obtain ⟨w22, rfl⟩ : ∃ x : World, x = wc := ⟨_, rfl⟩
              have z22 := hw22.size
              have cX := cellH X
              obtain ⟨lX, lX1, lX2⟩ := ltH X
              have cG := cellH G
              obtain ⟨lG, lG1, lG2⟩ := ltH G
              have cA := cellH A
              obtain ⟨lA, lA1, lA2⟩ := ltH A
              have cTn := cellH Tn
              obtain ⟨lTn, lTn1, lTn2⟩ := ltH Tn
              have cC := cellH C
              obtain ⟨lC, lC1, lC2⟩ := ltH C
              go_wp2_with fail
              go_region_held3 (fun w' => w'.cell? ⟨w2.heap.size, 0, none⟩ = some (.int .i64 a.num) ∧ w'.cell? ⟨w2.heap.size, 1, none⟩ = some (.int .i64 a.den) ∧ w'.cell? ⟨gC, 0, none⟩ = some (.int .i64 (-a.num)) ∧ w'.cell? ⟨gC, 1, none⟩ = some (.int .i64 a.den)) (first | exact ⟨cellH A 0, cellH A 1, cellH C 0, cellH C 1⟩ | go_keep)
                (first | (go_at_call 16; refine (neg_good a.num a.den _ (by omega) (by omega)).mono ?_; rintro e w23 ⟨rfl, hb23⟩; have hw23 : Below w.heap.size w w23 := stepH (by (repeat' (first | with_reducible exact Below.refl _ _ | with_reducible assumption | with_reducible refine Below.drew ?_ | with_reducible refine below_drewN ?_ _ | with_reducible refine Below.setCell ?_ ?_ _ | with_reducible refine Below.alloc ?_ ?_ _ | omega | (simp; done) | (simp; omega)))) hb23; replace X := keepH hb23 X.out; replace G := keepH hb23 G.out; replace A := keepH hb23 A.out; replace Tn := keepH hb23 Tn.out; replace C := keepH hb23 C.out) | (go_at_call 17; refine (first_same _ _ _).mono ?_; rintro e w23 ⟨rfl, hb23⟩; have hw23 : Below w.heap.size w w23 := stepH (by (repeat' (first | with_reducible exact Below.refl _ _ | with_reducible assumption | with_reducible refine Below.drew ?_ | with_reducible refine below_drewN ?_ _ | with_reducible refine Below.setCell ?_ ?_ _ | with_reducible refine Below.alloc ?_ ?_ _ | omega | (simp; done) | (simp; omega)))) hb23; replace X := keepH hb23 X.out; replace G := keepH hb23 G.out; replace A := keepH hb23 A.out; replace Tn := keepH hb23 Tn.out; replace C := keepH hb23 C.out))
              clear cX lX lX1 lX2 cG lG lG1 lG2 cA lA lA1 lA2 cTn lTn lTn1 lTn2 cC lC lC1 lC2
              have z23 := hw23.size
              all_goals go_wp2_with fail
              all_goals go_ret
              all_goals exact ⟨rfl, by (repeat' (first | with_reducible exact Below.refl _ _ | with_reducible assumption | with_reducible refine Below.drew ?_ | with_reducible refine below_drewN ?_ _ | with_reducible refine Below.setCell ?_ ?_ _ | with_reducible refine Below.alloc ?_ ?_ _ | omega | (simp; done) | (simp; omega)))⟩
        · have hm3' : (mode == 3) = false := by simpa using hm3
          have hm4' : (mode == 4) = false := by simpa using hm4
          have HTM : Hid (turnM mode = mode) := by show _ = _; unfold turnM; rw [if_neg hm3, if_neg hm4]
          clear hm3 hm4
          have HT2 : Hid (roundI (-q.num) q.den (mode) un ud = .ok (-a)) := by rw [← HTM.out]; exact HT.out
          go_upto_region 14 with fail
          have hw24 : Below w.heap.size w (w15.alloc (.cells #[.int .i64 (mode), .int .i64 un, .int .i64 ud] 32)) := by (repeat' (first | with_reducible exact Below.refl _ _ | with_reducible assumption | with_reducible refine Below.drew ?_ | with_reducible refine below_drewN ?_ _ | with_reducible refine Below.setCell ?_ ?_ _ | with_reducible refine Below.alloc ?_ ?_ _ | omega | (simp; done) | (simp; omega)))
          replace X : Hid ((w15.alloc (.cells #[.int .i64 (mode), .int .i64 un, .int .i64 ud] 32)).heap[w.heap.size]? = some (.cells #[.int .i64 q.num, .int .i64 q.den] 30 (0, 0))) := (blk_old X.out)
          replace G : Hid ((w15.alloc (.cells #[.int .i64 (mode), .int .i64 un, .int .i64 ud] 32)).heap[w.heap.size + 1 + 1]? = some (.cells #[.int .i64 mode, .int .i64 un, .int .i64 ud] 32 (0, 0))) := (blk_old G.out)
          replace A : Hid ((w15.alloc (.cells #[.int .i64 (mode), .int .i64 un, .int .i64 ud] 32)).heap[w2.heap.size]? = some (.cells #[.int .i64 a.num, .int .i64 a.den] 30 (0, 0))) := (blk_old A.out)
          have Tn : Hid ((w15.alloc (.cells #[.int .i64 (mode), .int .i64 un, .int .i64 ud] 32)).heap[w15.heap.size]? = some (.cells #[.int .i64 (mode), .int .i64 un, .int .i64 ud] 32 (0, 0))) := (blk_new rfl)
          clear cX lX lX1 lX2 cY lY lY1 lY2 cG lG lG1 lG2 cA lA lA1 lA2 cB lB lB1 lB2
          generalize (w15.alloc (.cells #[.int .i64 (mode), .int .i64 un, .int .i64 ud] 32)) = w24 at *
          have z24 := hw24.size
          have cX := cellH X
          obtain ⟨lX, lX1, lX2⟩ := ltH X
          have cG := cellH G
          obtain ⟨lG, lG1, lG2⟩ := ltH G
          have cA := cellH A
          obtain ⟨lA, lA1, lA2⟩ := ltH A
          have cTn := cellH Tn
          obtain ⟨lTn, lTn1, lTn2⟩ := ltH Tn
          go_cut [13, 14] (fun s13 s14 wx => ∃ g : Nat, s13 = .pointer (some ⟨g, 0, none⟩) ∧ s14 = .nilIface ∧ Below w.heap.size w wx ∧ Hid (wx.heap[w.heap.size]? = some (.cells #[.int .i64 q.num, .int .i64 q.den] 30 (0, 0))) ∧ Hid (wx.heap[w.heap.size + 1 + 1]? = some (.cells #[.int .i64 mode, .int .i64 un, .int .i64 ud] 32 (0, 0))) ∧ Hid (wx.heap[w2.heap.size]? = some (.cells #[.int .i64 a.num, .int .i64 a.den] 30 (0, 0))) ∧ Hid (wx.heap[w15.heap.size]? = some (.cells #[.int .i64 (mode), .int .i64 un, .int .i64 ud] 32 (0, 0))) ∧ Hid (wx.heap[g]? = some (.cells #[.int .i64 (-a.num), .int .i64 a.den] 30 (0, 0))))
          case first =>
            as_aux_lemma =>
              clear cX lX lX1 lX2 cG lG lG1 lG2 cA lA lA1 lA2 cTn lTn lTn1 lTn2
              have kX0 : w24.cell? ⟨w.heap.size, 0, none⟩ = some (.int .i64 q.num) := cellH X 0
              have kX1 : w24.cell? ⟨w.heap.size, 1, none⟩ = some (.int .i64 q.den) := cellH X 1
              have kTn0 : w24.cell? ⟨w15.heap.size, 0, none⟩ = some (.int .i64 (mode)) := cellH Tn 0
              have kTn1 : w24.cell? ⟨w15.heap.size, 1, none⟩ = some (.int .i64 un) := cellH Tn 1
              have kTn2 : w24.cell? ⟨w15.heap.size, 2, none⟩ = some (.int .i64 ud) := cellH Tn 2
              have lX := lt_of_H X
              have nX : w.heap.size ≠ w24.heap.size := Nat.ne_of_lt lX
              have lG := lt_of_H G
              have nG : w.heap.size + 1 + 1 ≠ w24.heap.size := Nat.ne_of_lt lG
              have lA := lt_of_H A
              have nA : w2.heap.size ≠ w24.heap.size := Nat.ne_of_lt lA
              have lTn := lt_of_H Tn
              have nTn : w15.heap.size ≠ w24.heap.size := Nat.ne_of_lt lTn
              have BT : Hid (B5 (-q.num) q.den (mode) un ud) := by obtain ⟨b1, b2, b3, b4, b5⟩ := HB.out; exact ⟨⟨by omega, by omega⟩, b2, b3, b4, b5⟩
              go_region_held3 (fun w' => w'.cell? ⟨w.heap.size, 0, none⟩ = some (.int .i64 q.num) ∧ w'.cell? ⟨w.heap.size, 1, none⟩ = some (.int .i64 q.den) ∧ w'.cell? ⟨w15.heap.size, 0, none⟩ = some (.int .i64 (mode)) ∧ w'.cell? ⟨w15.heap.size, 1, none⟩ = some (.int .i64 un) ∧ w'.cell? ⟨w15.heap.size, 2, none⟩ = some (.int .i64 ud)) (first | with_reducible exact ⟨kX0, kX1, kTn0, kTn1, kTn2⟩ | with_reducible exact ⟨cell_set (cell_set kX0 (by first | assumption | (dsimp only; assumption) | (dsimp only; omega))) (by first | assumption | (dsimp only; assumption) | (dsimp only; omega)), cell_set (cell_set kX1 (by first | assumption | (dsimp only; assumption) | (dsimp only; omega))) (by first | assumption | (dsimp only; assumption) | (dsimp only; omega)), cell_set (cell_set kTn0 (by first | assumption | (dsimp only; assumption) | (dsimp only; omega))) (by first | assumption | (dsimp only; assumption) | (dsimp only; omega)), cell_set (cell_set kTn1 (by first | assumption | (dsimp only; assumption) | (dsimp only; omega))) (by first | assumption | (dsimp only; assumption) | (dsimp only; omega)), cell_set (cell_set kTn2 (by first | assumption | (dsimp only; assumption) | (dsimp only; omega))) (by first | assumption | (dsimp only; assumption) | (dsimp only; omega))⟩ | go_keep)
                (first | (go_at_call 16; refine (neg_good q.num q.den _ (by omega) (by omega)).mono ?_; rintro e w25 ⟨rfl, hb25⟩; have hw25 : Below w.heap.size w w25 := stepH (by (repeat' (first | with_reducible exact Below.refl _ _ | with_reducible assumption | with_reducible refine Below.drew ?_ | with_reducible refine below_drewN ?_ _ | with_reducible refine Below.setCell ?_ ?_ _ | with_reducible refine Below.alloc ?_ ?_ _ | omega | (simp; done) | (simp; omega)))) hb25; have zw25 := hw25.size; (try (have NB := keepH hb25 (by with_reducible first | exact blk_new rfl | exact drew_old (blk_new rfl) | exact NB.out | exact drew_old NB.out); have cNB := cellH NB; have fNB := frozH NB)); replace X := keepH hb25 (by first | with_reducible exact X.out | with_reducible exact blk_old X.out | with_reducible exact drew_old X.out | with_reducible exact drew_old (blk_old X.out)); replace G := keepH hb25 (by first | with_reducible exact G.out | with_reducible exact blk_old G.out | with_reducible exact drew_old G.out | with_reducible exact drew_old (blk_old G.out)); replace A := keepH hb25 (by first | with_reducible exact A.out | with_reducible exact blk_old A.out | with_reducible exact drew_old A.out | with_reducible exact drew_old (blk_old A.out)); replace Tn := keepH hb25 (by first | with_reducible exact Tn.out | with_reducible exact blk_old Tn.out | with_reducible exact drew_old Tn.out | with_reducible exact drew_old (blk_old Tn.out)); have kX0 : w25.cell? ⟨w.heap.size, 0, none⟩ = some (.int .i64 q.num) := cellH X 0; have kX1 : w25.cell? ⟨w.heap.size, 1, none⟩ = some (.int .i64 q.den) := cellH X 1; have kTn0 : w25.cell? ⟨w15.heap.size, 0, none⟩ = some (.int .i64 (mode)) := cellH Tn 0; have kTn1 : w25.cell? ⟨w15.heap.size, 1, none⟩ = some (.int .i64 un) := cellH Tn 1; have kTn2 : w25.cell? ⟨w15.heap.size, 2, none⟩ = some (.int .i64 ud) := cellH Tn 2; have lX := lt_of_H X; have nX : w.heap.size ≠ w25.heap.size := Nat.ne_of_lt lX; have lG := lt_of_H G; have nG : w.heap.size + 1 + 1 ≠ w25.heap.size := Nat.ne_of_lt lG; have lA := lt_of_H A; have nA : w2.heap.size ≠ w25.heap.size := Nat.ne_of_lt lA; have lTn := lt_of_H Tn; have nTn : w15.heap.size ≠ w25.heap.size := Nat.ne_of_lt lTn) | (go_at_call 14; refine (round_any (-q.num) q.den (mode) un ud E _ BT.out ((HE.out.below (by (repeat' (first | with_reducible exact Below.refl _ _ | with_reducible assumption | with_reducible refine Below.drew ?_ | with_reducible refine below_drewN ?_ _ | with_reducible refine Below.setCell ?_ ?_ _ | with_reducible refine Below.alloc ?_ ?_ _ | omega | (simp; done) | (simp; omega))))).sub (by decide))).mono ?_; rintro e w25 ⟨⟨n', d', err, rfl, hr⟩, hb25⟩; rw [HT2.out] at hr; obtain ⟨r1, r2, rfl⟩ := hr; rw [Rat.neg_num] at r1; rw [Rat.neg_den] at r2; subst r1 r2; have hw25 : Below w.heap.size w w25 := stepH (by (repeat' (first | with_reducible exact Below.refl _ _ | with_reducible assumption | with_reducible refine Below.drew ?_ | with_reducible refine below_drewN ?_ _ | with_reducible refine Below.setCell ?_ ?_ _ | with_reducible refine Below.alloc ?_ ?_ _ | omega | (simp; done) | (simp; omega)))) hb25; have zw25 := hw25.size; (try (have NB := keepH hb25 (by with_reducible first | exact blk_new rfl | exact drew_old (blk_new rfl) | exact NB.out | exact drew_old NB.out); have cNB := cellH NB; have fNB := frozH NB)); replace X := keepH hb25 (by first | with_reducible exact X.out | with_reducible exact blk_old X.out | with_reducible exact drew_old X.out | with_reducible exact drew_old (blk_old X.out)); replace G := keepH hb25 (by first | with_reducible exact G.out | with_reducible exact blk_old G.out | with_reducible exact drew_old G.out | with_reducible exact drew_old (blk_old G.out)); replace A := keepH hb25 (by first | with_reducible exact A.out | with_reducible exact blk_old A.out | with_reducible exact drew_old A.out | with_reducible exact drew_old (blk_old A.out)); replace Tn := keepH hb25 (by first | with_reducible exact Tn.out | with_reducible exact blk_old Tn.out | with_reducible exact drew_old Tn.out | with_reducible exact drew_old (blk_old Tn.out)); have kX0 : w25.cell? ⟨w.heap.size, 0, none⟩ = some (.int .i64 q.num) := cellH X 0; have kX1 : w25.cell? ⟨w.heap.size, 1, none⟩ = some (.int .i64 q.den) := cellH X 1; have kTn0 : w25.cell? ⟨w15.heap.size, 0, none⟩ = some (.int .i64 (mode)) := cellH Tn 0; have kTn1 : w25.cell? ⟨w15.heap.size, 1, none⟩ = some (.int .i64 un) := cellH Tn 1; have kTn2 : w25.cell? ⟨w15.heap.size, 2, none⟩ = some (.int .i64 ud) := cellH Tn 2; have lX := lt_of_H X; have nX : w.heap.size ≠ w25.heap.size := Nat.ne_of_lt lX; have lG := lt_of_H G; have nG : w.heap.size + 1 + 1 ≠ w25.heap.size := Nat.ne_of_lt lG; have lA := lt_of_H A; have nA : w2.heap.size ≠ w25.heap.size := Nat.ne_of_lt lA; have lTn := lt_of_H Tn; have nTn : w15.heap.size ≠ w25.heap.size := Nat.ne_of_lt lTn))
              all_goals go_wp2_with fail
              all_goals go_meet
              all_goals exact ⟨_, rfl, rfl, (by (repeat' (first | with_reducible exact Below.refl _ _ | with_reducible assumption | with_reducible refine Below.drew ?_ | with_reducible refine below_drewN ?_ _ | with_reducible refine Below.setCell ?_ ?_ _ | with_reducible refine Below.alloc ?_ ?_ _ | omega | (simp; done) | (simp; omega)))), (by with_reducible first | exact X | exact setH2o X (by assumption) | exact Lib.hid (blk_old X.out)), (by with_reducible first | exact G | exact setH2o G (by assumption) | exact Lib.hid (blk_old G.out)), (by with_reducible first | exact A | exact setH2o A (by assumption) | exact Lib.hid (blk_old A.out)), (by with_reducible first | exact Tn | exact setH2o Tn (by assumption) | exact Lib.hid (blk_old Tn.out)), (by first | with_reducible exact setH2 NB.out | exact blk_new rfl)⟩
          case rest =>
            as_aux_lemma =>
              clear X G A Tn
              obtain ⟨gC, rfl, rfl, hw26, X, G, A, Tn, C⟩ := hcut
              obtain ⟨w26, rfl⟩ : ∃ x : World, x = wc := ⟨_, rfl⟩
              have z26 := hw26.size
              have cX := cellH X
              obtain ⟨lX, lX1, lX2⟩ := ltH X
              have cG := cellH G
              obtain ⟨lG, lG1, lG2⟩ := ltH G
              have cA := cellH A
              obtain ⟨lA, lA1, lA2⟩ := ltH A
              have cTn := cellH Tn
              obtain ⟨lTn, lTn1, lTn2⟩ := ltH Tn
              have cC := cellH C
              obtain ⟨lC, lC1, lC2⟩ := ltH C
              go_wp2_with fail
              go_region_held3 (fun w' => w'.cell? ⟨w2.heap.size, 0, none⟩ = some (.int .i64 a.num) ∧ w'.cell? ⟨w2.heap.size, 1, none⟩ = some (.int .i64 a.den) ∧ w'.cell? ⟨gC, 0, none⟩ = some (.int .i64 (-a.num)) ∧ w'.cell? ⟨gC, 1, none⟩ = some (.int .i64 a.den)) (first | exact ⟨cellH A 0, cellH A 1, cellH C 0, cellH C 1⟩ | go_keep)
                (first | (go_at_call 16; refine (neg_good a.num a.den _ (by omega) (by omega)).mono ?_; rintro e w27 ⟨rfl, hb27⟩; have hw27 : Below w.heap.size w w27 := stepH (by (repeat' (first | with_reducible exact Below.refl _ _ | with_reducible assumption | with_reducible refine Below.drew ?_ | with_reducible refine below_drewN ?_ _ | with_reducible refine Below.setCell ?_ ?_ _ | with_reducible refine Below.alloc ?_ ?_ _ | omega | (simp; done) | (simp; omega)))) hb27; replace X := keepH hb27 X.out; replace G := keepH hb27 G.out; replace A := keepH hb27 A.out; replace Tn := keepH hb27 Tn.out; replace C := keepH hb27 C.out) | (go_at_call 17; refine (first_same _ _ _).mono ?_; rintro e w27 ⟨rfl, hb27⟩; have hw27 : Below w.heap.size w w27 := stepH (by (repeat' (first | with_reducible exact Below.refl _ _ | with_reducible assumption | with_reducible refine Below.drew ?_ | with_reducible refine below_drewN ?_ _ | with_reducible refine Below.setCell ?_ ?_ _ | with_reducible refine Below.alloc ?_ ?_ _ | omega | (simp; done) | (simp; omega)))) hb27; replace X := keepH hb27 X.out; replace G := keepH hb27 G.out; replace A := keepH hb27 A.out; replace Tn := keepH hb27 Tn.out; replace C := keepH hb27 C.out))
              clear cX lX lX1 lX2 cG lG lG1 lG2 cA lA lA1 lA2 cTn lTn lTn1 lTn2 cC lC lC1 lC2
              have z27 := hw27.size
              all_goals go_wp2_with fail
              all_goals go_ret
              all_goals exact ⟨rfl, by (repeat' (first | with_reducible exact Below.refl _ _ | with_reducible assumption | with_reducible refine Below.drew ?_ | with_reducible refine below_drewN ?_ _ | with_reducible refine Below.setCell ?_ ?_ _ | with_reducible refine Below.alloc ?_ ?_ _ | omega | (simp; done) | (simp; omega)))⟩

end Go.Proofs.YtcbglkkmblmbnaaDoor
