/- The walk of FracField. -/
import Derived.Deep.DeepCutAuto
import Derived.Test.YtbmkbhclkaopaaaDoorCalc
namespace Go.Proofs.YtbmkbhclkaopaaaDoor
open Go.RowKit

theorem Only.step {g B : Nat} {w W W' : World} (h : Only g W W') (hw : Below B w W) (hg : B ≤ g ∧ B ≤ W.heap.size) : Below B w W' := hw.trans (h.below hg.1 hg.2)
theorem FV.eq {n d n' d' : Int} {a b : Rat} (h : FV n d a) (h' : FV n' d' b) (e : a = b) : n = n' ∧ d = d' := by
  subst e; exact ⟨h.2.1.trans h'.2.1.symm, h.2.2.trans h'.2.2.symm⟩
theorem FV.same {n d : Int} {a b : Rat} (h : FV n d a) (h' : FV n d b) : a = b := by
  obtain ⟨_, h1, h2⟩ := h
  obtain ⟨_, h3, h4⟩ := h'
  exact fv_inj (h1.symm.trans h3) (h2.symm.trans h4)
theorem FV.of {p : Rat} {b : Rat} (h : FV p.num p.den b) : b = p := fv_inj h.2.1.symm h.2.2.symm
set_option maxRecDepth 100000 in
set_option maxHeartbeats 8000000 in
theorem fracField_walk (n1 d1 n2 d2 n3 d3 : Int) (E : Nat → Addr) (w : World) (ln1 : -9223372036854775808 ≤ n1) (un1 : n1 ≤ 9223372036854775807) (ld1 : -9223372036854775808 ≤ d1) (ud1 : d1 ≤ 9223372036854775807) (ln2 : -9223372036854775808 ≤ n2) (un2 : n2 ≤ 9223372036854775807) (ld2 : -9223372036854775808 ≤ d2) (ud2 : d2 ≤ 9223372036854775807) (ln3 : -9223372036854775808 ≤ n3) (un3 : n3 ≤ 9223372036854775807) (ld3 : -9223372036854775808 ≤ d3) (ud3 : d3 ≤ 9223372036854775807) (hE : Env LF E w) :
    Calls Tryd.prog 4 #[.agg #[.int .i64 n1, .int .i64 d1], .agg #[.int .i64 n2, .int .i64 d2], .agg #[.int .i64 n3, .int .i64 d3]] w fun e w' => e = .returned (.bool true) ∧ Below w.heap.size w w' := by
  have HE : Hid (Env LF E w) := hE
  clear hE
  have V := three_any n1 d1 n2 d2 n3 d3
  cases hv : (validB n1 d1 && validB n2 d2 && validB n3 d3)
  · rw [hv] at V
    clear hv
    have HV := Lib.hid V
    clear V
    go_enter Tryd.func4, Tryd.ntmps4
    go_wp2_with fail
    refine (first_any E _ (HE.out.below (by (repeat (first | exact Below.refl _ _ | assumption | refine Below.drew ?_ | refine below_drewN ?_ _ | refine Below.setCell ?_ (by first | omega | (simp; done) | (simp; omega)) _ | refine Below.alloc ?_ (by first | omega | (simp; done) | (simp; omega)) _))))).mono ?_
    rintro e w1 ⟨rfl, hb1⟩
    have hw1 : Below w.heap.size w w1 := stepH (by (repeat (first | exact Below.refl _ _ | assumption | refine Below.drew ?_ | refine below_drewN ?_ _ | refine Below.setCell ?_ (by first | omega | (simp; done) | (simp; omega)) _ | refine Below.alloc ?_ (by first | omega | (simp; done) | (simp; omega)) _))) hb1
    have A := keepH hb1 (g := w.heap.size) (blk_old (blk_old (blk_new rfl)))
    have B := keepH hb1 (g := w.heap.size + 1) (blk_old (blk_new (by simp)))
    have C := keepH hb1 (g := w.heap.size + 1 + 1) (blk_new (by simp))
    have z1 := hw1.size
    clear hb1
    have cA := cellH A
    obtain ⟨lA, lA1, lA2⟩ := ltH A
    have cB := cellH B
    obtain ⟨lB, lB1, lB2⟩ := ltH B
    have cC := cellH C
    obtain ⟨lC, lC1, lC2⟩ := ltH C
    go_wp2_with fail
    refine (HV.out _ (by omega) (by omega) (by omega) (by omega) (by omega) (by omega) (by omega) (by omega) (by omega) (by omega) (by omega) (by omega)).mono ?_
    rintro e w2 ⟨rfl, hb2⟩
    have hw2 : Below w.heap.size w w2 := stepH (by (repeat (first | exact Below.refl _ _ | assumption | refine Below.drew ?_ | refine below_drewN ?_ _ | refine Below.setCell ?_ (by first | omega | (simp; done) | (simp; omega)) _ | refine Below.alloc ?_ (by first | omega | (simp; done) | (simp; omega)) _))) hb2
    replace A := keepH hb2 A.out
    replace B := keepH hb2 B.out
    replace C := keepH hb2 C.out
    have z2 := hw2.size
    clear hb2 hw1 z1
    clear cA lA lA1 lA2 cB lB lB1 lB2 cC lC lC1 lC2
    have cA := cellH A
    obtain ⟨lA, lA1, lA2⟩ := ltH A
    have cB := cellH B
    obtain ⟨lB, lB1, lB2⟩ := ltH B
    have cC := cellH C
    obtain ⟨lC, lC1, lC2⟩ := ltH C
    go_wp2_with fail
    go_ret
    exact ⟨rfl, hw2⟩
  · rw [hv] at V
    simp only [Bool.and_eq_true] at hv
    obtain ⟨⟨h1, h2⟩, h3⟩ := hv
    obtain ⟨p, hp, rfl, rfl⟩ := good_of_validB h1
    obtain ⟨q, hq, rfl, rfl⟩ := good_of_validB h2
    obtain ⟨r, hr, rfl, rfl⟩ := good_of_validB h3
    have IP := I2.of hp
    have IQ := I2.of hq
    have IR := I2.of hr
    have JP := Lib.hid IP
    have JQ := Lib.hid IQ
    have JR := Lib.hid IR
    clear h1 h2 h3 IP IQ IR
    have HV := Lib.hid V
    clear V
    go_enter Tryd.func4, Tryd.ntmps4
    go_wp2_with fail
    refine (first_any E _ (HE.out.below (by (repeat (first | exact Below.refl _ _ | assumption | refine Below.drew ?_ | refine below_drewN ?_ _ | refine Below.setCell ?_ (by first | omega | (simp; done) | (simp; omega)) _ | refine Below.alloc ?_ (by first | omega | (simp; done) | (simp; omega)) _))))).mono ?_
    rintro e w1 ⟨rfl, hb1⟩
    have hw1 : Below w.heap.size w w1 := stepH (by (repeat (first | exact Below.refl _ _ | assumption | refine Below.drew ?_ | refine below_drewN ?_ _ | refine Below.setCell ?_ (by first | omega | (simp; done) | (simp; omega)) _ | refine Below.alloc ?_ (by first | omega | (simp; done) | (simp; omega)) _))) hb1
    have A := keepH hb1 (g := w.heap.size) (blk_old (blk_old (blk_new rfl)))
    have B := keepH hb1 (g := w.heap.size + 1) (blk_old (blk_new (by simp)))
    have C := keepH hb1 (g := w.heap.size + 1 + 1) (blk_new (by simp))
    have z1 := hw1.size
    clear hb1
    have cA := cellH A
    obtain ⟨lA, lA1, lA2⟩ := ltH A
    have cB := cellH B
    obtain ⟨lB, lB1, lB2⟩ := ltH B
    have cC := cellH C
    obtain ⟨lC, lC1, lC2⟩ := ltH C
    go_wp2_with fail
    refine (HV.out _ (by omega) (by omega) (by omega) (by omega) (by omega) (by omega) (by omega) (by omega) (by omega) (by omega) (by omega) (by omega)).mono ?_
    rintro e w2 ⟨rfl, hb2⟩
    have hw2 : Below w.heap.size w w2 := stepH (by (repeat (first | exact Below.refl _ _ | assumption | refine Below.drew ?_ | refine below_drewN ?_ _ | refine Below.setCell ?_ (by first | omega | (simp; done) | (simp; omega)) _ | refine Below.alloc ?_ (by first | omega | (simp; done) | (simp; omega)) _))) hb2
    replace A := keepH hb2 A.out
    replace B := keepH hb2 B.out
    replace C := keepH hb2 C.out
    have z2 := hw2.size
    clear hb2 hw1 z1
    clear cA lA lA1 lA2 cB lB lB1 lB2 cC lC lC1 lC2
    have cA := cellH A
    obtain ⟨lA, lA1, lA2⟩ := ltH A
    have cB := cellH B
    obtain ⟨lB, lB1, lB2⟩ := ltH B
    have cC := cellH C
    obtain ⟨lC, lC1, lC2⟩ := ltH C
    have l2 := lt_of_H C
    go_wp2_with fail
    have hw3 : Below w.heap.size w (w2.alloc (.cells #[.bool false, .bool false, .bool false, .bool false, .bool false, .bool false, .bool false, .bool false, .bool false, .bool false] 33)) := by (repeat (first | exact Below.refl _ _ | assumption | refine Below.drew ?_ | refine below_drewN ?_ _ | refine Below.setCell ?_ (by first | omega | (simp; done) | (simp; omega)) _ | refine Below.alloc ?_ (by first | omega | (simp; done) | (simp; omega)) _))
    replace A : Hid ((w2.alloc (.cells #[.bool false, .bool false, .bool false, .bool false, .bool false, .bool false, .bool false, .bool false, .bool false, .bool false] 33)).heap[w.heap.size]? = some (.cells #[.int .i64 p.num, .int .i64 p.den] 23 (0, 0))) := (blk_old A.out)
    replace B : Hid ((w2.alloc (.cells #[.bool false, .bool false, .bool false, .bool false, .bool false, .bool false, .bool false, .bool false, .bool false, .bool false] 33)).heap[w.heap.size + 1]? = some (.cells #[.int .i64 q.num, .int .i64 q.den] 23 (0, 0))) := (blk_old B.out)
    replace C : Hid ((w2.alloc (.cells #[.bool false, .bool false, .bool false, .bool false, .bool false, .bool false, .bool false, .bool false, .bool false, .bool false] 33)).heap[w.heap.size + 1 + 1]? = some (.cells #[.int .i64 r.num, .int .i64 r.den] 23 (0, 0))) := (blk_old C.out)
    have K : Hid ((w2.alloc (.cells #[.bool false, .bool false, .bool false, .bool false, .bool false, .bool false, .bool false, .bool false, .bool false, .bool false] 33)).heap[w2.heap.size]? = some (.cells #[.bool false, .bool false, .bool false, .bool false, .bool false, .bool false, .bool false, .bool false, .bool false, .bool false] 33 (0, 0))) := (blk_new rfl)
    clear cA lA lA1 lA2 cB lB lB1 lB2 cC lC lC1 lC2
    generalize (w2.alloc (.cells #[.bool false, .bool false, .bool false, .bool false, .bool false, .bool false, .bool false, .bool false, .bool false, .bool false] 33)) = w3 at *
    have z3 := hw3.size
    have cA := cellH A
    obtain ⟨lA, lA1, lA2⟩ := ltH A
    have cB := cellH B
    obtain ⟨lB, lB1, lB2⟩ := ltH B
    have cC := cellH C
    obtain ⟨lC, lC1, lC2⟩ := ltH C
    have cK := cellH K
    obtain ⟨lK, lK1, lK2⟩ := ltH K
    have nA : w.heap.size ≠ w2.heap.size := by omega
    have nB : w.heap.size + 1 ≠ w2.heap.size := by omega
    have nC : w.heap.size + 1 + 1 ≠ w2.heap.size := by omega
    have gk : w.heap.size ≤ w2.heap.size := by omega
    go_upto_region 6 with fail
    go_cut [47] (fun s47 wx => s47 = .bool false ∧ (∃ b1 b2 b3 b4 : Bool, Hid (wx.heap[w2.heap.size]? = some (.cells #[.bool b1, .bool b2, .bool b3, .bool b4, .bool false, .bool false, .bool false, .bool false, .bool false, .bool false] 33 (0, 0)))) ∧ Below w.heap.size w wx ∧ Hid (wx.heap[w.heap.size]? = some (.cells #[.int .i64 p.num, .int .i64 p.den] 23 (0, 0))) ∧ Hid (wx.heap[w.heap.size + 1]? = some (.cells #[.int .i64 q.num, .int .i64 q.den] 23 (0, 0))) ∧ Hid (wx.heap[w.heap.size + 1 + 1]? = some (.cells #[.int .i64 r.num, .int .i64 r.den] 23 (0, 0))))
    case first =>
      clear cA lA lA1 lA2 cB lB lB1 lB2 cC lC lC1 lC2 cK lK lK1 lK2
      have kA0 : w3.cell? ⟨w.heap.size, 0, none⟩ = some (.int .i64 p.num) := cellH A 0
      have kA1 : w3.cell? ⟨w.heap.size, 1, none⟩ = some (.int .i64 p.den) := cellH A 1
      have kB0 : w3.cell? ⟨w.heap.size + 1, 0, none⟩ = some (.int .i64 q.num) := cellH B 0
      have kB1 : w3.cell? ⟨w.heap.size + 1, 1, none⟩ = some (.int .i64 q.den) := cellH B 1
      have kC0 : w3.cell? ⟨w.heap.size + 1 + 1, 0, none⟩ = some (.int .i64 r.num) := cellH C 0
      have kC1 : w3.cell? ⟨w.heap.size + 1 + 1, 1, none⟩ = some (.int .i64 r.den) := cellH C 1
      have tok0 := True.intro
      go_region_held3 (fun w' => w'.cell? ⟨w.heap.size, 0, none⟩ = some (.int .i64 p.num) ∧ w'.cell? ⟨w.heap.size, 1, none⟩ = some (.int .i64 p.den) ∧ w'.cell? ⟨w.heap.size + 1, 0, none⟩ = some (.int .i64 q.num) ∧ w'.cell? ⟨w.heap.size + 1, 1, none⟩ = some (.int .i64 q.den) ∧ w'.cell? ⟨w.heap.size + 1 + 1, 0, none⟩ = some (.int .i64 r.num) ∧ w'.cell? ⟨w.heap.size + 1 + 1, 1, none⟩ = some (.int .i64 r.den)) (first | with_reducible exact ⟨kA0, kA1, kB0, kB1, kC0, kC1⟩ | go_keep)
        (first | (have tk := tok0; clear tk; go_at_call 22; refine (calcAdd_any w2.heap.size 0 p.num p.den q.num q.den false _ _ E _ (by exact K) (Lib.hid rfl) JP.out JQ.out (HE.out.below (by first | with_reducible exact hw3 | exact hw3.drew))).mono ?_; rintro e w4 ⟨nx1, dx1, b1, rfl, Ix1, Mx1, hb4, K1⟩; have hw4 : Below w.heap.size w w4 := hb4.step (by first | with_reducible exact hw3 | exact hw3.drew) ⟨gk, by first | omega | (simp; omega)⟩; replace A := hb4.keep A nA; replace B := hb4.keep B nB; replace C := hb4.keep C nC; have zw4 := hw4.size; have K : Hid (w4.heap[w2.heap.size]? = some (.cells #[.bool b1, .bool false, .bool false, .bool false, .bool false, .bool false, .bool false, .bool false, .bool false, .bool false] 33 (0, 0))) := K1; clear K1; have Jx1 := Lib.hid Ix1; have Nx1 := Lib.hid Mx1; clear Ix1 Mx1; replace kA0 : w4.cell? ⟨w.heap.size, 0, none⟩ = some (.int .i64 p.num) := cellH A 0; replace kA1 : w4.cell? ⟨w.heap.size, 1, none⟩ = some (.int .i64 p.den) := cellH A 1; replace kB0 : w4.cell? ⟨w.heap.size + 1, 0, none⟩ = some (.int .i64 q.num) := cellH B 0; replace kB1 : w4.cell? ⟨w.heap.size + 1, 1, none⟩ = some (.int .i64 q.den) := cellH B 1; replace kC0 : w4.cell? ⟨w.heap.size + 1 + 1, 0, none⟩ = some (.int .i64 r.num) := cellH C 0; replace kC1 : w4.cell? ⟨w.heap.size + 1 + 1, 1, none⟩ = some (.int .i64 r.den) := cellH C 1; clear tok0; have tok1 := True.intro) | (have tk := tok1; clear tk; go_at_call 22; refine (calcAdd_any w2.heap.size 1 q.num q.den p.num p.den false _ _ E _ (by exact K) (Lib.hid rfl) JQ.out JP.out (HE.out.below (by first | with_reducible exact hw4 | exact hw4.drew))).mono ?_; rintro e w5 ⟨nx2, dx2, b2, rfl, Ix2, Mx2, hb5, K1⟩; have hw5 : Below w.heap.size w w5 := hb5.step (by first | with_reducible exact hw4 | exact hw4.drew) ⟨gk, by first | omega | (simp; omega)⟩; replace A := hb5.keep A nA; replace B := hb5.keep B nB; replace C := hb5.keep C nC; have zw5 := hw5.size; have K : Hid (w5.heap[w2.heap.size]? = some (.cells #[.bool b1, .bool b2, .bool false, .bool false, .bool false, .bool false, .bool false, .bool false, .bool false, .bool false] 33 (0, 0))) := K1; clear K1; have Jx2 := Lib.hid Ix2; have Nx2 := Lib.hid Mx2; clear Ix2 Mx2; replace kA0 : w5.cell? ⟨w.heap.size, 0, none⟩ = some (.int .i64 p.num) := cellH A 0; replace kA1 : w5.cell? ⟨w.heap.size, 1, none⟩ = some (.int .i64 p.den) := cellH A 1; replace kB0 : w5.cell? ⟨w.heap.size + 1, 0, none⟩ = some (.int .i64 q.num) := cellH B 0; replace kB1 : w5.cell? ⟨w.heap.size + 1, 1, none⟩ = some (.int .i64 q.den) := cellH B 1; replace kC0 : w5.cell? ⟨w.heap.size + 1 + 1, 0, none⟩ = some (.int .i64 r.num) := cellH C 0; replace kC1 : w5.cell? ⟨w.heap.size + 1 + 1, 1, none⟩ = some (.int .i64 r.den) := cellH C 1; clear tok1; have tok2 := True.intro) | (have tk := tok2; clear tk; go_at_call 21; refine (agrees_any w2.heap.size 0 1 nx1 dx1 nx2 dx2 b1 b2 _ _ _ (by exact K) (Lib.hid rfl) (Lib.hid rfl) (fun z1 z2 => (by obtain ⟨_, p1, q1, f1, f2, f3⟩ := Nx1.out z1; obtain ⟨_, p2, q2, g1, g2, g3⟩ := Nx2.out z2; exact f3.eq g3 (by rw [f1.of, f2.of, g1.of, g2.of]; grind)))).mono ?_; rintro e w6 ⟨rfl, hb6⟩; have hw6 : Below w.heap.size w w6 := stepH (by first | with_reducible exact hw5 | exact hw5.drew) hb6; replace A := keepH hb6 A.out; replace B := keepH hb6 B.out; replace C := keepH hb6 C.out; replace K := keepH hb6 K.out; have zw6 := hw6.size; replace kA0 : w6.cell? ⟨w.heap.size, 0, none⟩ = some (.int .i64 p.num) := cellH A 0; replace kA1 : w6.cell? ⟨w.heap.size, 1, none⟩ = some (.int .i64 p.den) := cellH A 1; replace kB0 : w6.cell? ⟨w.heap.size + 1, 0, none⟩ = some (.int .i64 q.num) := cellH B 0; replace kB1 : w6.cell? ⟨w.heap.size + 1, 1, none⟩ = some (.int .i64 q.den) := cellH B 1; replace kC0 : w6.cell? ⟨w.heap.size + 1 + 1, 0, none⟩ = some (.int .i64 r.num) := cellH C 0; replace kC1 : w6.cell? ⟨w.heap.size + 1 + 1, 1, none⟩ = some (.int .i64 r.den) := cellH C 1; clear tok2; have tok3 := True.intro) | (have tk := tok3; clear tk; go_at_call 23; refine (calcMul_any w2.heap.size 2 p.num p.den q.num q.den false _ _ E _ (by exact K) (Lib.hid rfl) JP.out JQ.out (HE.out.below (by first | with_reducible exact hw6 | exact hw6.drew))).mono ?_; rintro e w7 ⟨nx3, dx3, b3, rfl, Ix3, Mx3, hb7, K1⟩; have hw7 : Below w.heap.size w w7 := hb7.step (by first | with_reducible exact hw6 | exact hw6.drew) ⟨gk, by first | omega | (simp; omega)⟩; replace A := hb7.keep A nA; replace B := hb7.keep B nB; replace C := hb7.keep C nC; have zw7 := hw7.size; have K : Hid (w7.heap[w2.heap.size]? = some (.cells #[.bool b1, .bool b2, .bool b3, .bool false, .bool false, .bool false, .bool false, .bool false, .bool false, .bool false] 33 (0, 0))) := K1; clear K1; have Jx3 := Lib.hid Ix3; have Nx3 := Lib.hid Mx3; clear Ix3 Mx3; replace kA0 : w7.cell? ⟨w.heap.size, 0, none⟩ = some (.int .i64 p.num) := cellH A 0; replace kA1 : w7.cell? ⟨w.heap.size, 1, none⟩ = some (.int .i64 p.den) := cellH A 1; replace kB0 : w7.cell? ⟨w.heap.size + 1, 0, none⟩ = some (.int .i64 q.num) := cellH B 0; replace kB1 : w7.cell? ⟨w.heap.size + 1, 1, none⟩ = some (.int .i64 q.den) := cellH B 1; replace kC0 : w7.cell? ⟨w.heap.size + 1 + 1, 0, none⟩ = some (.int .i64 r.num) := cellH C 0; replace kC1 : w7.cell? ⟨w.heap.size + 1 + 1, 1, none⟩ = some (.int .i64 r.den) := cellH C 1; clear tok3; have tok4 := True.intro) | (have tk := tok4; clear tk; go_at_call 23; refine (calcMul_any w2.heap.size 3 q.num q.den p.num p.den false _ _ E _ (by exact K) (Lib.hid rfl) JQ.out JP.out (HE.out.below (by first | with_reducible exact hw7 | exact hw7.drew))).mono ?_; rintro e w8 ⟨nx4, dx4, b4, rfl, Ix4, Mx4, hb8, K1⟩; have hw8 : Below w.heap.size w w8 := hb8.step (by first | with_reducible exact hw7 | exact hw7.drew) ⟨gk, by first | omega | (simp; omega)⟩; replace A := hb8.keep A nA; replace B := hb8.keep B nB; replace C := hb8.keep C nC; have zw8 := hw8.size; have K : Hid (w8.heap[w2.heap.size]? = some (.cells #[.bool b1, .bool b2, .bool b3, .bool b4, .bool false, .bool false, .bool false, .bool false, .bool false, .bool false] 33 (0, 0))) := K1; clear K1; have Jx4 := Lib.hid Ix4; have Nx4 := Lib.hid Mx4; clear Ix4 Mx4; replace kA0 : w8.cell? ⟨w.heap.size, 0, none⟩ = some (.int .i64 p.num) := cellH A 0; replace kA1 : w8.cell? ⟨w.heap.size, 1, none⟩ = some (.int .i64 p.den) := cellH A 1; replace kB0 : w8.cell? ⟨w.heap.size + 1, 0, none⟩ = some (.int .i64 q.num) := cellH B 0; replace kB1 : w8.cell? ⟨w.heap.size + 1, 1, none⟩ = some (.int .i64 q.den) := cellH B 1; replace kC0 : w8.cell? ⟨w.heap.size + 1 + 1, 0, none⟩ = some (.int .i64 r.num) := cellH C 0; replace kC1 : w8.cell? ⟨w.heap.size + 1 + 1, 1, none⟩ = some (.int .i64 r.den) := cellH C 1; clear tok4; have tok5 := True.intro) | (have tk := tok5; clear tk; go_at_call 21; refine (agrees_any w2.heap.size 2 3 nx3 dx3 nx4 dx4 b3 b4 _ _ _ (by exact K) (Lib.hid rfl) (Lib.hid rfl) (fun z1 z2 => (by obtain ⟨_, p1, q1, f1, f2, f3⟩ := Nx3.out z1; obtain ⟨_, p2, q2, g1, g2, g3⟩ := Nx4.out z2; exact f3.eq g3 (by rw [f1.of, f2.of, g1.of, g2.of]; grind)))).mono ?_; rintro e w9 ⟨rfl, hb9⟩; have hw9 : Below w.heap.size w w9 := stepH (by first | with_reducible exact hw8 | exact hw8.drew) hb9; replace A := keepH hb9 A.out; replace B := keepH hb9 B.out; replace C := keepH hb9 C.out; replace K := keepH hb9 K.out; have zw9 := hw9.size; replace kA0 : w9.cell? ⟨w.heap.size, 0, none⟩ = some (.int .i64 p.num) := cellH A 0; replace kA1 : w9.cell? ⟨w.heap.size, 1, none⟩ = some (.int .i64 p.den) := cellH A 1; replace kB0 : w9.cell? ⟨w.heap.size + 1, 0, none⟩ = some (.int .i64 q.num) := cellH B 0; replace kB1 : w9.cell? ⟨w.heap.size + 1, 1, none⟩ = some (.int .i64 q.den) := cellH B 1; replace kC0 : w9.cell? ⟨w.heap.size + 1 + 1, 0, none⟩ = some (.int .i64 r.num) := cellH C 0; replace kC1 : w9.cell? ⟨w.heap.size + 1 + 1, 1, none⟩ = some (.int .i64 r.den) := cellH C 1; clear tok5; have tok6 := True.intro))
      clear tok6
      clear kA0
      clear kA1
      clear kB0
      clear kB1
      clear kC0
      clear kC1
      have z9 := hw9.size
      go_wp2_with fail
      go_meet
      exact ⟨rfl, ⟨_, _, _, _, K⟩, (by (repeat (first | exact Below.refl _ _ | assumption | refine Below.drew ?_ | refine below_drewN ?_ _ | refine Below.setCell ?_ (by first | omega | (simp; done) | (simp; omega)) _ | refine Below.alloc ?_ (by first | omega | (simp; done) | (simp; omega)) _))), A, B, C⟩
    case rest =>
      as_aux_lemma =>
        clear cA lA lA1 lA2 cB lB lB1 lB2 cC lC lC1 lC2 cK lK lK1 lK2
        clear A B C
        obtain ⟨rfl, ⟨b1, b2, b3, b4, K⟩, hw10, A, B, C⟩ := hcut
        obtain ⟨w10, rfl⟩ : ∃ x : World, x = wc := ⟨_, rfl⟩
        have z10 := hw10.size
        have cA := cellH A
        obtain ⟨lA, lA1, lA2⟩ := ltH A
        have cB := cellH B
        obtain ⟨lB, lB1, lB2⟩ := ltH B
        have cC := cellH C
        obtain ⟨lC, lC1, lC2⟩ := ltH C
        go_upto_region 8 with fail
        go_cut [65] (fun s65 wx => s65 = .bool false ∧ (∃ b6 b8 : Bool, Hid (wx.heap[w2.heap.size]? = some (.cells #[.bool b1, .bool b2, .bool b3, .bool b4, .bool b6, .bool b8, .bool false, .bool false, .bool false, .bool false] 33 (0, 0)))) ∧ Below w.heap.size w wx ∧ Hid (wx.heap[w.heap.size]? = some (.cells #[.int .i64 p.num, .int .i64 p.den] 23 (0, 0))) ∧ Hid (wx.heap[w.heap.size + 1]? = some (.cells #[.int .i64 q.num, .int .i64 q.den] 23 (0, 0))) ∧ Hid (wx.heap[w.heap.size + 1 + 1]? = some (.cells #[.int .i64 r.num, .int .i64 r.den] 23 (0, 0))))
        case first =>
          clear cA lA lA1 lA2 cB lB lB1 lB2 cC lC lC1 lC2
          have kA0 : w10.cell? ⟨w.heap.size, 0, none⟩ = some (.int .i64 p.num) := cellH A 0
          have kA1 : w10.cell? ⟨w.heap.size, 1, none⟩ = some (.int .i64 p.den) := cellH A 1
          have kB0 : w10.cell? ⟨w.heap.size + 1, 0, none⟩ = some (.int .i64 q.num) := cellH B 0
          have kB1 : w10.cell? ⟨w.heap.size + 1, 1, none⟩ = some (.int .i64 q.den) := cellH B 1
          have kC0 : w10.cell? ⟨w.heap.size + 1 + 1, 0, none⟩ = some (.int .i64 r.num) := cellH C 0
          have kC1 : w10.cell? ⟨w.heap.size + 1 + 1, 1, none⟩ = some (.int .i64 r.den) := cellH C 1
          have tok6 := True.intro
          go_region_held3 (fun w' => w'.cell? ⟨w.heap.size, 0, none⟩ = some (.int .i64 p.num) ∧ w'.cell? ⟨w.heap.size, 1, none⟩ = some (.int .i64 p.den) ∧ w'.cell? ⟨w.heap.size + 1, 0, none⟩ = some (.int .i64 q.num) ∧ w'.cell? ⟨w.heap.size + 1, 1, none⟩ = some (.int .i64 q.den) ∧ w'.cell? ⟨w.heap.size + 1 + 1, 0, none⟩ = some (.int .i64 r.num) ∧ w'.cell? ⟨w.heap.size + 1 + 1, 1, none⟩ = some (.int .i64 r.den)) (first | with_reducible exact ⟨kA0, kA1, kB0, kB1, kC0, kC1⟩ | go_keep)
            (first | (have tk := tok6; clear tk; go_at_call 22; refine (calcAdd_any w2.heap.size 4 p.num p.den q.num q.den false _ _ E _ (by exact K) (Lib.hid rfl) JP.out JQ.out (HE.out.below (by first | with_reducible exact hw10 | exact hw10.drew))).mono ?_; rintro e w11 ⟨nx5, dx5, b5, rfl, Ix5, Mx5, hb11, K1⟩; have hw11 : Below w.heap.size w w11 := hb11.step (by first | with_reducible exact hw10 | exact hw10.drew) ⟨gk, by first | omega | (simp; omega)⟩; replace A := hb11.keep A nA; replace B := hb11.keep B nB; replace C := hb11.keep C nC; have zw11 := hw11.size; have K : Hid (w11.heap[w2.heap.size]? = some (.cells #[.bool b1, .bool b2, .bool b3, .bool b4, .bool b5, .bool false, .bool false, .bool false, .bool false, .bool false] 33 (0, 0))) := K1; clear K1; have Jx5 := Lib.hid Ix5; have Nx5 := Lib.hid Mx5; clear Ix5 Mx5; replace kA0 : w11.cell? ⟨w.heap.size, 0, none⟩ = some (.int .i64 p.num) := cellH A 0; replace kA1 : w11.cell? ⟨w.heap.size, 1, none⟩ = some (.int .i64 p.den) := cellH A 1; replace kB0 : w11.cell? ⟨w.heap.size + 1, 0, none⟩ = some (.int .i64 q.num) := cellH B 0; replace kB1 : w11.cell? ⟨w.heap.size + 1, 1, none⟩ = some (.int .i64 q.den) := cellH B 1; replace kC0 : w11.cell? ⟨w.heap.size + 1 + 1, 0, none⟩ = some (.int .i64 r.num) := cellH C 0; replace kC1 : w11.cell? ⟨w.heap.size + 1 + 1, 1, none⟩ = some (.int .i64 r.den) := cellH C 1; clear tok6; have tok7 := True.intro) | (have tk := tok7; clear tk; go_at_call 22; refine (calcAdd_any w2.heap.size 4 nx5 dx5 r.num r.den b5 _ _ E _ (by exact K) (Lib.hid rfl) Jx5.out JR.out (HE.out.below (by first | with_reducible exact hw11 | exact hw11.drew))).mono ?_; rintro e w12 ⟨nx6, dx6, b6, rfl, Ix6, Mx6, hb12, K1⟩; have hw12 : Below w.heap.size w w12 := hb12.step (by first | with_reducible exact hw11 | exact hw11.drew) ⟨gk, by first | omega | (simp; omega)⟩; replace A := hb12.keep A nA; replace B := hb12.keep B nB; replace C := hb12.keep C nC; have zw12 := hw12.size; have K : Hid (w12.heap[w2.heap.size]? = some (.cells #[.bool b1, .bool b2, .bool b3, .bool b4, .bool b6, .bool false, .bool false, .bool false, .bool false, .bool false] 33 (0, 0))) := K1; clear K1; have Jx6 := Lib.hid Ix6; have Nx6 := Lib.hid Mx6; clear Ix6 Mx6; replace kA0 : w12.cell? ⟨w.heap.size, 0, none⟩ = some (.int .i64 p.num) := cellH A 0; replace kA1 : w12.cell? ⟨w.heap.size, 1, none⟩ = some (.int .i64 p.den) := cellH A 1; replace kB0 : w12.cell? ⟨w.heap.size + 1, 0, none⟩ = some (.int .i64 q.num) := cellH B 0; replace kB1 : w12.cell? ⟨w.heap.size + 1, 1, none⟩ = some (.int .i64 q.den) := cellH B 1; replace kC0 : w12.cell? ⟨w.heap.size + 1 + 1, 0, none⟩ = some (.int .i64 r.num) := cellH C 0; replace kC1 : w12.cell? ⟨w.heap.size + 1 + 1, 1, none⟩ = some (.int .i64 r.den) := cellH C 1; clear tok7; have tok8 := True.intro) | (have tk := tok8; clear tk; go_at_call 22; refine (calcAdd_any w2.heap.size 5 q.num q.den r.num r.den false _ _ E _ (by exact K) (Lib.hid rfl) JQ.out JR.out (HE.out.below (by first | with_reducible exact hw12 | exact hw12.drew))).mono ?_; rintro e w13 ⟨nx7, dx7, b7, rfl, Ix7, Mx7, hb13, K1⟩; have hw13 : Below w.heap.size w w13 := hb13.step (by first | with_reducible exact hw12 | exact hw12.drew) ⟨gk, by first | omega | (simp; omega)⟩; replace A := hb13.keep A nA; replace B := hb13.keep B nB; replace C := hb13.keep C nC; have zw13 := hw13.size; have K : Hid (w13.heap[w2.heap.size]? = some (.cells #[.bool b1, .bool b2, .bool b3, .bool b4, .bool b6, .bool b7, .bool false, .bool false, .bool false, .bool false] 33 (0, 0))) := K1; clear K1; have Jx7 := Lib.hid Ix7; have Nx7 := Lib.hid Mx7; clear Ix7 Mx7; replace kA0 : w13.cell? ⟨w.heap.size, 0, none⟩ = some (.int .i64 p.num) := cellH A 0; replace kA1 : w13.cell? ⟨w.heap.size, 1, none⟩ = some (.int .i64 p.den) := cellH A 1; replace kB0 : w13.cell? ⟨w.heap.size + 1, 0, none⟩ = some (.int .i64 q.num) := cellH B 0; replace kB1 : w13.cell? ⟨w.heap.size + 1, 1, none⟩ = some (.int .i64 q.den) := cellH B 1; replace kC0 : w13.cell? ⟨w.heap.size + 1 + 1, 0, none⟩ = some (.int .i64 r.num) := cellH C 0; replace kC1 : w13.cell? ⟨w.heap.size + 1 + 1, 1, none⟩ = some (.int .i64 r.den) := cellH C 1; clear tok8; have tok9 := True.intro) | (have tk := tok9; clear tk; go_at_call 22; refine (calcAdd_any w2.heap.size 5 p.num p.den nx7 dx7 b7 _ _ E _ (by exact K) (Lib.hid rfl) JP.out Jx7.out (HE.out.below (by first | with_reducible exact hw13 | exact hw13.drew))).mono ?_; rintro e w14 ⟨nx8, dx8, b8, rfl, Ix8, Mx8, hb14, K1⟩; have hw14 : Below w.heap.size w w14 := hb14.step (by first | with_reducible exact hw13 | exact hw13.drew) ⟨gk, by first | omega | (simp; omega)⟩; replace A := hb14.keep A nA; replace B := hb14.keep B nB; replace C := hb14.keep C nC; have zw14 := hw14.size; have K : Hid (w14.heap[w2.heap.size]? = some (.cells #[.bool b1, .bool b2, .bool b3, .bool b4, .bool b6, .bool b8, .bool false, .bool false, .bool false, .bool false] 33 (0, 0))) := K1; clear K1; have Jx8 := Lib.hid Ix8; have Nx8 := Lib.hid Mx8; clear Ix8 Mx8; replace kA0 : w14.cell? ⟨w.heap.size, 0, none⟩ = some (.int .i64 p.num) := cellH A 0; replace kA1 : w14.cell? ⟨w.heap.size, 1, none⟩ = some (.int .i64 p.den) := cellH A 1; replace kB0 : w14.cell? ⟨w.heap.size + 1, 0, none⟩ = some (.int .i64 q.num) := cellH B 0; replace kB1 : w14.cell? ⟨w.heap.size + 1, 1, none⟩ = some (.int .i64 q.den) := cellH B 1; replace kC0 : w14.cell? ⟨w.heap.size + 1 + 1, 0, none⟩ = some (.int .i64 r.num) := cellH C 0; replace kC1 : w14.cell? ⟨w.heap.size + 1 + 1, 1, none⟩ = some (.int .i64 r.den) := cellH C 1; clear tok9; have tok10 := True.intro) | (have tk := tok10; clear tk; go_at_call 21; refine (agrees_any w2.heap.size 4 5 nx6 dx6 nx8 dx8 b6 b8 _ _ _ (by exact K) (Lib.hid rfl) (Lib.hid rfl) (fun z1 z2 => (by obtain ⟨s1, p1, q1, f1, f2, f3⟩ := Nx6.out z1; obtain ⟨_, p2, q2, g1, g2, g3⟩ := Nx5.out s1; obtain ⟨s3, p3, q3, k1, k2, k3⟩ := Nx8.out z2; obtain ⟨_, p4, q4, m1, m2, m3⟩ := Nx7.out s3; exact f3.eq k3 (by rw [f1.same g3, f2.of, g1.of, g2.of, k1.of, k2.same m3, m1.of, m2.of]; grind)))).mono ?_; rintro e w15 ⟨rfl, hb15⟩; have hw15 : Below w.heap.size w w15 := stepH (by first | with_reducible exact hw14 | exact hw14.drew) hb15; replace A := keepH hb15 A.out; replace B := keepH hb15 B.out; replace C := keepH hb15 C.out; replace K := keepH hb15 K.out; have zw15 := hw15.size; replace kA0 : w15.cell? ⟨w.heap.size, 0, none⟩ = some (.int .i64 p.num) := cellH A 0; replace kA1 : w15.cell? ⟨w.heap.size, 1, none⟩ = some (.int .i64 p.den) := cellH A 1; replace kB0 : w15.cell? ⟨w.heap.size + 1, 0, none⟩ = some (.int .i64 q.num) := cellH B 0; replace kB1 : w15.cell? ⟨w.heap.size + 1, 1, none⟩ = some (.int .i64 q.den) := cellH B 1; replace kC0 : w15.cell? ⟨w.heap.size + 1 + 1, 0, none⟩ = some (.int .i64 r.num) := cellH C 0; replace kC1 : w15.cell? ⟨w.heap.size + 1 + 1, 1, none⟩ = some (.int .i64 r.den) := cellH C 1; clear tok10; have tok11 := True.intro))
          clear tok11
          clear kA0
          clear kA1
          clear kB0
          clear kB1
          clear kC0
          clear kC1
          have z15 := hw15.size
          go_wp2_with fail
          go_meet
          exact ⟨rfl, ⟨_, _, K⟩, (by (repeat (first | exact Below.refl _ _ | assumption | refine Below.drew ?_ | refine below_drewN ?_ _ | refine Below.setCell ?_ (by first | omega | (simp; done) | (simp; omega)) _ | refine Below.alloc ?_ (by first | omega | (simp; done) | (simp; omega)) _))), A, B, C⟩
        case rest =>
          as_aux_lemma =>
            clear cA lA lA1 lA2 cB lB lB1 lB2 cC lC lC1 lC2
            clear A B C
            obtain ⟨rfl, ⟨b6, b8, K⟩, hw16, A, B, C⟩ := hcut
            obtain ⟨w16, rfl⟩ : ∃ x : World, x = wc := ⟨_, rfl⟩
            have z16 := hw16.size
            have cA := cellH A
            obtain ⟨lA, lA1, lA2⟩ := ltH A
            have cB := cellH B
            obtain ⟨lB, lB1, lB2⟩ := ltH B
            have cC := cellH C
            obtain ⟨lC, lC1, lC2⟩ := ltH C
            go_upto_region 10 with fail
            go_cut [83] (fun s83 wx => s83 = .bool false ∧ (∃ b10 b12 : Bool, Hid (wx.heap[w2.heap.size]? = some (.cells #[.bool b1, .bool b2, .bool b3, .bool b4, .bool b6, .bool b8, .bool b10, .bool b12, .bool false, .bool false] 33 (0, 0)))) ∧ Below w.heap.size w wx ∧ Hid (wx.heap[w.heap.size]? = some (.cells #[.int .i64 p.num, .int .i64 p.den] 23 (0, 0))) ∧ Hid (wx.heap[w.heap.size + 1]? = some (.cells #[.int .i64 q.num, .int .i64 q.den] 23 (0, 0))) ∧ Hid (wx.heap[w.heap.size + 1 + 1]? = some (.cells #[.int .i64 r.num, .int .i64 r.den] 23 (0, 0))))
            case first =>
              clear cA lA lA1 lA2 cB lB lB1 lB2 cC lC lC1 lC2
              have kA0 : w16.cell? ⟨w.heap.size, 0, none⟩ = some (.int .i64 p.num) := cellH A 0
              have kA1 : w16.cell? ⟨w.heap.size, 1, none⟩ = some (.int .i64 p.den) := cellH A 1
              have kB0 : w16.cell? ⟨w.heap.size + 1, 0, none⟩ = some (.int .i64 q.num) := cellH B 0
              have kB1 : w16.cell? ⟨w.heap.size + 1, 1, none⟩ = some (.int .i64 q.den) := cellH B 1
              have kC0 : w16.cell? ⟨w.heap.size + 1 + 1, 0, none⟩ = some (.int .i64 r.num) := cellH C 0
              have kC1 : w16.cell? ⟨w.heap.size + 1 + 1, 1, none⟩ = some (.int .i64 r.den) := cellH C 1
              have tok11 := True.intro
              go_region_held3 (fun w' => w'.cell? ⟨w.heap.size, 0, none⟩ = some (.int .i64 p.num) ∧ w'.cell? ⟨w.heap.size, 1, none⟩ = some (.int .i64 p.den) ∧ w'.cell? ⟨w.heap.size + 1, 0, none⟩ = some (.int .i64 q.num) ∧ w'.cell? ⟨w.heap.size + 1, 1, none⟩ = some (.int .i64 q.den) ∧ w'.cell? ⟨w.heap.size + 1 + 1, 0, none⟩ = some (.int .i64 r.num) ∧ w'.cell? ⟨w.heap.size + 1 + 1, 1, none⟩ = some (.int .i64 r.den)) (first | with_reducible exact ⟨kA0, kA1, kB0, kB1, kC0, kC1⟩ | go_keep)
                (first | (have tk := tok11; clear tk; go_at_call 23; refine (calcMul_any w2.heap.size 6 p.num p.den q.num q.den false _ _ E _ (by exact K) (Lib.hid rfl) JP.out JQ.out (HE.out.below (by first | with_reducible exact hw16 | exact hw16.drew))).mono ?_; rintro e w17 ⟨nx9, dx9, b9, rfl, Ix9, Mx9, hb17, K1⟩; have hw17 : Below w.heap.size w w17 := hb17.step (by first | with_reducible exact hw16 | exact hw16.drew) ⟨gk, by first | omega | (simp; omega)⟩; replace A := hb17.keep A nA; replace B := hb17.keep B nB; replace C := hb17.keep C nC; have zw17 := hw17.size; have K : Hid (w17.heap[w2.heap.size]? = some (.cells #[.bool b1, .bool b2, .bool b3, .bool b4, .bool b6, .bool b8, .bool b9, .bool false, .bool false, .bool false] 33 (0, 0))) := K1; clear K1; have Jx9 := Lib.hid Ix9; have Nx9 := Lib.hid Mx9; clear Ix9 Mx9; replace kA0 : w17.cell? ⟨w.heap.size, 0, none⟩ = some (.int .i64 p.num) := cellH A 0; replace kA1 : w17.cell? ⟨w.heap.size, 1, none⟩ = some (.int .i64 p.den) := cellH A 1; replace kB0 : w17.cell? ⟨w.heap.size + 1, 0, none⟩ = some (.int .i64 q.num) := cellH B 0; replace kB1 : w17.cell? ⟨w.heap.size + 1, 1, none⟩ = some (.int .i64 q.den) := cellH B 1; replace kC0 : w17.cell? ⟨w.heap.size + 1 + 1, 0, none⟩ = some (.int .i64 r.num) := cellH C 0; replace kC1 : w17.cell? ⟨w.heap.size + 1 + 1, 1, none⟩ = some (.int .i64 r.den) := cellH C 1; clear tok11; have tok12 := True.intro) | (have tk := tok12; clear tk; go_at_call 23; refine (calcMul_any w2.heap.size 6 nx9 dx9 r.num r.den b9 _ _ E _ (by exact K) (Lib.hid rfl) Jx9.out JR.out (HE.out.below (by first | with_reducible exact hw17 | exact hw17.drew))).mono ?_; rintro e w18 ⟨nx10, dx10, b10, rfl, Ix10, Mx10, hb18, K1⟩; have hw18 : Below w.heap.size w w18 := hb18.step (by first | with_reducible exact hw17 | exact hw17.drew) ⟨gk, by first | omega | (simp; omega)⟩; replace A := hb18.keep A nA; replace B := hb18.keep B nB; replace C := hb18.keep C nC; have zw18 := hw18.size; have K : Hid (w18.heap[w2.heap.size]? = some (.cells #[.bool b1, .bool b2, .bool b3, .bool b4, .bool b6, .bool b8, .bool b10, .bool false, .bool false, .bool false] 33 (0, 0))) := K1; clear K1; have Jx10 := Lib.hid Ix10; have Nx10 := Lib.hid Mx10; clear Ix10 Mx10; replace kA0 : w18.cell? ⟨w.heap.size, 0, none⟩ = some (.int .i64 p.num) := cellH A 0; replace kA1 : w18.cell? ⟨w.heap.size, 1, none⟩ = some (.int .i64 p.den) := cellH A 1; replace kB0 : w18.cell? ⟨w.heap.size + 1, 0, none⟩ = some (.int .i64 q.num) := cellH B 0; replace kB1 : w18.cell? ⟨w.heap.size + 1, 1, none⟩ = some (.int .i64 q.den) := cellH B 1; replace kC0 : w18.cell? ⟨w.heap.size + 1 + 1, 0, none⟩ = some (.int .i64 r.num) := cellH C 0; replace kC1 : w18.cell? ⟨w.heap.size + 1 + 1, 1, none⟩ = some (.int .i64 r.den) := cellH C 1; clear tok12; have tok13 := True.intro) | (have tk := tok13; clear tk; go_at_call 23; refine (calcMul_any w2.heap.size 7 q.num q.den r.num r.den false _ _ E _ (by exact K) (Lib.hid rfl) JQ.out JR.out (HE.out.below (by first | with_reducible exact hw18 | exact hw18.drew))).mono ?_; rintro e w19 ⟨nx11, dx11, b11, rfl, Ix11, Mx11, hb19, K1⟩; have hw19 : Below w.heap.size w w19 := hb19.step (by first | with_reducible exact hw18 | exact hw18.drew) ⟨gk, by first | omega | (simp; omega)⟩; replace A := hb19.keep A nA; replace B := hb19.keep B nB; replace C := hb19.keep C nC; have zw19 := hw19.size; have K : Hid (w19.heap[w2.heap.size]? = some (.cells #[.bool b1, .bool b2, .bool b3, .bool b4, .bool b6, .bool b8, .bool b10, .bool b11, .bool false, .bool false] 33 (0, 0))) := K1; clear K1; have Jx11 := Lib.hid Ix11; have Nx11 := Lib.hid Mx11; clear Ix11 Mx11; replace kA0 : w19.cell? ⟨w.heap.size, 0, none⟩ = some (.int .i64 p.num) := cellH A 0; replace kA1 : w19.cell? ⟨w.heap.size, 1, none⟩ = some (.int .i64 p.den) := cellH A 1; replace kB0 : w19.cell? ⟨w.heap.size + 1, 0, none⟩ = some (.int .i64 q.num) := cellH B 0; replace kB1 : w19.cell? ⟨w.heap.size + 1, 1, none⟩ = some (.int .i64 q.den) := cellH B 1; replace kC0 : w19.cell? ⟨w.heap.size + 1 + 1, 0, none⟩ = some (.int .i64 r.num) := cellH C 0; replace kC1 : w19.cell? ⟨w.heap.size + 1 + 1, 1, none⟩ = some (.int .i64 r.den) := cellH C 1; clear tok13; have tok14 := True.intro) | (have tk := tok14; clear tk; go_at_call 23; refine (calcMul_any w2.heap.size 7 p.num p.den nx11 dx11 b11 _ _ E _ (by exact K) (Lib.hid rfl) JP.out Jx11.out (HE.out.below (by first | with_reducible exact hw19 | exact hw19.drew))).mono ?_; rintro e w20 ⟨nx12, dx12, b12, rfl, Ix12, Mx12, hb20, K1⟩; have hw20 : Below w.heap.size w w20 := hb20.step (by first | with_reducible exact hw19 | exact hw19.drew) ⟨gk, by first | omega | (simp; omega)⟩; replace A := hb20.keep A nA; replace B := hb20.keep B nB; replace C := hb20.keep C nC; have zw20 := hw20.size; have K : Hid (w20.heap[w2.heap.size]? = some (.cells #[.bool b1, .bool b2, .bool b3, .bool b4, .bool b6, .bool b8, .bool b10, .bool b12, .bool false, .bool false] 33 (0, 0))) := K1; clear K1; have Jx12 := Lib.hid Ix12; have Nx12 := Lib.hid Mx12; clear Ix12 Mx12; replace kA0 : w20.cell? ⟨w.heap.size, 0, none⟩ = some (.int .i64 p.num) := cellH A 0; replace kA1 : w20.cell? ⟨w.heap.size, 1, none⟩ = some (.int .i64 p.den) := cellH A 1; replace kB0 : w20.cell? ⟨w.heap.size + 1, 0, none⟩ = some (.int .i64 q.num) := cellH B 0; replace kB1 : w20.cell? ⟨w.heap.size + 1, 1, none⟩ = some (.int .i64 q.den) := cellH B 1; replace kC0 : w20.cell? ⟨w.heap.size + 1 + 1, 0, none⟩ = some (.int .i64 r.num) := cellH C 0; replace kC1 : w20.cell? ⟨w.heap.size + 1 + 1, 1, none⟩ = some (.int .i64 r.den) := cellH C 1; clear tok14; have tok15 := True.intro) | (have tk := tok15; clear tk; go_at_call 21; refine (agrees_any w2.heap.size 6 7 nx10 dx10 nx12 dx12 b10 b12 _ _ _ (by exact K) (Lib.hid rfl) (Lib.hid rfl) (fun z1 z2 => (by obtain ⟨s1, p1, q1, f1, f2, f3⟩ := Nx10.out z1; obtain ⟨_, p2, q2, g1, g2, g3⟩ := Nx9.out s1; obtain ⟨s3, p3, q3, k1, k2, k3⟩ := Nx12.out z2; obtain ⟨_, p4, q4, m1, m2, m3⟩ := Nx11.out s3; exact f3.eq k3 (by rw [f1.same g3, f2.of, g1.of, g2.of, k1.of, k2.same m3, m1.of, m2.of]; grind)))).mono ?_; rintro e w21 ⟨rfl, hb21⟩; have hw21 : Below w.heap.size w w21 := stepH (by first | with_reducible exact hw20 | exact hw20.drew) hb21; replace A := keepH hb21 A.out; replace B := keepH hb21 B.out; replace C := keepH hb21 C.out; replace K := keepH hb21 K.out; have zw21 := hw21.size; replace kA0 : w21.cell? ⟨w.heap.size, 0, none⟩ = some (.int .i64 p.num) := cellH A 0; replace kA1 : w21.cell? ⟨w.heap.size, 1, none⟩ = some (.int .i64 p.den) := cellH A 1; replace kB0 : w21.cell? ⟨w.heap.size + 1, 0, none⟩ = some (.int .i64 q.num) := cellH B 0; replace kB1 : w21.cell? ⟨w.heap.size + 1, 1, none⟩ = some (.int .i64 q.den) := cellH B 1; replace kC0 : w21.cell? ⟨w.heap.size + 1 + 1, 0, none⟩ = some (.int .i64 r.num) := cellH C 0; replace kC1 : w21.cell? ⟨w.heap.size + 1 + 1, 1, none⟩ = some (.int .i64 r.den) := cellH C 1; clear tok15; have tok16 := True.intro))
              clear tok16
              clear kA0
              clear kA1
              clear kB0
              clear kB1
              clear kC0
              clear kC1
              have z21 := hw21.size
              go_wp2_with fail
              go_meet
              exact ⟨rfl, ⟨_, _, K⟩, (by (repeat (first | exact Below.refl _ _ | assumption | refine Below.drew ?_ | refine below_drewN ?_ _ | refine Below.setCell ?_ (by first | omega | (simp; done) | (simp; omega)) _ | refine Below.alloc ?_ (by first | omega | (simp; done) | (simp; omega)) _))), A, B, C⟩
            case rest =>
              as_aux_lemma =>
                clear cA lA lA1 lA2 cB lB lB1 lB2 cC lC lC1 lC2
                clear A B C
                obtain ⟨rfl, ⟨b10, b12, K⟩, hw22, A, B, C⟩ := hcut
                obtain ⟨w22, rfl⟩ : ∃ x : World, x = wc := ⟨_, rfl⟩
                have z22 := hw22.size
                have cA := cellH A
                obtain ⟨lA, lA1, lA2⟩ := ltH A
                have cB := cellH B
                obtain ⟨lB, lB1, lB2⟩ := ltH B
                have cC := cellH C
                obtain ⟨lC, lC1, lC2⟩ := ltH C
                go_wp2_with fail
                clear cA lA lA1 lA2 cB lB lB1 lB2 cC lC lC1 lC2
                have kA0 : w22.cell? ⟨w.heap.size, 0, none⟩ = some (.int .i64 p.num) := cellH A 0
                have kA1 : w22.cell? ⟨w.heap.size, 1, none⟩ = some (.int .i64 p.den) := cellH A 1
                have kB0 : w22.cell? ⟨w.heap.size + 1, 0, none⟩ = some (.int .i64 q.num) := cellH B 0
                have kB1 : w22.cell? ⟨w.heap.size + 1, 1, none⟩ = some (.int .i64 q.den) := cellH B 1
                have kC0 : w22.cell? ⟨w.heap.size + 1 + 1, 0, none⟩ = some (.int .i64 r.num) := cellH C 0
                have kC1 : w22.cell? ⟨w.heap.size + 1 + 1, 1, none⟩ = some (.int .i64 r.den) := cellH C 1
                have tok16 := True.intro
                go_region_held3 (fun w' => w'.cell? ⟨w.heap.size, 0, none⟩ = some (.int .i64 p.num) ∧ w'.cell? ⟨w.heap.size, 1, none⟩ = some (.int .i64 p.den) ∧ w'.cell? ⟨w.heap.size + 1, 0, none⟩ = some (.int .i64 q.num) ∧ w'.cell? ⟨w.heap.size + 1, 1, none⟩ = some (.int .i64 q.den) ∧ w'.cell? ⟨w.heap.size + 1 + 1, 0, none⟩ = some (.int .i64 r.num) ∧ w'.cell? ⟨w.heap.size + 1 + 1, 1, none⟩ = some (.int .i64 r.den)) (first | with_reducible exact ⟨kA0, kA1, kB0, kB1, kC0, kC1⟩ | go_keep)
                  (first | (have tk := tok16; clear tk; go_at_call 22; refine (calcAdd_any w2.heap.size 8 q.num q.den r.num r.den false _ _ E _ (by exact K) (Lib.hid rfl) JQ.out JR.out (HE.out.below (by first | with_reducible exact hw22 | exact hw22.drew))).mono ?_; rintro e w23 ⟨nx13, dx13, b13, rfl, Ix13, Mx13, hb23, K1⟩; have hw23 : Below w.heap.size w w23 := hb23.step (by first | with_reducible exact hw22 | exact hw22.drew) ⟨gk, by first | omega | (simp; omega)⟩; replace A := hb23.keep A nA; replace B := hb23.keep B nB; replace C := hb23.keep C nC; have zw23 := hw23.size; have K : Hid (w23.heap[w2.heap.size]? = some (.cells #[.bool b1, .bool b2, .bool b3, .bool b4, .bool b6, .bool b8, .bool b10, .bool b12, .bool b13, .bool false] 33 (0, 0))) := K1; clear K1; have Jx13 := Lib.hid Ix13; have Nx13 := Lib.hid Mx13; clear Ix13 Mx13; replace kA0 : w23.cell? ⟨w.heap.size, 0, none⟩ = some (.int .i64 p.num) := cellH A 0; replace kA1 : w23.cell? ⟨w.heap.size, 1, none⟩ = some (.int .i64 p.den) := cellH A 1; replace kB0 : w23.cell? ⟨w.heap.size + 1, 0, none⟩ = some (.int .i64 q.num) := cellH B 0; replace kB1 : w23.cell? ⟨w.heap.size + 1, 1, none⟩ = some (.int .i64 q.den) := cellH B 1; replace kC0 : w23.cell? ⟨w.heap.size + 1 + 1, 0, none⟩ = some (.int .i64 r.num) := cellH C 0; replace kC1 : w23.cell? ⟨w.heap.size + 1 + 1, 1, none⟩ = some (.int .i64 r.den) := cellH C 1; clear tok16; have tok17 := True.intro) | (have tk := tok17; clear tk; go_at_call 23; refine (calcMul_any w2.heap.size 8 p.num p.den nx13 dx13 b13 _ _ E _ (by exact K) (Lib.hid rfl) JP.out Jx13.out (HE.out.below (by first | with_reducible exact hw23 | exact hw23.drew))).mono ?_; rintro e w24 ⟨nx14, dx14, b14, rfl, Ix14, Mx14, hb24, K1⟩; have hw24 : Below w.heap.size w w24 := hb24.step (by first | with_reducible exact hw23 | exact hw23.drew) ⟨gk, by first | omega | (simp; omega)⟩; replace A := hb24.keep A nA; replace B := hb24.keep B nB; replace C := hb24.keep C nC; have zw24 := hw24.size; have K : Hid (w24.heap[w2.heap.size]? = some (.cells #[.bool b1, .bool b2, .bool b3, .bool b4, .bool b6, .bool b8, .bool b10, .bool b12, .bool b14, .bool false] 33 (0, 0))) := K1; clear K1; have Jx14 := Lib.hid Ix14; have Nx14 := Lib.hid Mx14; clear Ix14 Mx14; replace kA0 : w24.cell? ⟨w.heap.size, 0, none⟩ = some (.int .i64 p.num) := cellH A 0; replace kA1 : w24.cell? ⟨w.heap.size, 1, none⟩ = some (.int .i64 p.den) := cellH A 1; replace kB0 : w24.cell? ⟨w.heap.size + 1, 0, none⟩ = some (.int .i64 q.num) := cellH B 0; replace kB1 : w24.cell? ⟨w.heap.size + 1, 1, none⟩ = some (.int .i64 q.den) := cellH B 1; replace kC0 : w24.cell? ⟨w.heap.size + 1 + 1, 0, none⟩ = some (.int .i64 r.num) := cellH C 0; replace kC1 : w24.cell? ⟨w.heap.size + 1 + 1, 1, none⟩ = some (.int .i64 r.den) := cellH C 1; clear tok17; have tok18 := True.intro) | (have tk := tok18; clear tk; go_at_call 23; refine (calcMul_any w2.heap.size 9 p.num p.den q.num q.den false _ _ E _ (by exact K) (Lib.hid rfl) JP.out JQ.out (HE.out.below (by first | with_reducible exact hw24 | exact hw24.drew))).mono ?_; rintro e w25 ⟨nx15, dx15, b15, rfl, Ix15, Mx15, hb25, K1⟩; have hw25 : Below w.heap.size w w25 := hb25.step (by first | with_reducible exact hw24 | exact hw24.drew) ⟨gk, by first | omega | (simp; omega)⟩; replace A := hb25.keep A nA; replace B := hb25.keep B nB; replace C := hb25.keep C nC; have zw25 := hw25.size; have K : Hid (w25.heap[w2.heap.size]? = some (.cells #[.bool b1, .bool b2, .bool b3, .bool b4, .bool b6, .bool b8, .bool b10, .bool b12, .bool b14, .bool b15] 33 (0, 0))) := K1; clear K1; have Jx15 := Lib.hid Ix15; have Nx15 := Lib.hid Mx15; clear Ix15 Mx15; replace kA0 : w25.cell? ⟨w.heap.size, 0, none⟩ = some (.int .i64 p.num) := cellH A 0; replace kA1 : w25.cell? ⟨w.heap.size, 1, none⟩ = some (.int .i64 p.den) := cellH A 1; replace kB0 : w25.cell? ⟨w.heap.size + 1, 0, none⟩ = some (.int .i64 q.num) := cellH B 0; replace kB1 : w25.cell? ⟨w.heap.size + 1, 1, none⟩ = some (.int .i64 q.den) := cellH B 1; replace kC0 : w25.cell? ⟨w.heap.size + 1 + 1, 0, none⟩ = some (.int .i64 r.num) := cellH C 0; replace kC1 : w25.cell? ⟨w.heap.size + 1 + 1, 1, none⟩ = some (.int .i64 r.den) := cellH C 1; clear tok18; have tok19 := True.intro) | (have tk := tok19; clear tk; go_at_call 23; refine (calcMul_any w2.heap.size 9 p.num p.den r.num r.den b15 _ _ E _ (by exact K) (Lib.hid rfl) JP.out JR.out (HE.out.below (by first | with_reducible exact hw25 | exact hw25.drew))).mono ?_; rintro e w26 ⟨nx16, dx16, b16, rfl, Ix16, Mx16, hb26, K1⟩; have hw26 : Below w.heap.size w w26 := hb26.step (by first | with_reducible exact hw25 | exact hw25.drew) ⟨gk, by first | omega | (simp; omega)⟩; replace A := hb26.keep A nA; replace B := hb26.keep B nB; replace C := hb26.keep C nC; have zw26 := hw26.size; have K : Hid (w26.heap[w2.heap.size]? = some (.cells #[.bool b1, .bool b2, .bool b3, .bool b4, .bool b6, .bool b8, .bool b10, .bool b12, .bool b14, .bool b16] 33 (0, 0))) := K1; clear K1; have Jx16 := Lib.hid Ix16; have Nx16 := Lib.hid Mx16; clear Ix16 Mx16; replace kA0 : w26.cell? ⟨w.heap.size, 0, none⟩ = some (.int .i64 p.num) := cellH A 0; replace kA1 : w26.cell? ⟨w.heap.size, 1, none⟩ = some (.int .i64 p.den) := cellH A 1; replace kB0 : w26.cell? ⟨w.heap.size + 1, 0, none⟩ = some (.int .i64 q.num) := cellH B 0; replace kB1 : w26.cell? ⟨w.heap.size + 1, 1, none⟩ = some (.int .i64 q.den) := cellH B 1; replace kC0 : w26.cell? ⟨w.heap.size + 1 + 1, 0, none⟩ = some (.int .i64 r.num) := cellH C 0; replace kC1 : w26.cell? ⟨w.heap.size + 1 + 1, 1, none⟩ = some (.int .i64 r.den) := cellH C 1; clear tok19; have tok20 := True.intro) | (have tk := tok20; clear tk; go_at_call 22; refine (calcAdd_any w2.heap.size 9 nx15 dx15 nx16 dx16 b16 _ _ E _ (by exact K) (Lib.hid rfl) Jx15.out Jx16.out (HE.out.below (by first | with_reducible exact hw26 | exact hw26.drew))).mono ?_; rintro e w27 ⟨nx17, dx17, b17, rfl, Ix17, Mx17, hb27, K1⟩; have hw27 : Below w.heap.size w w27 := hb27.step (by first | with_reducible exact hw26 | exact hw26.drew) ⟨gk, by first | omega | (simp; omega)⟩; replace A := hb27.keep A nA; replace B := hb27.keep B nB; replace C := hb27.keep C nC; have zw27 := hw27.size; have K : Hid (w27.heap[w2.heap.size]? = some (.cells #[.bool b1, .bool b2, .bool b3, .bool b4, .bool b6, .bool b8, .bool b10, .bool b12, .bool b14, .bool b17] 33 (0, 0))) := K1; clear K1; have Jx17 := Lib.hid Ix17; have Nx17 := Lib.hid Mx17; clear Ix17 Mx17; replace kA0 : w27.cell? ⟨w.heap.size, 0, none⟩ = some (.int .i64 p.num) := cellH A 0; replace kA1 : w27.cell? ⟨w.heap.size, 1, none⟩ = some (.int .i64 p.den) := cellH A 1; replace kB0 : w27.cell? ⟨w.heap.size + 1, 0, none⟩ = some (.int .i64 q.num) := cellH B 0; replace kB1 : w27.cell? ⟨w.heap.size + 1, 1, none⟩ = some (.int .i64 q.den) := cellH B 1; replace kC0 : w27.cell? ⟨w.heap.size + 1 + 1, 0, none⟩ = some (.int .i64 r.num) := cellH C 0; replace kC1 : w27.cell? ⟨w.heap.size + 1 + 1, 1, none⟩ = some (.int .i64 r.den) := cellH C 1; clear tok20; have tok21 := True.intro) | (have tk := tok21; clear tk; go_at_call 21; refine (agrees_any w2.heap.size 8 9 nx14 dx14 nx17 dx17 b14 b17 _ _ _ (by exact K) (Lib.hid rfl) (Lib.hid rfl) (fun z1 z2 => (by obtain ⟨s1, p1, q1, f1, f2, f3⟩ := Nx14.out z1; obtain ⟨_, p2, q2, g1, g2, g3⟩ := Nx13.out s1; obtain ⟨s3, p3, q3, k1, k2, k3⟩ := Nx17.out z2; obtain ⟨s4, p4, q4, m1, m2, m3⟩ := Nx16.out s3; obtain ⟨_, p5, q5, o1, o2, o3⟩ := Nx15.out s4; exact f3.eq k3 (by rw [f1.of, f2.same g3, g1.of, g2.of, k1.same o3, k2.same m3, m1.of, m2.of, o1.of, o2.of]; grind)))).mono ?_; rintro e w28 ⟨rfl, hb28⟩; have hw28 : Below w.heap.size w w28 := stepH (by first | with_reducible exact hw27 | exact hw27.drew) hb28; replace A := keepH hb28 A.out; replace B := keepH hb28 B.out; replace C := keepH hb28 C.out; replace K := keepH hb28 K.out; have zw28 := hw28.size; replace kA0 : w28.cell? ⟨w.heap.size, 0, none⟩ = some (.int .i64 p.num) := cellH A 0; replace kA1 : w28.cell? ⟨w.heap.size, 1, none⟩ = some (.int .i64 p.den) := cellH A 1; replace kB0 : w28.cell? ⟨w.heap.size + 1, 0, none⟩ = some (.int .i64 q.num) := cellH B 0; replace kB1 : w28.cell? ⟨w.heap.size + 1, 1, none⟩ = some (.int .i64 q.den) := cellH B 1; replace kC0 : w28.cell? ⟨w.heap.size + 1 + 1, 0, none⟩ = some (.int .i64 r.num) := cellH C 0; replace kC1 : w28.cell? ⟨w.heap.size + 1 + 1, 1, none⟩ = some (.int .i64 r.den) := cellH C 1; clear tok21; have tok22 := True.intro))
                clear tok22
                clear kA0
                clear kA1
                clear kB0
                clear kB1
                clear kC0
                clear kC1
                have z28 := hw28.size
                go_wp2_with fail
                go_ret
                exact ⟨rfl, hw28⟩
end Go.Proofs.YtbmkbhclkaopaaaDoor
