/- The walk of FracWhole. -/
import Derived.Test.YtbmkbhclkaopaaaDoorFracG
namespace Go.Proofs.YtbmkbhclkaopaaaDoor
open Go.RowKit

theorem whole_math (n d : Int) (d1 : 1 ≤ d) (hg : Int.gcd n d = 1) : n / d * d ≤ n ∧ n < (n / d + 1) * d ∧ n ≤ (-(-n / d)) * d ∧ ((-(-n / d) = n / d) ↔ d = 1) ∧ (-(-n / d) = n / d ∨ -(-n / d) = n / d + 1) := by
  have e1 := Int.mul_ediv_add_emod n d
  have r1 := Int.emod_nonneg n (show d ≠ 0 by omega)
  have r2 := Int.emod_lt_of_pos n (show 0 < d by omega)
  have e2 := Int.mul_ediv_add_emod (-n) d
  have r3 := Int.emod_nonneg (-n) (show d ≠ 0 by omega)
  have r4 := Int.emod_lt_of_pos (-n) (show 0 < d by omega)
  have hz : n % d = 0 → d = 1 := fun h => by
    have h1 : d ∣ n := Int.dvd_of_emod_eq_zero h
    have h2 := Int.gcd_eq_right (by omega) h1
    rw [hg] at h2
    omega
  generalize hx : n / d = x at *
  generalize hy : -n / d = y at *
  have h : d * (x + y) = -(n % d) - (-n % d) := by rw [Int.mul_add]; omega
  have h1 : d * (x + y) < d * 1 := by omega
  have h2 : d * (-2) < d * (x + y) := by omega
  have h3 := Int.lt_of_mul_lt_mul_left h1 (by omega)
  have h4 := Int.lt_of_mul_lt_mul_left h2 (by omega)
  have h5 : x + y = 0 ∨ x + y = -1 := by omega
  have e3 : x * d = d * x := Int.mul_comm _ _
  have e4 : (x + 1) * d = d * x + d := by rw [Int.add_mul, e3]; omega
  have e5 : (-y) * d = -(d * y) := by rw [Int.neg_mul, Int.mul_comm]
  refine ⟨by omega, by omega, by omega, ⟨fun hh => ?_, fun hh => ?_⟩, by omega⟩
  · have h6 : x + y = 0 := by omega
    rw [h6, Int.mul_zero] at h
    exact hz (by omega)
  · subst hh
    omega

set_option maxHeartbeats 4000000 in
theorem fracWhole_walk (n d : Int) (E : Nat → Addr) (w : World) (b1 : -9223372036854775808 ≤ n) (b2 : n ≤ 9223372036854775807) (b3 : -9223372036854775808 ≤ d) (b4 : d ≤ 9223372036854775807) (hE : Env LF E w) :
    Calls Tryd.prog 6 #[.agg #[.int .i64 n, .int .i64 d]] w fun e w' => e = .returned (.bool true) ∧ Below w.heap.size w w' := by
  have HE : Hid (Env LF E w) := hE
  clear hE
  have V := refValid_any n d
  unfold pv at V
  cases hv : validB n d
  · rw [hv] at V
    clear hv
    have HV := Lib.hid V
    clear V
    go_enter Tryd.func6, Tryd.ntmps6
    go_wp2_with fail
    refine (first_any E _ (HE.out.below (by (repeat (first | exact Below.refl _ _ | assumption | refine Below.drew ?_ | refine below_drewN ?_ _ | refine Below.setCell ?_ (by first | omega | (simp; done) | (simp; omega)) _ | refine Below.alloc ?_ (by first | omega | (simp; done) | (simp; omega)) _))))).mono ?_
    rintro e w1 ⟨rfl, hb1⟩
    have hw1 : Below w.heap.size w w1 := stepH (by (repeat (first | exact Below.refl _ _ | assumption | refine Below.drew ?_ | refine below_drewN ?_ _ | refine Below.setCell ?_ (by first | omega | (simp; done) | (simp; omega)) _ | refine Below.alloc ?_ (by first | omega | (simp; done) | (simp; omega)) _))) hb1
    have X := keepH hb1 (g := w.heap.size) (blk_new rfl)
    have z1 := hw1.size
    clear hb1
    have cX := cellH X
    go_wp2_with fail
    refine (HV.out _ (by omega) (by omega) (by omega) (by omega)).mono ?_
    rintro e w2 ⟨rfl, hb2⟩
    have hw2 : Below w.heap.size w w2 := stepH (by (repeat (first | exact Below.refl _ _ | assumption | refine Below.drew ?_ | refine below_drewN ?_ _ | refine Below.setCell ?_ (by first | omega | (simp; done) | (simp; omega)) _ | refine Below.alloc ?_ (by first | omega | (simp; done) | (simp; omega)) _))) hb2
    have X := keepH hb2 X.out
    have z2 := hw2.size
    clear hb2 hw1 z1
    have cX := cellH X
    go_wp2_with fail
    go_ret
    exact ⟨rfl, hw2⟩
  · rw [hv] at V
    have hv' := hv
    unfold validB at hv'
    simp only [decide_eq_true_eq] at hv'
    obtain ⟨d1, d2, n1, n2, hg⟩ := hv'
    have M := whole_math n d d1 hg
    have qb : -1000000000000 ≤ n / d ∧ n / d ≤ 1000000000000 := by
      constructor
      · exact Int.le_ediv_of_mul_le (by omega) (by rw [Int.mul_comm]; have := Int.mul_le_mul_of_nonneg_left d1 (show (0:Int) ≤ 1000000000000 by omega); omega)
      · exact Int.ediv_le_of_le_mul (by omega) (by have := Int.mul_le_mul_of_nonneg_left d1 (show (0:Int) ≤ 1000000000000 by omega); omega)
    have qc : -1000000000000 ≤ -n / d ∧ -n / d ≤ 1000000000000 := by
      constructor
      · exact Int.le_ediv_of_mul_le (by omega) (by rw [Int.mul_comm]; have := Int.mul_le_mul_of_nonneg_left d1 (show (0:Int) ≤ 1000000000000 by omega); omega)
      · exact Int.ediv_le_of_le_mul (by omega) (by have := Int.mul_le_mul_of_nonneg_left d1 (show (0:Int) ≤ 1000000000000 by omega); omega)
    have cF := fun w => floor_any n d w n1 n2 d1 d2
    have cC := fun w => ceil_any n d w n1 n2 d1 d2
    have cN := fun w => neg_good n d w (by omega) (by omega)
    have cF2 := fun w => floor_any (-n) d w (by omega) (by omega) d1 d2
    have HC := Lib.hid cC
    clear hg hv cC
    generalize hx : n / d = x at *
    generalize hy : -n / d = y at *
    have HF := Lib.hid cF
    have HN := Lib.hid cN
    have HF2 := Lib.hid cF2
    clear hx hy cF cN cF2
    have p1 : -1000000000000000000 ≤ x * d ∧ x * d ≤ 1000000000000000000 := prod_le qb.1 qb.2 d1 d2
    have p2 : (x + 1) * d = x * d + d := by rw [Int.add_mul]; omega
    have p3 : -y * d = -(y * d) := Int.neg_mul _ _
    have p4 : -1000000000000000000 ≤ y * d ∧ y * d ≤ 1000000000000000000 := prod_le qc.1 qc.2 d1 d2
    obtain ⟨m1, m2, m3, m4, m5⟩ := M
    rw [p2] at m2
    rw [p3] at m3
    have P2 := Lib.hid p2
    clear p2
    have g1 : -1000000000000000000 ≤ (x + 1) * d ∧ (x + 1) * d ≤ 1000001000000000000 ∧ n < (x + 1) * d := by rw [P2.out]; omega
    have g2 : -1000000000000000000 ≤ -y * d ∧ -y * d ≤ 1000000000000000000 ∧ n ≤ -y * d := by rw [p3]; omega
    have t1 : ((-y) == x) = (d == 1) := by
      rw [Bool.eq_iff_iff, beq_iff_eq, beq_iff_eq]; exact m4
    clear P2 p3 m2 m3 m4
    have five : (x = -y ∧ d = 1) ∨ (x + 1 = -y ∧ 1 < d) := by
      have t1' := t1
      rcases m5 with h | h
      · left; refine ⟨h.symm, ?_⟩; rw [h] at t1'; simpa using t1'.symm
      · right; refine ⟨h.symm, ?_⟩; have : ((-y) == x) = false := by simpa using (show -y ≠ x by omega)
        rw [this] at t1'; have : d ≠ 1 := by simpa using t1'.symm
        omega
    clear t1 m5
    have HV := Lib.hid V
    clear V
    go_enter Tryd.func6, Tryd.ntmps6
    go_wp2_with fail
    refine (first_any E _ (HE.out.below (by (repeat (first | exact Below.refl _ _ | assumption | refine Below.drew ?_ | refine below_drewN ?_ _ | refine Below.setCell ?_ (by first | omega | (simp; done) | (simp; omega)) _ | refine Below.alloc ?_ (by first | omega | (simp; done) | (simp; omega)) _))))).mono ?_
    rintro e w1 ⟨rfl, hb1⟩
    have hw1 : Below w.heap.size w w1 := stepH (by (repeat (first | exact Below.refl _ _ | assumption | refine Below.drew ?_ | refine below_drewN ?_ _ | refine Below.setCell ?_ (by first | omega | (simp; done) | (simp; omega)) _ | refine Below.alloc ?_ (by first | omega | (simp; done) | (simp; omega)) _))) hb1
    have X := keepH hb1 (g := w.heap.size) (blk_new rfl)
    have z1 := hw1.size
    clear hb1
    have cX := cellH X
    go_wp2_with fail
    refine (HV.out _ (by omega) (by omega) (by omega) (by omega)).mono ?_
    rintro e w2 ⟨rfl, hb2⟩
    have hw2 : Below w.heap.size w w2 := stepH (by (repeat (first | exact Below.refl _ _ | assumption | refine Below.drew ?_ | refine below_drewN ?_ _ | refine Below.setCell ?_ (by first | omega | (simp; done) | (simp; omega)) _ | refine Below.alloc ?_ (by first | omega | (simp; done) | (simp; omega)) _))) hb2
    have X := keepH hb2 X.out
    have z2 := hw2.size
    clear hb2 hw1 z1
    have cX := cellH X
    go_wp2_with fail
    refine (HF.out _).mono ?_
    rintro e w3 ⟨rfl, hb3⟩
    have hw3 : Below w.heap.size w w3 := stepH (by (repeat (first | exact Below.refl _ _ | assumption | refine Below.drew ?_ | refine below_drewN ?_ _ | refine Below.setCell ?_ (by first | omega | (simp; done) | (simp; omega)) _ | refine Below.alloc ?_ (by first | omega | (simp; done) | (simp; omega)) _))) hb3
    have X := keepH hb3 X.out
    have z3 := hw3.size
    clear hb3 hw2 z2
    have cX := cellH X
    go_wp2_with fail
    refine (HC.out _).mono ?_
    rintro e w4 ⟨rfl, hb4⟩
    have hw4 : Below w.heap.size w w4 := stepH (by (repeat (first | exact Below.refl _ _ | assumption | refine Below.drew ?_ | refine below_drewN ?_ _ | refine Below.setCell ?_ (by first | omega | (simp; done) | (simp; omega)) _ | refine Below.alloc ?_ (by first | omega | (simp; done) | (simp; omega)) _))) hb4
    have X := keepH hb4 X.out
    have z4 := hw4.size
    clear hb4 hw3 z3
    have cX := cellH X
    go_wp2_with fail
    refine (HN.out _).mono ?_
    rintro e w5 ⟨rfl, hb5⟩
    have hw5 : Below w.heap.size w w5 := stepH (by (repeat (first | exact Below.refl _ _ | assumption | refine Below.drew ?_ | refine below_drewN ?_ _ | refine Below.setCell ?_ (by first | omega | (simp; done) | (simp; omega)) _ | refine Below.alloc ?_ (by first | omega | (simp; done) | (simp; omega)) _))) hb5
    have X := keepH hb5 X.out
    have z5 := hw5.size
    clear hb5 hw4 z4
    have cX := cellH X
    go_wp2_with fail
    refine (HF2.out _).mono ?_
    rintro e w6 ⟨rfl, hb6⟩
    have hw6 : Below w.heap.size w w6 := stepH (by (repeat (first | exact Below.refl _ _ | assumption | refine Below.drew ?_ | refine below_drewN ?_ _ | refine Below.setCell ?_ (by first | omega | (simp; done) | (simp; omega)) _ | refine Below.alloc ?_ (by first | omega | (simp; done) | (simp; omega)) _))) hb6
    have X := keepH hb6 X.out
    have z6 := hw6.size
    clear hb6 hw5 z5
    have cX := cellH X
    rcases five with ⟨h, hd⟩ | ⟨h, hd⟩
    · subst h
      subst hd
      go_wp2_with fail
      go_ret
      exact ⟨ret_bool (by first | rfl | (simp; done) | (simp; omega)), hw6⟩
    · have f1 : (-y == x) = false := by simp; omega
      have f2 : (d == 1) = false := by simp; omega
      have f3 : (-y != x) = true := by simp; omega
      have f4 : (-y != x + 1) = false := by simp; omega
      clear h
      go_wp2_with fail
      all_goals go_ret
      all_goals exact ⟨ret_bool (by first | rfl | (simp; done) | (simp; omega)), hw6⟩
end Go.Proofs.YtbmkbhclkaopaaaDoor
