/- The walks of round: Round -/
import Derived.Deep.DeepCutAuto
import Derived.Deep.RegionHeld3
import Derived.Deep.RegionWith
import Derived.Test.YtcbglkkmblmbnaaDoorRoundV
namespace Go.Proofs.YtcbglkkmblmbnaaDoor
open Go.RowKit

/-- how many units an amount is, rounded: N over D is the amount over the unit, lo: it is below 0 -/
def rkI (mode : Int) (lo : Bool) (N D : Int) : Int := if N % D = 0 then N / D else if upI mode (N / D) (N % D) D lo then N / D + 1 else N / D
/-- what Round answers -/
def roundI (n d mode un ud : Int) : Except Nat Rat :=
  if validB n d = false then .error 2 else if rdB mode un ud = false then .error 4 else if mode = 0 then .ok (Rat.divInt n d)
  else goodR (Rat.divInt (rkI mode (decide (n < 0)) (n * ud) (d * un) * un) ud)
theorem roundI_frac {n d mode un ud : Int} (h : validB n d = false) : roundI n d mode un ud = .error 2 := by unfold roundI; rw [if_pos h]
theorem roundI_round {n d mode un ud : Int} (h : validB n d = true) (h2 : rdB mode un ud = false) : roundI n d mode un ud = .error 4 := by unfold roundI; rw [if_neg (by rw [h]; simp), if_pos h2]
theorem roundI_none {n d un ud : Int} (h : validB n d = true) (h2 : rdB 0 un ud = true) : roundI n d 0 un ud = .ok (Rat.divInt n d) := by unfold roundI; rw [if_neg (by rw [h]; simp), if_neg (by rw [h2]; simp), if_pos rfl]
theorem roundI_some {n d mode un ud : Int} (h : validB n d = true) (h2 : rdB mode un ud = true) (h3 : mode ≠ 0) : roundI n d mode un ud = goodR (Rat.divInt (rkI mode (decide (n < 0)) (n * ud) (d * un) * un) ud) := by
  unfold roundI; rw [if_neg (by rw [h]; simp), if_neg (by rw [h2]; simp), if_neg h3]
theorem rdB_some {mode un ud : Int} (h : rdB mode un ud = true) (h0 : mode ≠ 0) : 1 ≤ mode ∧ mode ≤ 6 ∧ validB un ud = true ∧ 0 < un := by
  unfold rdB at h
  rw [if_neg h0] at h
  simp only [Bool.and_eq_true, decide_eq_true_eq] at h
  obtain ⟨⟨⟨h1, h2⟩, h3⟩, h4⟩ := h
  exact ⟨by omega, h2, h3, h4⟩
theorem rkI_exact {mode : Int} {lo : Bool} {N D : Int} (h : N % D = 0) : rkI mode lo N D = N / D := by unfold rkI; rw [if_pos h]
theorem rkI_up {mode : Int} {lo b : Bool} {N D : Int} (h : ¬ N % D = 0) (hb : upI mode (N / D) (N % D) D lo = b) : rkI mode lo N D = if b then N / D + 1 else N / D := by unfold rkI; rw [if_neg h, hb]
theorem exact_x {n d un ud : Int} (hd : 0 < d) (hv : 0 < ud) (h : n * ud % (d * un) = 0) : Rat.divInt (n * ud / (d * un) * un) ud = Rat.divInt n d := by
  have e := Int.mul_ediv_add_emod (n * ud) (d * un)
  rw [h, Int.add_zero] at e
  generalize n * ud / (d * un) = q at *
  rw [Rat.divInt_eq_divInt_iff (by omega) (by omega), ← e]
  grind
theorem locate_told (n : Int) (d un ud : Nat) (w : World) (n1 : -1000000000000 ≤ n) (n2 : n ≤ 1000000000000) (d1 : 1 ≤ d) (d2 : d ≤ 1000000) (u1 : 1 ≤ un) (u2 : un ≤ 1000000000000) (v1 : 1 ≤ ud) (v2 : ud ≤ 1000000) :
    Calls Tryd.prog 44 #[.agg #[.int .i64 n, .int .i64 d], .agg #[.int .i64 un, .int .i64 ud]] w fun e w' =>
      (∃ (U P D : Int) (ex : Bool), e = .returned (plV U P D (decide (n < 0)) ex) ∧ Hid (U = n * ud / (d * un) ∧ P = n * ud % (d * un) ∧ D = d * un ∧ ex = decide (n * ud % (d * un) = 0)) ∧ -1000000000000000000 ≤ U ∧ U ≤ 1000000000000000000 ∧ 0 ≤ P ∧ P ≤ D ∧ D ≤ 1000000000000000000) ∧ Below w.heap.size w w' := by
  refine (locate_any n d un ud w n1 n2 d1 d2 u1 u2 v1 v2).mono ?_
  rintro e w' ⟨rfl, hb⟩
  have pd : 1 ≤ (d : Int) * un := by have := Nat.mul_pos d1 u1; have e : (d : Int) * un = ((d * un : Nat) : Int) := by push_cast; rfl
                                     omega
  have pd2 : (d : Int) * un ≤ 1000000000000000000 := by have := prodN d2 u2; have e : (d : Int) * un = ((d * un : Nat) : Int) := by push_cast; rfl
                                                        omega
  have pn := prod_le n1 n2 (d := (ud : Int)) (by omega) (by omega)
  have m0 := Int.emod_nonneg (n * ud) (show (d : Int) * un ≠ 0 by omega)
  have m1 := Int.emod_lt_of_pos (n * ud) (show 0 < (d : Int) * un by omega)
  refine ⟨⟨_, _, _, _, rfl, ⟨rfl, rfl, rfl, rfl⟩, ?_, ?_, m0, by omega, pd2⟩, hb⟩
  · exact Int.le_ediv_of_mul_le (by omega) (by have := Int.mul_le_mul_of_nonneg_left pd (show (0 : Int) ≤ 1000000000000000000 by omega); rw [Int.neg_mul]; omega)
  · exact Int.ediv_le_of_le_mul (by omega) (by have := Int.mul_le_mul_of_nonneg_left pd (show (0 : Int) ≤ 1000000000000000000 by omega); omega)
theorem divInt_valid {n d : Int} (h : validB n d = true) : goodR (Rat.divInt n d) = .ok (Rat.divInt n d) ∧ (Rat.divInt n d).num = n ∧ ((Rat.divInt n d).den : Int) = d := by
  obtain ⟨q, hq, rfl, rfl⟩ := good_of_validB h
  rw [Rat.num_divInt_den]
  exact ⟨by unfold goodR; rw [if_pos hq], rfl, rfl⟩
theorem nat_of_valid {n d : Int} (h : validB n d = true) : -1000000000000 ≤ n ∧ n ≤ 1000000000000 ∧ ∃ k : Nat, d = k ∧ 1 ≤ k ∧ k ≤ 1000000 ∧ (0 < n → ∃ m : Nat, n = m ∧ 1 ≤ m ∧ m ≤ 1000000000000 ∧ Nat.gcd m k = 1) := by
  obtain ⟨q, hq, rfl, rfl⟩ := good_of_validB h
  obtain ⟨a, b, c, d⟩ := num_le hq
  refine ⟨a, b, q.den, rfl, by omega, by omega, fun h0 => ⟨q.num.toNat, by omega, by omega, by omega, ?_⟩⟩
  have := q.reduced
  rwa [show q.num.natAbs = q.num.toNat by omega] at this
/-- five ints of Go -/
def B5 (n d mode un ud : Int) : Prop := (-9223372036854775808 ≤ n ∧ n ≤ 9223372036854775807) ∧ (-9223372036854775808 ≤ d ∧ d ≤ 9223372036854775807) ∧ (-9223372036854775808 ≤ mode ∧ mode ≤ 9223372036854775807) ∧ (-9223372036854775808 ≤ un ∧ un ≤ 9223372036854775807) ∧ (-9223372036854775808 ≤ ud ∧ ud ≤ 9223372036854775807)

set_option maxRecDepth 10000 in
set_option maxHeartbeats 40000000 in
theorem round_any (n d mode un ud : Int) (E : Nat → Addr) (w : World) (B : B5 n d mode un ud) (hE : Env LA E w) :
    Calls Tryd.prog 14 #[.agg #[.int .i64 n, .int .i64 d], .agg #[.int .i64 mode, .int .i64 un, .int .i64 ud]] w fun e w' =>
      (∃ n' d' err, e = .returned (.tuple #[.agg #[.int .i64 n', .int .i64 d'], err]) ∧ ResF E (roundI n d mode un ud) n' d' err) ∧ Below w.heap.size w w' := by
  obtain ⟨⟨b1, b2⟩, ⟨b3, b4⟩, ⟨b5, b6⟩, ⟨b7, b8⟩, b9, b10⟩ := B
  have V := fracValid_any n d
  unfold pv at V
  have Y := roundValid_any mode un ud
  have HE := Lib.hid hE
  clear hE
  cases hv : validB n d
  · rw [hv] at V
    have HV := Lib.hid V
    have Hv := Lib.hid hv
    clear V hv
    clear Y
    go_enter Tryd.func14, Tryd.ntmps14
    go_wp2_with fail
    refine (HV.out _ b1 b2 b3 b4).mono ?_
    rintro e w1 ⟨rfl, hb1⟩
    have hw1 : Below w.heap.size w w1 := stepH (by (repeat' (first | with_reducible exact Below.refl _ _ | with_reducible assumption | with_reducible refine Below.drew ?_ | with_reducible refine below_drewN ?_ _ | with_reducible refine Below.setCell ?_ ?_ _ | with_reducible refine Below.alloc ?_ ?_ _ | omega | (simp; done) | (simp; omega)))) hb1
    have X := keepH hb1 (g := w.heap.size) (blk_old (blk_old (blk_new rfl)))
    have G := keepH hb1 (g := w.heap.size + 1) (blk_old (blk_new (by simp)))
    have R := keepH hb1 (g := w.heap.size + 1 + 1) (blk_new (by simp))
    have z1 := hw1.size
    clear hb1
    have cX := cellH X
    obtain ⟨lX, lX1, lX2⟩ := ltH X
    have cG := cellH G
    obtain ⟨lG, lG1, lG2⟩ := ltH G
    have cR := cellH R
    obtain ⟨lR, lR1, lR2⟩ := ltH R
    have fzR := frozH R
    have hc' := (HE.out.below hw1).cell 2 (by decide)
    have hnq : (w.heap.size ≠ 0 ∧ w.heap.size ≠ 1 ∧ w.heap.size ≠ 2) := by have := (HE.out.sent 2 (by decide)).2.1; omega
    go_wp2_with fail
    go_region
    all_goals go_wp2_with fail
    refine bodyPost_ret (v := .tuple #[.agg #[.int .i64 0, .int .i64 0], (.iface 106 (.pointer (some (E 2))))]) (by simp [results, Tryd.results14, go_sem, cR]) rfl ⟨⟨_, _, _, rfl, ?_⟩, by (repeat' (first | with_reducible exact Below.refl _ _ | with_reducible assumption | with_reducible refine Below.drew ?_ | with_reducible refine below_drewN ?_ _ | with_reducible refine Below.setCell ?_ ?_ _ | with_reducible refine Below.alloc ?_ ?_ _ | omega | (simp; done) | (simp; omega)))⟩
    rw [roundI_frac Hv.out]
    exact ⟨rfl, rfl, rfl⟩
  · rw [hv] at V
    have HV := Lib.hid V
    have Hv := Lib.hid hv
    clear V hv
    cases hy : rdB mode un ud
    · rw [hy] at Y
      have HY := Lib.hid Y
      have Hy := Lib.hid hy
      clear Y hy
      go_enter Tryd.func14, Tryd.ntmps14
      go_wp2_with fail
      refine (HV.out _ b1 b2 b3 b4).mono ?_
      rintro e w1 ⟨rfl, hb1⟩
      have hw1 : Below w.heap.size w w1 := stepH (by (repeat' (first | with_reducible exact Below.refl _ _ | with_reducible assumption | with_reducible refine Below.drew ?_ | with_reducible refine below_drewN ?_ _ | with_reducible refine Below.setCell ?_ ?_ _ | with_reducible refine Below.alloc ?_ ?_ _ | omega | (simp; done) | (simp; omega)))) hb1
      have X := keepH hb1 (g := w.heap.size) (blk_old (blk_old (blk_new rfl)))
      have G := keepH hb1 (g := w.heap.size + 1) (blk_old (blk_new (by simp)))
      have R := keepH hb1 (g := w.heap.size + 1 + 1) (blk_new (by simp))
      have z1 := hw1.size
      clear hb1
      have cX := cellH X
      obtain ⟨lX, lX1, lX2⟩ := ltH X
      have cG := cellH G
      obtain ⟨lG, lG1, lG2⟩ := ltH G
      have cR := cellH R
      obtain ⟨lR, lR1, lR2⟩ := ltH R
      have fzR := frozH R
      go_wp2_with fail
      refine (HY.out _ b7 b8 b9 b10).mono ?_
      rintro e w2 ⟨rfl, hb2⟩
      have hw2 : Below w.heap.size w w2 := stepH (by (repeat' (first | with_reducible exact Below.refl _ _ | with_reducible assumption | with_reducible refine Below.drew ?_ | with_reducible refine below_drewN ?_ _ | with_reducible refine Below.setCell ?_ ?_ _ | with_reducible refine Below.alloc ?_ ?_ _ | omega | (simp; done) | (simp; omega)))) hb2
      replace X := keepH hb2 X.out
      replace G := keepH hb2 G.out
      replace R := keepH hb2 R.out
      have z2 := hw2.size
      clear hb2 hw1 z1
      clear cX lX lX1 lX2 cG lG lG1 lG2 cR lR lR1 lR2 fzR
      have cX := cellH X
      obtain ⟨lX, lX1, lX2⟩ := ltH X
      have cG := cellH G
      obtain ⟨lG, lG1, lG2⟩ := ltH G
      have cR := cellH R
      obtain ⟨lR, lR1, lR2⟩ := ltH R
      have fzR := frozH R
      have hc' := (HE.out.below hw2).cell 4 (by decide)
      have hnq : (w.heap.size ≠ 0 ∧ w.heap.size ≠ 1 ∧ w.heap.size ≠ 2 ∧ w.heap.size ≠ 3 ∧ w.heap.size ≠ 4) := by have := (HE.out.sent 4 (by decide)).2.1; omega
      go_wp2_with fail
      go_region
      all_goals go_wp2_with fail
      refine bodyPost_ret (v := .tuple #[.agg #[.int .i64 0, .int .i64 0], (.iface 106 (.pointer (some (E 4))))]) (by simp [results, Tryd.results14, go_sem, cR]) rfl ⟨⟨_, _, _, rfl, ?_⟩, by (repeat' (first | with_reducible exact Below.refl _ _ | with_reducible assumption | with_reducible refine Below.drew ?_ | with_reducible refine below_drewN ?_ _ | with_reducible refine Below.setCell ?_ ?_ _ | with_reducible refine Below.alloc ?_ ?_ _ | omega | (simp; done) | (simp; omega)))⟩
      rw [roundI_round Hv.out Hy.out]
      exact ⟨rfl, rfl, rfl⟩
    · rw [hy] at Y
      have HY := Lib.hid Y
      have Hy := Lib.hid hy
      clear Y hy
      by_cases hm : mode = 0
      · subst hm
        go_enter Tryd.func14, Tryd.ntmps14
        go_wp2_with fail
        refine (HV.out _ b1 b2 b3 b4).mono ?_
        rintro e w3 ⟨rfl, hb3⟩
        have hw3 : Below w.heap.size w w3 := stepH (by (repeat' (first | with_reducible exact Below.refl _ _ | with_reducible assumption | with_reducible refine Below.drew ?_ | with_reducible refine below_drewN ?_ _ | with_reducible refine Below.setCell ?_ ?_ _ | with_reducible refine Below.alloc ?_ ?_ _ | omega | (simp; done) | (simp; omega)))) hb3
        have X := keepH hb3 (g := w.heap.size) (blk_old (blk_old (blk_new rfl)))
        have G := keepH hb3 (g := w.heap.size + 1) (blk_old (blk_new (by simp)))
        have R := keepH hb3 (g := w.heap.size + 1 + 1) (blk_new (by simp))
        have z3 := hw3.size
        clear hb3
        have cX := cellH X
        obtain ⟨lX, lX1, lX2⟩ := ltH X
        have cG := cellH G
        obtain ⟨lG, lG1, lG2⟩ := ltH G
        have cR := cellH R
        obtain ⟨lR, lR1, lR2⟩ := ltH R
        have fzR := frozH R
        go_wp2_with fail
        refine (HY.out _ b7 b8 b9 b10).mono ?_
        rintro e w4 ⟨rfl, hb4⟩
        have hw4 : Below w.heap.size w w4 := stepH (by (repeat' (first | with_reducible exact Below.refl _ _ | with_reducible assumption | with_reducible refine Below.drew ?_ | with_reducible refine below_drewN ?_ _ | with_reducible refine Below.setCell ?_ ?_ _ | with_reducible refine Below.alloc ?_ ?_ _ | omega | (simp; done) | (simp; omega)))) hb4
        replace X := keepH hb4 X.out
        replace G := keepH hb4 G.out
        replace R := keepH hb4 R.out
        have z4 := hw4.size
        clear hb4 hw3 z3
        clear cX lX lX1 lX2 cG lG lG1 lG2 cR lR lR1 lR2 fzR
        have cX := cellH X
        obtain ⟨lX, lX1, lX2⟩ := ltH X
        have cG := cellH G
        obtain ⟨lG, lG1, lG2⟩ := ltH G
        have cR := cellH R
        obtain ⟨lR, lR1, lR2⟩ := ltH R
        have fzR := frozH R
        go_wp2_with fail
        refine bodyPost_ret (v := .tuple #[.agg #[.int .i64 n, .int .i64 d], .nilIface]) (by simp [results, Tryd.results14, go_sem, cR]) rfl ⟨⟨_, _, _, rfl, ?_⟩, by (repeat' (first | with_reducible exact Below.refl _ _ | with_reducible assumption | with_reducible refine Below.drew ?_ | with_reducible refine below_drewN ?_ _ | with_reducible refine Below.setCell ?_ ?_ _ | with_reducible refine Below.alloc ?_ ?_ _ | omega | (simp; done) | (simp; omega)))⟩
        rw [roundI_none Hv.out Hy.out]
        obtain ⟨_, e1, e2⟩ := divInt_valid Hv.out
        exact ⟨e1.symm, e2.symm, rfl⟩
      · have HM := Lib.hid hm
        obtain ⟨a1, a2, a3, a4⟩ := rdB_some Hy.out hm
        obtain ⟨c1, c2, dn, rfl, c3, c4, _⟩ := nat_of_valid Hv.out
        obtain ⟨_, _, udn, rfl, c5, c6, c7⟩ := nat_of_valid a3
        obtain ⟨unn, rfl, c8, c9, c10⟩ := c7 a4
        have hm' : (mode == 0) = false := by simpa using hm
        have HCO := Lib.hid c10
        clear hm c10 a3 c7
        go_enter Tryd.func14, Tryd.ntmps14
        go_wp2_with fail
        refine (HV.out _ b1 b2 b3 b4).mono ?_
        rintro e w5 ⟨rfl, hb5⟩
        have hw5 : Below w.heap.size w w5 := stepH (by (repeat' (first | with_reducible exact Below.refl _ _ | with_reducible assumption | with_reducible refine Below.drew ?_ | with_reducible refine below_drewN ?_ _ | with_reducible refine Below.setCell ?_ ?_ _ | with_reducible refine Below.alloc ?_ ?_ _ | omega | (simp; done) | (simp; omega)))) hb5
        have X := keepH hb5 (g := w.heap.size) (blk_old (blk_old (blk_new rfl)))
        have G := keepH hb5 (g := w.heap.size + 1) (blk_old (blk_new (by simp)))
        have R := keepH hb5 (g := w.heap.size + 1 + 1) (blk_new (by simp))
        have z5 := hw5.size
        clear hb5
        have cX := cellH X
        obtain ⟨lX, lX1, lX2⟩ := ltH X
        have cG := cellH G
        obtain ⟨lG, lG1, lG2⟩ := ltH G
        have cR := cellH R
        obtain ⟨lR, lR1, lR2⟩ := ltH R
        have fzR := frozH R
        go_wp2_with fail
        refine (HY.out _ b7 b8 b9 b10).mono ?_
        rintro e w6 ⟨rfl, hb6⟩
        have hw6 : Below w.heap.size w w6 := stepH (by (repeat' (first | with_reducible exact Below.refl _ _ | with_reducible assumption | with_reducible refine Below.drew ?_ | with_reducible refine below_drewN ?_ _ | with_reducible refine Below.setCell ?_ ?_ _ | with_reducible refine Below.alloc ?_ ?_ _ | omega | (simp; done) | (simp; omega)))) hb6
        replace X := keepH hb6 X.out
        replace G := keepH hb6 G.out
        replace R := keepH hb6 R.out
        have z6 := hw6.size
        clear hb6 hw5 z5
        clear cX lX lX1 lX2 cG lG lG1 lG2 cR lR lR1 lR2 fzR
        have cX := cellH X
        obtain ⟨lX, lX1, lX2⟩ := ltH X
        have cG := cellH G
        obtain ⟨lG, lG1, lG2⟩ := ltH G
        have cR := cellH R
        obtain ⟨lR, lR1, lR2⟩ := ltH R
        have fzR := frozH R
        go_wp2_with fail
        refine (locate_told n dn unn udn _ c1 c2 c3 c4 c8 c9 c5 c6).mono ?_
        rintro e w7 ⟨⟨U, P, D, ex, rfl, HL, l1, l2, l3, l4, l5⟩, hb7⟩
        have hw7 : Below w.heap.size w w7 := stepH (by (repeat' (first | with_reducible exact Below.refl _ _ | with_reducible assumption | with_reducible refine Below.drew ?_ | with_reducible refine below_drewN ?_ _ | with_reducible refine Below.setCell ?_ ?_ _ | with_reducible refine Below.alloc ?_ ?_ _ | omega | (simp; done) | (simp; omega)))) hb7
        replace X := keepH hb7 X.out
        replace G := keepH hb7 G.out
        replace R := keepH hb7 R.out
        have z7 := hw7.size
        clear hb7 hw6 z6
        clear cX lX lX1 lX2 cG lG lG1 lG2 cR lR lR1 lR2 fzR
        have cX := cellH X
        obtain ⟨lX, lX1, lX2⟩ := ltH X
        have cG := cellH G
        obtain ⟨lG, lG1, lG2⟩ := ltH G
        have cR := cellH R
        obtain ⟨lR, lR1, lR2⟩ := ltH R
        have fzR := frozH R
        cases ex
        · have nX : w.heap.size ≠ w7.heap.size := by omega
          have nG : w.heap.size + 1 ≠ w7.heap.size := by omega
          have nR : w.heap.size + 1 + 1 ≠ w7.heap.size := by omega
          go_upto_region 10 with fail
          clear cX lX lX1 lX2 cG lG lG1 lG2 cR lR lR1 lR2 fzR
          have hw8 : Below w.heap.size w (w7.alloc (.cells #[.int .i64 U, .int .u64 P, .int .u64 D, .bool (decide (n < 0)), .bool false] 76)) := by (repeat' (first | with_reducible exact Below.refl _ _ | with_reducible assumption | with_reducible refine Below.drew ?_ | with_reducible refine below_drewN ?_ _ | with_reducible refine Below.setCell ?_ ?_ _ | with_reducible refine Below.alloc ?_ ?_ _ | omega | (simp; done) | (simp; omega)))
          replace X : Hid ((w7.alloc (.cells #[.int .i64 U, .int .u64 P, .int .u64 D, .bool (decide (n < 0)), .bool false] 76)).heap[w.heap.size]? = some (.cells #[.int .i64 n, .int .i64 (dn : Int)] 30 (0, 0))) := (blk_old X.out)
          replace G : Hid ((w7.alloc (.cells #[.int .i64 U, .int .u64 P, .int .u64 D, .bool (decide (n < 0)), .bool false] 76)).heap[w.heap.size + 1]? = some (.cells #[.int .i64 mode, .int .i64 (unn : Int), .int .i64 (udn : Int)] 32 (0, 0))) := (blk_old G.out)
          replace R : Hid ((w7.alloc (.cells #[.int .i64 U, .int .u64 P, .int .u64 D, .bool (decide (n < 0)), .bool false] 76)).heap[w.heap.size + 1 + 1]? = some (.cells #[.int .i64 0, .int .i64 0] 30 (0, 0))) := (blk_old R.out)
          have Pl : Hid ((w7.alloc (.cells #[.int .i64 U, .int .u64 P, .int .u64 D, .bool (decide (n < 0)), .bool false] 76)).heap[w7.heap.size]? = some (.cells #[.int .i64 U, .int .u64 P, .int .u64 D, .bool (decide (n < 0)), .bool false] 76 (0, 0))) := (blk_new rfl)
          generalize (w7.alloc (.cells #[.int .i64 U, .int .u64 P, .int .u64 D, .bool (decide (n < 0)), .bool false] 76)) = w8 at *
          have z8 := hw8.size
          have cX := cellH X
          obtain ⟨lX, lX1, lX2⟩ := ltH X
          have cG := cellH G
          obtain ⟨lG, lG1, lG2⟩ := ltH G
          have cR := cellH R
          obtain ⟨lR, lR1, lR2⟩ := ltH R
          have fzR := frozH R
          have cPl := cellH Pl
          obtain ⟨lPl, lPl1, lPl2⟩ := ltH Pl
          have fzPl := frozH Pl
          go_cut [34] (fun s34 wx => s34 = .bool (upI mode U P D (decide (n < 0))) ∧ Below w.heap.size w wx ∧ Hid (wx.heap[w.heap.size]? = some (.cells #[.int .i64 n, .int .i64 (dn : Int)] 30 (0, 0))) ∧ Hid (wx.heap[w.heap.size + 1]? = some (.cells #[.int .i64 mode, .int .i64 (unn : Int), .int .i64 (udn : Int)] 32 (0, 0))) ∧ Hid (wx.heap[w.heap.size + 1 + 1]? = some (.cells #[.int .i64 0, .int .i64 0] 30 (0, 0))) ∧ Hid (wx.heap[w7.heap.size]? = some (.cells #[.int .i64 U, .int .u64 P, .int .u64 D, .bool (decide (n < 0)), .bool false] 76 (0, 0))))
          case first =>
            have six : mode = 1 ∨ mode = 2 ∨ mode = 3 ∨ mode = 4 ∨ mode = 5 ∨ mode = 6 := by omega
            rcases six with rfl | rfl | rfl | rfl | rfl | rfl
            · go_region_with (first | (go_at_call 45; refine (ways_told _).mono ?_; rintro e w9 ⟨tg, h5, h6, rfl, hb9, H5, H6, HG⟩; have hw9 : Below w.heap.size w w9 := stepH (by (repeat' (first | with_reducible exact Below.refl _ _ | with_reducible assumption | with_reducible refine Below.drew ?_ | with_reducible refine below_drewN ?_ _ | with_reducible refine Below.setCell ?_ ?_ _ | with_reducible refine Below.alloc ?_ ?_ _ | omega | (simp; done) | (simp; omega)))) hb9; replace X := keepH hb9 (by exact X.out); replace G := keepH hb9 (by exact G.out); replace R := keepH hb9 (by exact R.out); replace Pl := keepH hb9 (by exact Pl.out); have cG0 := cellH G; have cPl0 := cellH Pl; have cT := cellH HG) | (go_at_call 61; refine (ways_3 U P D (decide (n < 0)) false _).mono ?_; rintro e w10 ⟨rfl, hb10⟩; have hw10 : Below w.heap.size w w10 := stepH (by (repeat' (first | with_reducible exact Below.refl _ _ | with_reducible assumption | with_reducible refine Below.drew ?_ | with_reducible refine below_drewN ?_ _ | with_reducible refine Below.setCell ?_ ?_ _ | with_reducible refine Below.alloc ?_ ?_ _ | omega | (simp; done) | (simp; omega)))) hb10; replace X := keepH hb10 (by exact X.out); replace G := keepH hb10 (by exact G.out); replace R := keepH hb10 (by exact R.out); replace Pl := keepH hb10 (by exact Pl.out); have cG1 := cellH G; have cPl1 := cellH Pl))
              all_goals go_wp2_with fail
              all_goals go_meet
              all_goals exact ⟨rfl, (by (repeat' (first | with_reducible exact Below.refl _ _ | with_reducible assumption | with_reducible refine Below.drew ?_ | with_reducible refine below_drewN ?_ _ | with_reducible refine Below.setCell ?_ ?_ _ | with_reducible refine Below.alloc ?_ ?_ _ | omega | (simp; done) | (simp; omega)))), X, G, R, Pl⟩
            · go_region_with (first | (go_at_call 45; refine (ways_told _).mono ?_; rintro e w11 ⟨tg, h5, h6, rfl, hb11, H5, H6, HG⟩; have hw11 : Below w.heap.size w w11 := stepH (by (repeat' (first | with_reducible exact Below.refl _ _ | with_reducible assumption | with_reducible refine Below.drew ?_ | with_reducible refine below_drewN ?_ _ | with_reducible refine Below.setCell ?_ ?_ _ | with_reducible refine Below.alloc ?_ ?_ _ | omega | (simp; done) | (simp; omega)))) hb11; replace X := keepH hb11 (by exact X.out); replace G := keepH hb11 (by exact G.out); replace R := keepH hb11 (by exact R.out); replace Pl := keepH hb11 (by exact Pl.out); have cG0 := cellH G; have cPl0 := cellH Pl; have cT := cellH HG) | (go_at_call 62; refine (ways_4 U P D (decide (n < 0)) false _).mono ?_; rintro e w12 ⟨rfl, hb12⟩; have hw12 : Below w.heap.size w w12 := stepH (by (repeat' (first | with_reducible exact Below.refl _ _ | with_reducible assumption | with_reducible refine Below.drew ?_ | with_reducible refine below_drewN ?_ _ | with_reducible refine Below.setCell ?_ ?_ _ | with_reducible refine Below.alloc ?_ ?_ _ | omega | (simp; done) | (simp; omega)))) hb12; replace X := keepH hb12 (by exact X.out); replace G := keepH hb12 (by exact G.out); replace R := keepH hb12 (by exact R.out); replace Pl := keepH hb12 (by exact Pl.out); have cG1 := cellH G; have cPl1 := cellH Pl))
              all_goals go_wp2_with fail
              all_goals go_meet
              all_goals exact ⟨rfl, (by (repeat' (first | with_reducible exact Below.refl _ _ | with_reducible assumption | with_reducible refine Below.drew ?_ | with_reducible refine below_drewN ?_ _ | with_reducible refine Below.setCell ?_ ?_ _ | with_reducible refine Below.alloc ?_ ?_ _ | omega | (simp; done) | (simp; omega)))), X, G, R, Pl⟩
            · go_region_with (first | (go_at_call 45; refine (ways_told _).mono ?_; rintro e w13 ⟨tg, h5, h6, rfl, hb13, H5, H6, HG⟩; have hw13 : Below w.heap.size w w13 := stepH (by (repeat' (first | with_reducible exact Below.refl _ _ | with_reducible assumption | with_reducible refine Below.drew ?_ | with_reducible refine below_drewN ?_ _ | with_reducible refine Below.setCell ?_ ?_ _ | with_reducible refine Below.alloc ?_ ?_ _ | omega | (simp; done) | (simp; omega)))) hb13; replace X := keepH hb13 (by exact X.out); replace G := keepH hb13 (by exact G.out); replace R := keepH hb13 (by exact R.out); replace Pl := keepH hb13 (by exact Pl.out); have cG0 := cellH G; have cPl0 := cellH Pl; have cT := cellH HG) | (go_at_call 63; refine (ways_5 U P D (decide (n < 0)) false _).mono ?_; rintro e w14 ⟨rfl, hb14⟩; have hw14 : Below w.heap.size w w14 := stepH (by (repeat' (first | with_reducible exact Below.refl _ _ | with_reducible assumption | with_reducible refine Below.drew ?_ | with_reducible refine below_drewN ?_ _ | with_reducible refine Below.setCell ?_ ?_ _ | with_reducible refine Below.alloc ?_ ?_ _ | omega | (simp; done) | (simp; omega)))) hb14; replace X := keepH hb14 (by exact X.out); replace G := keepH hb14 (by exact G.out); replace R := keepH hb14 (by exact R.out); replace Pl := keepH hb14 (by exact Pl.out); have cG1 := cellH G; have cPl1 := cellH Pl))
              all_goals go_wp2_with fail
              all_goals go_meet
              all_goals exact ⟨rfl, (by (repeat' (first | with_reducible exact Below.refl _ _ | with_reducible assumption | with_reducible refine Below.drew ?_ | with_reducible refine below_drewN ?_ _ | with_reducible refine Below.setCell ?_ ?_ _ | with_reducible refine Below.alloc ?_ ?_ _ | omega | (simp; done) | (simp; omega)))), X, G, R, Pl⟩
            · go_region_with (first | (go_at_call 45; refine (ways_told _).mono ?_; rintro e w15 ⟨tg, h5, h6, rfl, hb15, H5, H6, HG⟩; have hw15 : Below w.heap.size w w15 := stepH (by (repeat' (first | with_reducible exact Below.refl _ _ | with_reducible assumption | with_reducible refine Below.drew ?_ | with_reducible refine below_drewN ?_ _ | with_reducible refine Below.setCell ?_ ?_ _ | with_reducible refine Below.alloc ?_ ?_ _ | omega | (simp; done) | (simp; omega)))) hb15; replace X := keepH hb15 (by exact X.out); replace G := keepH hb15 (by exact G.out); replace R := keepH hb15 (by exact R.out); replace Pl := keepH hb15 (by exact Pl.out); have cG0 := cellH G; have cPl0 := cellH Pl; have cT := cellH HG) | (go_at_call 64; refine (ways_6 U P D (decide (n < 0)) false _).mono ?_; rintro e w16 ⟨rfl, hb16⟩; have hw16 : Below w.heap.size w w16 := stepH (by (repeat' (first | with_reducible exact Below.refl _ _ | with_reducible assumption | with_reducible refine Below.drew ?_ | with_reducible refine below_drewN ?_ _ | with_reducible refine Below.setCell ?_ ?_ _ | with_reducible refine Below.alloc ?_ ?_ _ | omega | (simp; done) | (simp; omega)))) hb16; replace X := keepH hb16 (by exact X.out); replace G := keepH hb16 (by exact G.out); replace R := keepH hb16 (by exact R.out); replace Pl := keepH hb16 (by exact Pl.out); have cG1 := cellH G; have cPl1 := cellH Pl))
              all_goals go_wp2_with fail
              all_goals go_meet
              all_goals exact ⟨rfl, (by (repeat' (first | with_reducible exact Below.refl _ _ | with_reducible assumption | with_reducible refine Below.drew ?_ | with_reducible refine below_drewN ?_ _ | with_reducible refine Below.setCell ?_ ?_ _ | with_reducible refine Below.alloc ?_ ?_ _ | omega | (simp; done) | (simp; omega)))), X, G, R, Pl⟩
            · go_region_with (first | (go_at_call 45; refine (ways_told _).mono ?_; rintro e w17 ⟨tg, h5, h6, rfl, hb17, H5, H6, HG⟩; have hw17 : Below w.heap.size w w17 := stepH (by (repeat' (first | with_reducible exact Below.refl _ _ | with_reducible assumption | with_reducible refine Below.drew ?_ | with_reducible refine below_drewN ?_ _ | with_reducible refine Below.setCell ?_ ?_ _ | with_reducible refine Below.alloc ?_ ?_ _ | omega | (simp; done) | (simp; omega)))) hb17; replace X := keepH hb17 (by exact X.out); replace G := keepH hb17 (by exact G.out); replace R := keepH hb17 (by exact R.out); replace Pl := keepH hb17 (by exact Pl.out); have cG0 := cellH G; have cPl0 := cellH Pl; have cT := cellH HG) | (go_at_call 58; refine (near_5 h5 U P D (decide (n < 0)) false _ (by exact H5) l3 l4 l5).mono ?_; rintro e w18 ⟨rfl, hb18⟩; have hw18 : Below w.heap.size w w18 := stepH (by (repeat' (first | with_reducible exact Below.refl _ _ | with_reducible assumption | with_reducible refine Below.drew ?_ | with_reducible refine below_drewN ?_ _ | with_reducible refine Below.setCell ?_ ?_ _ | with_reducible refine Below.alloc ?_ ?_ _ | omega | (simp; done) | (simp; omega)))) hb18; replace X := keepH hb18 (by exact X.out); replace G := keepH hb18 (by exact G.out); replace R := keepH hb18 (by exact R.out); replace Pl := keepH hb18 (by exact Pl.out); have cG1 := cellH G; have cPl1 := cellH Pl))
              all_goals go_wp2_with fail
              all_goals go_meet
              all_goals exact ⟨rfl, (by (repeat' (first | with_reducible exact Below.refl _ _ | with_reducible assumption | with_reducible refine Below.drew ?_ | with_reducible refine below_drewN ?_ _ | with_reducible refine Below.setCell ?_ ?_ _ | with_reducible refine Below.alloc ?_ ?_ _ | omega | (simp; done) | (simp; omega)))), X, G, R, Pl⟩
            · go_region_with (first | (go_at_call 45; refine (ways_told _).mono ?_; rintro e w19 ⟨tg, h5, h6, rfl, hb19, H5, H6, HG⟩; have hw19 : Below w.heap.size w w19 := stepH (by (repeat' (first | with_reducible exact Below.refl _ _ | with_reducible assumption | with_reducible refine Below.drew ?_ | with_reducible refine below_drewN ?_ _ | with_reducible refine Below.setCell ?_ ?_ _ | with_reducible refine Below.alloc ?_ ?_ _ | omega | (simp; done) | (simp; omega)))) hb19; replace X := keepH hb19 (by exact X.out); replace G := keepH hb19 (by exact G.out); replace R := keepH hb19 (by exact R.out); replace Pl := keepH hb19 (by exact Pl.out); have cG0 := cellH G; have cPl0 := cellH Pl; have cT := cellH HG) | (go_at_call 58; refine (near_6 h6 U P D (decide (n < 0)) false _ (by exact H6) l3 l4 l5).mono ?_; rintro e w20 ⟨rfl, hb20⟩; have hw20 : Below w.heap.size w w20 := stepH (by (repeat' (first | with_reducible exact Below.refl _ _ | with_reducible assumption | with_reducible refine Below.drew ?_ | with_reducible refine below_drewN ?_ _ | with_reducible refine Below.setCell ?_ ?_ _ | with_reducible refine Below.alloc ?_ ?_ _ | omega | (simp; done) | (simp; omega)))) hb20; replace X := keepH hb20 (by exact X.out); replace G := keepH hb20 (by exact G.out); replace R := keepH hb20 (by exact R.out); replace Pl := keepH hb20 (by exact Pl.out); have cG1 := cellH G; have cPl1 := cellH Pl))
              all_goals go_wp2_with fail
              all_goals go_meet
              all_goals exact ⟨rfl, (by (repeat' (first | with_reducible exact Below.refl _ _ | with_reducible assumption | with_reducible refine Below.drew ?_ | with_reducible refine below_drewN ?_ _ | with_reducible refine Below.setCell ?_ ?_ _ | with_reducible refine Below.alloc ?_ ?_ _ | omega | (simp; done) | (simp; omega)))), X, G, R, Pl⟩
          case rest =>
            as_aux_lemma =>
              clear cX lX lX1 lX2 cG lG lG1 lG2 cR lR lR1 lR2 fzR cPl lPl lPl1 lPl2 fzPl
              clear X G R Pl
              obtain ⟨rfl, hw21, X, G, R, Pl⟩ := hcut
              obtain ⟨w21, rfl⟩ : ∃ x : World, x = wc := ⟨_, rfl⟩
              have z21 := hw21.size
              have cX := cellH X
              obtain ⟨lX, lX1, lX2⟩ := ltH X
              have cG := cellH G
              obtain ⟨lG, lG1, lG2⟩ := ltH G
              have cR := cellH R
              obtain ⟨lR, lR1, lR2⟩ := ltH R
              have fzR := frozH R
              have cPl := cellH Pl
              obtain ⟨lPl, lPl1, lPl2⟩ := ltH Pl
              have fzPl := frozH Pl
              obtain ⟨b, hub⟩ : ∃ b, upI mode U P D (decide (n < 0)) = b := ⟨_, rfl⟩
              rw [hub]
              have HUB := Lib.hid hub
              clear hub
              cases b
              · go_wp2_with fail
                refine (rtimes_any (U) unn udn E _ c8 c9 c5 c6 HCO.out (by omega) (by omega) (HE.out.below (by (repeat' (first | with_reducible exact Below.refl _ _ | with_reducible assumption | with_reducible refine Below.drew ?_ | with_reducible refine below_drewN ?_ _ | with_reducible refine Below.setCell ?_ ?_ _ | with_reducible refine Below.alloc ?_ ?_ _ | omega | (simp; done) | (simp; omega)))))).mono ?_
                rintro e w22 ⟨⟨n', d', err, rfl, hr⟩, hb22⟩
                have hw22 : Below w.heap.size w w22 := stepH (by (repeat' (first | with_reducible exact Below.refl _ _ | with_reducible assumption | with_reducible refine Below.drew ?_ | with_reducible refine below_drewN ?_ _ | with_reducible refine Below.setCell ?_ ?_ _ | with_reducible refine Below.alloc ?_ ?_ _ | omega | (simp; done) | (simp; omega)))) hb22
                replace X := keepH hb22 X.out
                replace G := keepH hb22 G.out
                replace R := keepH hb22 R.out
                replace Pl := keepH hb22 Pl.out
                have z22 := hw22.size
                clear hb22 hw21 z21
                clear cX lX lX1 lX2 cG lG lG1 lG2 cR lR lR1 lR2 fzR cPl lPl lPl1 lPl2 fzPl
                have cX := cellH X
                obtain ⟨lX, lX1, lX2⟩ := ltH X
                have cG := cellH G
                obtain ⟨lG, lG1, lG2⟩ := ltH G
                have cR := cellH R
                obtain ⟨lR, lR1, lR2⟩ := ltH R
                have fzR := frozH R
                have cPl := cellH Pl
                obtain ⟨lPl, lPl1, lPl2⟩ := ltH Pl
                have fzPl := frozH Pl
                go_wp2_with fail
                refine bodyPost_ret (v := .tuple #[.agg #[.int .i64 n', .int .i64 d'], err]) (by simp [results, Tryd.results14, go_sem, cR]) rfl ⟨⟨_, _, _, rfl, ?_⟩, by (repeat' (first | with_reducible exact Below.refl _ _ | with_reducible assumption | with_reducible refine Below.drew ?_ | with_reducible refine below_drewN ?_ _ | with_reducible refine Below.setCell ?_ ?_ _ | with_reducible refine Below.alloc ?_ ?_ _ | omega | (simp; done) | (simp; omega)))⟩
                obtain ⟨h1, h2, h3, h4⟩ := HL.out
                rw [roundI_some Hv.out Hy.out HM.out, rkI_up (b := false) (of_decide_eq_false h4.symm) (by rw [← h1, ← h2, ← h3]; exact HUB.out), ← h1]
                exact hr
              · replace X := set1o (i := 0) X nX (.int .i64 (U + 1))
                replace G := set1o (i := 0) G nG (.int .i64 (U + 1))
                replace R := set1o (i := 0) R nR (.int .i64 (U + 1))
                go_wp2_with fail
                refine (rtimes_any (U + 1) unn udn E _ c8 c9 c5 c6 HCO.out (by omega) (by omega) (HE.out.below (by (repeat' (first | with_reducible exact Below.refl _ _ | with_reducible assumption | with_reducible refine Below.drew ?_ | with_reducible refine below_drewN ?_ _ | with_reducible refine Below.setCell ?_ ?_ _ | with_reducible refine Below.alloc ?_ ?_ _ | omega | (simp; done) | (simp; omega)))))).mono ?_
                rintro e w23 ⟨⟨n', d', err, rfl, hr⟩, hb23⟩
                have hw23 : Below w.heap.size w w23 := stepH (by (repeat' (first | with_reducible exact Below.refl _ _ | with_reducible assumption | with_reducible refine Below.drew ?_ | with_reducible refine below_drewN ?_ _ | with_reducible refine Below.setCell ?_ ?_ _ | with_reducible refine Below.alloc ?_ ?_ _ | omega | (simp; done) | (simp; omega)))) hb23
                replace X := keepH hb23 X.out
                replace G := keepH hb23 G.out
                replace R := keepH hb23 R.out
                have z23 := hw23.size
                clear hb23 hw21 z21
                clear cX lX lX1 lX2 cG lG lG1 lG2 cR lR lR1 lR2 fzR cPl lPl lPl1 lPl2 fzPl
                have cX := cellH X
                obtain ⟨lX, lX1, lX2⟩ := ltH X
                have cG := cellH G
                obtain ⟨lG, lG1, lG2⟩ := ltH G
                have cR := cellH R
                obtain ⟨lR, lR1, lR2⟩ := ltH R
                have fzR := frozH R
                go_wp2_with fail
                refine bodyPost_ret (v := .tuple #[.agg #[.int .i64 n', .int .i64 d'], err]) (by simp [results, Tryd.results14, go_sem, cR]) rfl ⟨⟨_, _, _, rfl, ?_⟩, by (repeat' (first | with_reducible exact Below.refl _ _ | with_reducible assumption | with_reducible refine Below.drew ?_ | with_reducible refine below_drewN ?_ _ | with_reducible refine Below.setCell ?_ ?_ _ | with_reducible refine Below.alloc ?_ ?_ _ | omega | (simp; done) | (simp; omega)))⟩
                obtain ⟨h1, h2, h3, h4⟩ := HL.out
                rw [roundI_some Hv.out Hy.out HM.out, rkI_up (b := true) (of_decide_eq_false h4.symm) (by rw [← h1, ← h2, ← h3]; exact HUB.out), ← h1]
                exact hr
        · go_wp2_with fail
          refine bodyPost_ret (v := .tuple #[.agg #[.int .i64 n, .int .i64 (dn : Int)], .nilIface]) (by simp [results, Tryd.results14, go_sem, cR, lR]) rfl ⟨⟨_, _, _, rfl, ?_⟩, by (repeat' (first | with_reducible exact Below.refl _ _ | with_reducible assumption | with_reducible refine Below.drew ?_ | with_reducible refine below_drewN ?_ _ | with_reducible refine Below.setCell ?_ ?_ _ | with_reducible refine Below.alloc ?_ ?_ _ | omega | (simp; done) | (simp; omega)))⟩
          obtain ⟨_, _, _, h4⟩ := HL.out
          have h5 := of_decide_eq_true h4.symm
          rw [roundI_some Hv.out Hy.out HM.out, rkI_exact h5, exact_x (by omega) (by omega) h5]
          obtain ⟨e0, e1, e2⟩ := divInt_valid Hv.out
          rw [e0]
          exact ⟨e1.symm, e2.symm, rfl⟩
end Go.Proofs.YtcbglkkmblmbnaaDoor
