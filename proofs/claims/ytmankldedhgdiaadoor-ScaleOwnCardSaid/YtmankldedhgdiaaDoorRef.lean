/- The references' arithmetic of fractions: walks. -/
import Derived.Test.YtmankldedhgdiaaDoorSumsLaw
import Derived.Deep.RegionHeld3
import Derived.Deep.RegionWith
namespace Go.Proofs.YtmankldedhgdiaaDoor
open Go.RowKit

/-- a number, or a code that is not 0, as the references tell it -/
def ResC (r : Except Nat Rat) (n d c : Int) : Prop :=
  match r with
  | .ok q => n = q.num ∧ d = q.den ∧ c = 0
  | .error _ => n = 0 ∧ d = 0 ∧ (c = 101 ∨ c = 102 ∨ c = 103)

theorem resC_bad {q : Rat} {c : Int} (h : ¬ Good q) (hc : c = 101 ∨ c = 102 ∨ c = 103) : ResC (goodR q) 0 0 c := by unfold goodR; rw [if_neg h]; exact ⟨rfl, rfl, hc⟩
theorem resC_good {q : Rat} {n d : Int} (h : Good q) (hn : n = q.num) (hd : d = q.den) : ResC (goodR q) n d 0 := by unfold goodR; rw [if_pos h]; exact ⟨hn, hd, rfl⟩
theorem resC_ok {r : Except Nat Rat} {n d c : Int} {q : Rat} (h : ResC r n d c) (hr : r = .ok q) : n = q.num ∧ d = q.den ∧ c = 0 := by subst hr; exact h
theorem resC_no {r : Except Nat Rat} {n d c : Int} {g : Nat} (h : ResC r n d c) (hr : r = .error g) : n = 0 ∧ d = 0 ∧ (c = 101 ∨ c = 102 ∨ c = 103) := by subst hr; exact h

theorem refSize_any (n : Int) (w : World) (h1 : -9223372036854775808 ≤ n) (h2 : n ≤ 9223372036854775807) :
    Calls Tryd.prog 69 #[.int .i64 n] w fun e w' => e = .returned (.int .u64 n.natAbs) ∧ w = w' := by
  by_cases h : n < 0
  · go_enter Tryd.func69, Tryd.ntmps69
    go_wp2
    go_ret
    exact ⟨ret_int (by simp only [IntKind.wrap_u64]; omega), rfl⟩
  · go_enter Tryd.func69, Tryd.ntmps69
    go_wp2
    go_ret
    exact ⟨ret_int (by omega), rfl⟩

set_option maxHeartbeats 400000 in
theorem refCommon_any (a b : Nat) (w : World) (ha : a ≤ 18446744073709551615) (hb : b ≤ 18446744073709551615) :
    Calls Tryd.prog 68 #[.int .u64 a, .int .u64 b] w fun e w' => e = .returned (.int .u64 (Nat.gcd a b : Nat)) ∧ Below w.heap.size w w' := by
  go_enter Tryd.func68, Tryd.ntmps68
  go_wp2
  go_loopw [0, 1] (fun p q wr => ∃ x y : Nat, p = .int .u64 x ∧ q = .int .u64 y ∧ x ≤ 18446744073709551615 ∧ y ≤ 18446744073709551615 ∧ Hid (Nat.gcd x y = Nat.gcd a b) ∧ Below w.heap.size w wr) (fun _ q _ => (intOf q).toNat)
  case atStart => exact ⟨a, b, rfl, rfl, ha, hb, rfl, Below.refl _ _⟩
  case round =>
    obtain ⟨x, y, rfl, rfl, hx, hy, hg, hbw⟩ := hrel
    by_cases h0 : y = 0
    · subst h0
      go_wp2
      go_ret
      exact ⟨by rw [← hg.out]; simp, hbw⟩
    · go_wp2
      go_quiet (fail)
      go_wp2
      go_roundw
      case rel => exact ⟨y, x % y, rfl, by go_num, by omega, by have := Nat.mod_le x y; omega, (gcd_step x y).trans hg.out, below_drewN hbw _⟩
      case measure => have := Nat.mod_lt x (show 0 < y by omega); simp [intOf]; omega

set_option maxHeartbeats 4000000 in
theorem refMake_any (num : Int) (den : Nat) (q : Rat) (w : World) (hq : Rat.divInt num den = q) (n1 : -9223372036854775808 < num) (n2 : num ≤ 9223372036854775807) (d1 : 0 < den) (d2 : den ≤ 9223372036854775807) :
    Calls Tryd.prog 57 #[.int .i64 num, .int .i64 den] w fun e w' =>
      (∃ n d c, e = .returned (.tuple #[.agg #[.int .i64 n, .int .i64 d], .int .i64 c]) ∧ ResC (goodR q) n d c) ∧ Below w.heap.size w w' := by
  have hs := divInt_signed num den
  rw [hq] at hs
  clear hq
  obtain ⟨minus, hmin⟩ : ∃ b, decide (num < 0) = b := ⟨_, rfl⟩
  rw [hmin, show decide ((den : Int) < 0) = false from decide_eq_false (by omega), Bool.bne_false, Int.natAbs_natCast] at hs
  obtain ⟨k, hk⟩ : ∃ k : Nat, num.natAbs = k := ⟨_, rfl⟩
  rw [hk] at hs
  have Hc := refCommon_any k den
  have hn := lowest_num k den (by omega)
  have hd := lowest_den k den (by omega)
  obtain ⟨g, a, b, hg, eg, e1, e2, f1, f2, la, pb, lb, m1, m2, hco⟩ := gcd_facts k den d1
  rw [eg, f1] at hn
  rw [eg, f2] at hd
  rw [eg] at Hc
  have HC := Lib.hid Hc
  have HN := Lib.hid hn
  have HD := Lib.hid hd
  have HSG := Lib.hid hs
  have HK := Lib.hid hk
  clear Hc hn hd eg f1 f2 m1 m2 hco hs
  have hk1 : k ≤ 9223372036854775807 := by omega
  clear hk
  have HSZ := Lib.hid (fun w => refSize_any num w (by omega) n2)
  have HSD := Lib.hid (fun w => refSize_any (den : Int) w (by omega) (by omega))
  rw [HK.out] at HSZ
  rw [Int.natAbs_natCast] at HSD
  have hd0 : ((den : Int) == 0) = false := by simp; omega
  by_cases b1 : 1000000000000 < a
  · clear hmin
    go_enter Tryd.func57, Tryd.ntmps57
    go_wp2_with (first | (go_at_call 69; with_reducible refine (HSZ.out _).mono ?_; rintro e w' ⟨rfl, rfl⟩) | (go_at_call 69; refine (HSD.out _).mono ?_; rintro e w' ⟨rfl, rfl⟩) | (go_at_call 68; refine (HC.out _ (by omega) (by omega)).mono ?_; rintro e w1 ⟨rfl, hb⟩; obtain ⟨k0, k1, k2⟩ := keepB hb (g := w.heap.size) (blk_new rfl); have hbw := ((Below.refl w.heap.size w).alloc (Nat.le_refl _) _).trans (hb.mono (by simp))))
    refine bodyPost_ret (v := .tuple #[.agg #[.int .i64 0, .int .i64 0], .int .i64 101]) (by simp [results, Tryd.results57, go_sem, k0]) rfl ⟨⟨_, _, _, rfl, ?_⟩, by (repeat' (first | with_reducible exact Below.refl _ _ | with_reducible assumption | with_reducible refine Below.drew ?_ | with_reducible refine below_drewN ?_ _ | with_reducible refine Below.setCell ?_ ?_ _ | with_reducible refine Below.alloc ?_ ?_ _ | omega | (simp; done) | (simp; omega)))⟩
    rw [← HSG.out]
    exact resC_bad (by rw [signed_good minus HN.out HD.out]; omega) (.inl rfl)
  by_cases b2 : 1000000 < b
  · clear hmin
    go_enter Tryd.func57, Tryd.ntmps57
    go_wp2_with (first | (go_at_call 69; with_reducible refine (HSZ.out _).mono ?_; rintro e w' ⟨rfl, rfl⟩) | (go_at_call 69; refine (HSD.out _).mono ?_; rintro e w' ⟨rfl, rfl⟩) | (go_at_call 68; refine (HC.out _ (by omega) (by omega)).mono ?_; rintro e w1 ⟨rfl, hb⟩; obtain ⟨k0, k1, k2⟩ := keepB hb (g := w.heap.size) (blk_new rfl); have hbw := ((Below.refl w.heap.size w).alloc (Nat.le_refl _) _).trans (hb.mono (by simp))))
    refine bodyPost_ret (v := .tuple #[.agg #[.int .i64 0, .int .i64 0], .int .i64 101]) (by simp [results, Tryd.results57, go_sem, k0]) rfl ⟨⟨_, _, _, rfl, ?_⟩, by (repeat' (first | with_reducible exact Below.refl _ _ | with_reducible assumption | with_reducible refine Below.drew ?_ | with_reducible refine below_drewN ?_ _ | with_reducible refine Below.setCell ?_ ?_ _ | with_reducible refine Below.alloc ?_ ?_ _ | omega | (simp; done) | (simp; omega)))⟩
    rw [← HSG.out]
    exact resC_bad (by rw [signed_good minus HN.out HD.out]; omega) (.inl rfl)
  have hgood : Good (signed minus (mkRat k den)) := by rw [signed_good minus HN.out HD.out]; omega
  have HG := Lib.hid hgood
  clear hgood
  have hdl : ((den : Int) < 0) = False := by simp
  cases minus
  · have hnl : ¬ num < 0 := of_decide_eq_false hmin
    clear hmin
    go_enter Tryd.func57, Tryd.ntmps57
    go_wp2_with (first | (go_at_call 69; with_reducible refine (HSZ.out _).mono ?_; rintro e w' ⟨rfl, rfl⟩) | (go_at_call 69; refine (HSD.out _).mono ?_; rintro e w' ⟨rfl, rfl⟩) | (go_at_call 68; refine (HC.out _ (by omega) (by omega)).mono ?_; rintro e w1 ⟨rfl, hb⟩; obtain ⟨k0, k1, k2⟩ := keepB hb (g := w.heap.size) (blk_new rfl); have hbw := ((Below.refl w.heap.size w).alloc (Nat.le_refl _) _).trans (hb.mono (by simp))))
    refine bodyPost_ret (v := .tuple #[.agg #[.int .i64 a, .int .i64 b], .int .i64 0]) (by simp [results, Tryd.results57, go_sem, k0]) rfl ⟨⟨_, _, _, rfl, ?_⟩, by (repeat' (first | with_reducible exact Below.refl _ _ | with_reducible assumption | with_reducible refine Below.drew ?_ | with_reducible refine below_drewN ?_ _ | with_reducible refine Below.setCell ?_ ?_ _ | with_reducible refine Below.alloc ?_ ?_ _ | omega | (simp; done) | (simp; omega)))⟩
    rw [← HSG.out]
    exact resC_good HG.out (by rw [signed_num, HN.out]; rfl) (by rw [signed_den, HD.out])
  · have hnl : num < 0 := of_decide_eq_true hmin
    clear hmin
    go_enter Tryd.func57, Tryd.ntmps57
    go_wp2_with (first | (go_at_call 69; with_reducible refine (HSZ.out _).mono ?_; rintro e w' ⟨rfl, rfl⟩) | (go_at_call 69; refine (HSD.out _).mono ?_; rintro e w' ⟨rfl, rfl⟩) | (go_at_call 68; refine (HC.out _ (by omega) (by omega)).mono ?_; rintro e w1 ⟨rfl, hb⟩; obtain ⟨k0, k1, k2⟩ := keepB hb (g := w.heap.size) (blk_new rfl); have hbw := ((Below.refl w.heap.size w).alloc (Nat.le_refl _) _).trans (hb.mono (by simp))))
    refine bodyPost_ret (v := .tuple #[.agg #[.int .i64 (-a), .int .i64 b], .int .i64 0]) (by simp [results, Tryd.results57, go_sem, k0]) rfl ⟨⟨_, _, _, rfl, ?_⟩, by (repeat' (first | with_reducible exact Below.refl _ _ | with_reducible assumption | with_reducible refine Below.drew ?_ | with_reducible refine below_drewN ?_ _ | with_reducible refine Below.setCell ?_ ?_ _ | with_reducible refine Below.alloc ?_ ?_ _ | omega | (simp; done) | (simp; omega)))⟩
    rw [← HSG.out]
    exact resC_good HG.out (by rw [signed_num, HN.out]; rfl) (by rw [signed_den, HD.out])

theorem refvB_is (n d : Int) (b : Bool) (w : World) (h : validB n d = b) (n1 : -9223372036854775808 ≤ n) (n2 : n ≤ 9223372036854775807) (d1 : -9223372036854775808 ≤ d) (d2 : d ≤ 9223372036854775807) :
    Calls Tryd.prog 6 #[.agg #[.int .i64 n, .int .i64 d]] w fun e w' => e = .returned (.bool b) ∧ Below w.heap.size w w' := by
  subst h; exact refValid_any n d w n1 n2 d1 d2

theorem refBoth_good (p q : Rat) (w : World) (hp : Good p) (hq : Good q) :
    Calls Tryd.prog 56 #[.agg #[.int .i64 p.num, .int .i64 p.den], .agg #[.int .i64 q.num, .int .i64 q.den]] w fun e w' => e = .returned (.bool true) ∧ Below w.heap.size w w' := by
  have P := Lib.hid (num_le hp)
  have Q := Lib.hid (num_le hq)
  have VP := Lib.hid (show validB p.num p.den = true by rw [validB_good, decide_eq_true hp])
  have VQ := Lib.hid (show validB q.num q.den = true by rw [validB_good, decide_eq_true hq])
  clear hp hq
  go_enter Tryd.func56, Tryd.ntmps56
  go_wp2_with fail
  refine (refvB_is p.num p.den true _ VP.out (by have := P.out; omega) (by have := P.out; omega) (by have := P.out; omega) (by have := P.out; omega)).mono ?_
  rintro e w1 ⟨rfl, hb1⟩
  have hw1 : Below w.heap.size w w1 := stepH (by (repeat' (first | with_reducible exact Below.refl _ _ | with_reducible assumption | with_reducible refine Below.drew ?_ | with_reducible refine below_drewN ?_ _ | with_reducible refine Below.setCell ?_ ?_ _ | with_reducible refine Below.alloc ?_ ?_ _ | omega | (simp; done) | (simp; omega)))) hb1
  have P_ := keepH hb1 (g := w.heap.size) (blk_old (blk_new rfl))
  have Q_ := keepH hb1 (g := w.heap.size + 1) (blk_new (by simp))
  have z1 := hw1.size
  clear hb1
  have cP_ := cellH P_
  obtain ⟨lP_, lP_1, lP_2⟩ := ltH P_
  have cQ_ := cellH Q_
  obtain ⟨lQ_, lQ_1, lQ_2⟩ := ltH Q_
  go_wp2_with fail
  refine (refvB_is q.num q.den true _ VQ.out (by have := Q.out; omega) (by have := Q.out; omega) (by have := Q.out; omega) (by have := Q.out; omega)).mono ?_
  rintro e w2 ⟨rfl, hb2⟩
  have hw2 : Below w.heap.size w w2 := stepH (by (repeat' (first | with_reducible exact Below.refl _ _ | with_reducible assumption | with_reducible refine Below.drew ?_ | with_reducible refine below_drewN ?_ _ | with_reducible refine Below.setCell ?_ ?_ _ | with_reducible refine Below.alloc ?_ ?_ _ | omega | (simp; done) | (simp; omega)))) hb2
  replace P_ := keepH hb2 P_.out
  replace Q_ := keepH hb2 Q_.out
  have z2 := hw2.size
  clear hb2 hw1 z1
  clear cP_ lP_ lP_1 lP_2 cQ_ lQ_ lQ_1 lQ_2
  have cP_ := cellH P_
  obtain ⟨lP_, lP_1, lP_2⟩ := ltH P_
  have cQ_ := cellH Q_
  obtain ⟨lQ_, lQ_1, lQ_2⟩ := ltH Q_
  go_wp2_with fail
  go_ret
  exact ⟨rfl, by (repeat' (first | with_reducible exact Below.refl _ _ | with_reducible assumption | with_reducible refine Below.drew ?_ | with_reducible refine below_drewN ?_ _ | with_reducible refine Below.setCell ?_ ?_ _ | with_reducible refine Below.alloc ?_ ?_ _ | omega | (simp; done) | (simp; omega)))⟩

theorem sum_parts {p q : Rat} {g a b : Nat} (hg : p.den = g * a) (hh : q.den = g * b) (h0 : 0 < g) : Rat.divInt (p.num * b + q.num * a) ((a * q.den : Nat) : Int) = p + q := by
  rw [Rat.add_def', Rat.divInt_ofNat]
  have e1 : p.num * q.den + q.num * p.den = (p.num * b + q.num * a) * (g : Int) := by rw [hg, hh]; push_cast; grind
  have e2 : p.den * q.den = a * q.den * g := by rw [hg]; grind
  rw [e1, e2, Rat.mkRat_mul_right (by omega)]

set_option maxHeartbeats 4000000 in
theorem refAdd_any (p q : Rat) (w : World) (hp : Good p) (hq : Good q) :
    Calls Tryd.prog 38 #[.agg #[.int .i64 p.num, .int .i64 p.den], .agg #[.int .i64 q.num, .int .i64 q.den]] w fun e w' =>
      (∃ n d c, e = .returned (.tuple #[.agg #[.int .i64 n, .int .i64 d], .int .i64 c]) ∧ ResC (goodR (p + q)) n d c) ∧ Below w.heap.size w w' := by
  have HP := Lib.hid hp
  have HQ := Lib.hid hq
  obtain ⟨pn1, pn2, pd1, pd2⟩ := num_le hp
  obtain ⟨qn1, qn2, qd1, qd2⟩ := num_le hq
  clear hp hq
  have pos := q.den_pos
  obtain ⟨g, a, b, hg, eg, e1, e2, f1, f2, la, pb, lb, m1, m2, hco⟩ := gcd_facts p.den q.den pos
  have HSP := Lib.hid (sum_parts m1 m2 hg)
  have Hc := gcd_any p.den q.den
  rw [eg] at Hc
  have HC := Lib.hid Hc
  have pa : 0 < a := by
    rcases Nat.eq_zero_or_pos a with h | h
    · subst h; have := p.den_pos; omega
    · exact h
  obtain ⟨x1, x2⟩ := prod_le pn1 pn2 (show (1 : Int) ≤ b by omega) (show (b : Int) ≤ 1000000 by omega)
  obtain ⟨y1, y2⟩ := prod_le qn1 qn2 (show (1 : Int) ≤ a by omega) (show (a : Int) ≤ 1000000 by omega)
  obtain ⟨D, hD⟩ : ∃ D : Nat, a * q.den = D := ⟨_, rfl⟩
  have hD1 : 0 < D := by rw [← hD]; exact Nat.mul_pos pa pos
  have hD2 : D ≤ 1000000000000 := by rw [← hD]; exact Nat.mul_le_mul (show a ≤ 1000000 by omega) (show q.den ≤ 1000000 by omega)
  obtain ⟨X1, hX1⟩ : ∃ X : Int, p.num * b = X := ⟨_, rfl⟩
  obtain ⟨X2, hX2⟩ : ∃ X : Int, q.num * a = X := ⟨_, rfl⟩
  rw [hX1] at x1 x2
  rw [hX2] at y1 y2
  rw [hX1, hX2, hD] at HSP
  obtain ⟨N, hN⟩ : ∃ X : Int, X1 + X2 = X := ⟨_, rfl⟩
  rw [hN] at HSP
  have s1 : IntKind.i64.wrap (p.num * b) = X1 := by rw [hX1]; exact IntWalk.i64_in _ (by omega)
  have s2 : IntKind.i64.wrap (q.num * a) = X2 := by rw [hX2]; exact IntWalk.i64_in _ (by omega)
  have s3 : IntKind.i64.wrap (X1 + X2) = N := by rw [hN]; exact IntWalk.i64_in _ (by omega)
  have s4 : IntKind.i64.wrap ((a : Int) * (q.den : Int)) = (D : Int) := by rw [← hD]; push_cast; rw [← Int.natCast_mul, hD]; exact IntWalk.i64_in _ (by omega)
  have hN1 : -9223372036854775808 < N := by omega
  have hN2 : N ≤ 9223372036854775807 := by omega
  have hg0 : ((g : Int) == 0) = false := by simp; omega
  have hg1 : (0 : Int) < (g : Int) := by omega
  have t1 : ((q.den : Int)).tdiv (g : Int) = (b : Int) := by rw [Int.tdiv_eq_ediv_of_nonneg (by omega)]; exact e2
  have t2 : ((p.den : Int)).tdiv (g : Int) = (a : Int) := by rw [Int.tdiv_eq_ediv_of_nonneg (by omega)]; exact e1
  have s5 : IntKind.i64.wrap (a : Int) = (a : Int) := IntWalk.i64_in _ (by omega)
  have s6 : IntKind.i64.wrap (b : Int) = (b : Int) := IntWalk.i64_in _ (by omega)
  have HM := Lib.hid (fun w => refMake_any N D (p + q) w HSP.out hN1 hN2 hD1 (by omega))
  have hgm : g ≤ 1000000 := by
    have := Nat.gcd_le_right p.den pos
    omega
  clear Hc eg f1 f2 m1 m2 hco HSP hX1 hX2 hD hN x1 x2 y1 y2 hN1 hN2 hD1 hD2
  go_enter Tryd.func38, Tryd.ntmps38
  go_wp2_with fail
  refine (refBoth_good p q _ HP.out HQ.out).mono ?_
  rintro e w1 ⟨rfl, hb1⟩
  have hw1 : Below w.heap.size w w1 := stepH (by (repeat' (first | with_reducible exact Below.refl _ _ | with_reducible assumption | with_reducible refine Below.drew ?_ | with_reducible refine below_drewN ?_ _ | with_reducible refine Below.setCell ?_ ?_ _ | with_reducible refine Below.alloc ?_ ?_ _ | omega | (simp; done) | (simp; omega)))) hb1
  have P_ := keepH hb1 (g := w.heap.size) (blk_old (blk_old (blk_new rfl)))
  have Q_ := keepH hb1 (g := w.heap.size + 1) (blk_old (blk_new (by simp)))
  have R4 := keepH hb1 (g := w.heap.size + 1 + 1) (blk_new (by simp))
  have z1 := hw1.size
  clear hb1
  have cP_ := cellH P_
  obtain ⟨lP_, lP_1, lP_2⟩ := ltH P_
  have cQ_ := cellH Q_
  obtain ⟨lQ_, lQ_1, lQ_2⟩ := ltH Q_
  have cR4 := cellH R4
  obtain ⟨lR4, lR41, lR42⟩ := ltH R4
  have fzR4 := frozH R4
  go_wp2_with fail
  refine (HC.out _ (by omega) (by omega)).mono ?_
  rintro e w2 ⟨rfl, hb2⟩
  have hw2 : Below w.heap.size w w2 := stepH (by (repeat' (first | with_reducible exact Below.refl _ _ | with_reducible assumption | with_reducible refine Below.drew ?_ | with_reducible refine below_drewN ?_ _ | with_reducible refine Below.setCell ?_ ?_ _ | with_reducible refine Below.alloc ?_ ?_ _ | omega | (simp; done) | (simp; omega)))) hb2
  replace P_ := keepH hb2 P_.out
  replace Q_ := keepH hb2 Q_.out
  replace R4 := keepH hb2 R4.out
  have z2 := hw2.size
  clear hb2 hw1 z1
  clear cP_ lP_ lP_1 lP_2 cQ_ lQ_ lQ_1 lQ_2 cR4 lR4 lR41 lR42 fzR4
  have cP_ := cellH P_
  obtain ⟨lP_, lP_1, lP_2⟩ := ltH P_
  have cQ_ := cellH Q_
  obtain ⟨lQ_, lQ_1, lQ_2⟩ := ltH Q_
  have cR4 := cellH R4
  obtain ⟨lR4, lR41, lR42⟩ := ltH R4
  have fzR4 := frozH R4
  go_wp2_with fail
  go_quiet (fail)
  go_wp2_with fail
  go_quiet (fail)
  clear s1 s2 s3 s4 s5 s6 t1 t2 e1 e2
  go_wp2_with fail
  refine (HM.out _).mono ?_
  rintro e w3 ⟨⟨n', d', c, rfl, hr⟩, hb3⟩
  have hw3 : Below w.heap.size w w3 := stepH (by (repeat' (first | with_reducible exact Below.refl _ _ | with_reducible assumption | with_reducible refine Below.drew ?_ | with_reducible refine below_drewN ?_ _ | with_reducible refine Below.setCell ?_ ?_ _ | with_reducible refine Below.alloc ?_ ?_ _ | omega | (simp; done) | (simp; omega)))) hb3
  replace P_ := keepH hb3 P_.out
  replace Q_ := keepH hb3 Q_.out
  replace R4 := keepH hb3 R4.out
  have z3 := hw3.size
  clear hb3 hw2 z2
  clear cP_ lP_ lP_1 lP_2 cQ_ lQ_ lQ_1 lQ_2 cR4 lR4 lR41 lR42 fzR4
  have cP_ := cellH P_
  obtain ⟨lP_, lP_1, lP_2⟩ := ltH P_
  have cQ_ := cellH Q_
  obtain ⟨lQ_, lQ_1, lQ_2⟩ := ltH Q_
  have cR4 := cellH R4
  obtain ⟨lR4, lR41, lR42⟩ := ltH R4
  have fzR4 := frozH R4
  go_wp2_with fail
  refine bodyPost_ret (v := .tuple #[.agg #[.int .i64 n', .int .i64 d'], .int .i64 c]) (by simp [results, Tryd.results38, go_sem, cR4]) rfl ⟨⟨_, _, _, rfl, hr⟩, by (repeat' (first | with_reducible exact Below.refl _ _ | with_reducible assumption | with_reducible refine Below.drew ?_ | with_reducible refine below_drewN ?_ _ | with_reducible refine Below.setCell ?_ ?_ _ | with_reducible refine Below.alloc ?_ ?_ _ | omega | (simp; done) | (simp; omega)))⟩

set_option maxHeartbeats 4000000 in
theorem refSub_any (p q : Rat) (w : World) (hp : Good p) (hq : Good q) :
    Calls Tryd.prog 55 #[.agg #[.int .i64 p.num, .int .i64 p.den], .agg #[.int .i64 q.num, .int .i64 q.den]] w fun e w' =>
      (∃ n d c, e = .returned (.tuple #[.agg #[.int .i64 n, .int .i64 d], .int .i64 c]) ∧ ResC (goodR (p - q)) n d c) ∧ Below w.heap.size w w' := by
  have HP := Lib.hid hp
  have HQ := Lib.hid hq
  have hqn : Good (-q) := by
    obtain ⟨h1, h2, h3⟩ := hq
    refine ⟨?_, ?_, ?_⟩ <;> simp only [Rat.neg_num, Rat.neg_den] <;> omega
  have HADD := Lib.hid (fun w => refAdd_any p (-q) w hp hqn)
  rw [Rat.neg_num, Rat.neg_den, show p + -q = p - q from (Rat.sub_eq_add_neg p q).symm] at HADD
  obtain ⟨qn1, qn2, qd1, qd2⟩ := num_le hq
  clear hp hq hqn
  go_enter Tryd.func55, Tryd.ntmps55
  go_wp2_with fail
  refine (refBoth_good p q _ HP.out HQ.out).mono ?_
  rintro e w1 ⟨rfl, hb1⟩
  have hw1 : Below w.heap.size w w1 := stepH (by (repeat' (first | with_reducible exact Below.refl _ _ | with_reducible assumption | with_reducible refine Below.drew ?_ | with_reducible refine below_drewN ?_ _ | with_reducible refine Below.setCell ?_ ?_ _ | with_reducible refine Below.alloc ?_ ?_ _ | omega | (simp; done) | (simp; omega)))) hb1
  have P_ := keepH hb1 (g := w.heap.size) (blk_old (blk_old (blk_new rfl)))
  have Q_ := keepH hb1 (g := w.heap.size + 1) (blk_old (blk_new (by simp)))
  have R4 := keepH hb1 (g := w.heap.size + 1 + 1) (blk_new (by simp))
  have z1 := hw1.size
  clear hb1
  have cP_ := cellH P_
  obtain ⟨lP_, lP_1, lP_2⟩ := ltH P_
  have cQ_ := cellH Q_
  obtain ⟨lQ_, lQ_1, lQ_2⟩ := ltH Q_
  have cR4 := cellH R4
  obtain ⟨lR4, lR41, lR42⟩ := ltH R4
  have fzR4 := frozH R4
  go_wp2_with fail
  clear cP_ lP_ lP_1 lP_2 cQ_ lQ_ lQ_1 lQ_2 cR4 lR4 lR41 lR42 fzR4
  have p0 : w1.cell? ⟨w.heap.size, 0, none⟩ = some (.int .i64 p.num) := cellH P_ 0
  have p1 : w1.cell? ⟨w.heap.size, 1, none⟩ = some (.int .i64 p.den) := cellH P_ 1
  have q0 : w1.cell? ⟨w.heap.size + 1, 0, none⟩ = some (.int .i64 q.num) := cellH Q_ 0
  have q1 : w1.cell? ⟨w.heap.size + 1, 1, none⟩ = some (.int .i64 q.den) := cellH Q_ 1
  have n1 : w.heap.size ≠ w.heap.size + 1 + 1 := by omega
  have n2 : w.heap.size + 1 ≠ w.heap.size + 1 + 1 := by omega
  go_region_held3 (fun w' => w'.cell? ⟨w.heap.size, 0, none⟩ = some (.int .i64 p.num) ∧ w'.cell? ⟨w.heap.size, 1, none⟩ = some (.int .i64 p.den) ∧ w'.cell? ⟨w.heap.size + 1, 0, none⟩ = some (.int .i64 q.num) ∧ w'.cell? ⟨w.heap.size + 1, 1, none⟩ = some (.int .i64 q.den)) (first | with_reducible exact ⟨p0, p1, q0, q1⟩ | with_reducible exact ⟨cell_set (cell_set p0 (by first | assumption | (dsimp only; assumption))) (by first | assumption | (dsimp only; assumption)), cell_set (cell_set p1 (by first | assumption | (dsimp only; assumption))) (by first | assumption | (dsimp only; assumption)), cell_set (cell_set q0 (by first | assumption | (dsimp only; assumption))) (by first | assumption | (dsimp only; assumption)), cell_set (cell_set q1 (by first | assumption | (dsimp only; assumption))) (by first | assumption | (dsimp only; assumption))⟩ | go_keep)
    (first | (go_at_call 67; refine (refNeg_good q.num q.den _ (by omega) (by omega)).mono ?_; rintro e w2 ⟨rfl, hb2⟩; have hw2 : Below w.heap.size w w2 := stepH (by (repeat' (first | with_reducible exact Below.refl _ _ | with_reducible assumption | with_reducible refine Below.drew ?_ | with_reducible refine below_drewN ?_ _ | with_reducible refine Below.setCell ?_ ?_ _ | with_reducible refine Below.alloc ?_ ?_ _ | omega | (simp; done) | (simp; omega)))) hb2; replace R4 := keepH hb2 (by exact R4.out); have cR4 := cellH R4; have lR4 := lt_of_H R4; have fR4 := frozH R4; replace P_ := keepH hb2 (by exact P_.out); replace Q_ := keepH hb2 (by exact Q_.out); replace p0 : w2.cell? ⟨w.heap.size, 0, none⟩ = some (.int .i64 p.num) := cellH P_ 0; replace p1 : w2.cell? ⟨w.heap.size, 1, none⟩ = some (.int .i64 p.den) := cellH P_ 1; replace q0 : w2.cell? ⟨w.heap.size + 1, 0, none⟩ = some (.int .i64 q.num) := cellH Q_ 0; replace q1 : w2.cell? ⟨w.heap.size + 1, 1, none⟩ = some (.int .i64 q.den) := cellH Q_ 1) | (go_at_call 38; refine (HADD.out _).mono ?_; rintro e w3 ⟨⟨n', d', c, rfl, hr⟩, hb3⟩; have hw3 : Below w.heap.size w w3 := stepH (by (repeat' (first | with_reducible exact Below.refl _ _ | with_reducible assumption | with_reducible refine Below.drew ?_ | with_reducible refine below_drewN ?_ _ | with_reducible refine Below.setCell ?_ ?_ _ | with_reducible refine Below.alloc ?_ ?_ _ | omega | (simp; done) | (simp; omega)))) hb3; replace R4 := keepH hb3 (by exact R4.out); have cR4 := cellH R4; have lR4 := lt_of_H R4; have fR4 := frozH R4; replace P_ := keepH hb3 (by exact P_.out); replace Q_ := keepH hb3 (by exact Q_.out); replace p0 : w3.cell? ⟨w.heap.size, 0, none⟩ = some (.int .i64 p.num) := cellH P_ 0; replace p1 : w3.cell? ⟨w.heap.size, 1, none⟩ = some (.int .i64 p.den) := cellH P_ 1; replace q0 : w3.cell? ⟨w.heap.size + 1, 0, none⟩ = some (.int .i64 q.num) := cellH Q_ 0; replace q1 : w3.cell? ⟨w.heap.size + 1, 1, none⟩ = some (.int .i64 q.den) := cellH Q_ 1))
  all_goals go_wp2_with fail
  all_goals refine bodyPost_ret (v := .tuple #[.agg #[.int .i64 n', .int .i64 d'], .int .i64 c]) (by simp [results, Tryd.results55, go_sem, cR4]) rfl ⟨⟨_, _, _, rfl, hr⟩, by (repeat' (first | with_reducible exact Below.refl _ _ | with_reducible assumption | with_reducible refine Below.drew ?_ | with_reducible refine below_drewN ?_ _ | with_reducible refine Below.setCell ?_ ?_ _ | with_reducible refine Below.alloc ?_ ?_ _ | omega | (simp; done) | (simp; omega)))⟩

end Go.Proofs.YtmankldedhgdiaaDoor
