/- The references' product of fractions: walks. -/
import Derived.Test.YtmankldedhgdiaaDoorRef
namespace Go.Proofs.YtmankldedhgdiaaDoor
open Go.RowKit

theorem refTimes_yes (a b m : Nat) (w : World) (h : a * b ≤ m) (ha : a ≤ 1000000000000) (hb : b ≤ 1000000000000) (hm : m ≤ 1000000000000) :
    Calls Tryd.prog 70 #[.int .i64 a, .int .i64 b, .int .i64 m] w fun e w' => e = .returned (.tuple #[.int .i64 ((a * b : Nat) : Int), .bool true]) ∧ Below w.heap.size w w' := by
  obtain ⟨t, ht⟩ : ∃ t, a * b = t := ⟨_, rfl⟩
  rcases Nat.eq_zero_or_pos a with h0 | h0
  · subst h0
    rw [Nat.zero_mul]
    go_enter Tryd.func70, Tryd.ntmps70
    go_wp2
    go_ret2
    exact ⟨rfl, by (repeat' (first | with_reducible exact Below.refl _ _ | with_reducible assumption | with_reducible refine Below.drew ?_ | with_reducible refine below_drewN ?_ _ | with_reducible refine Below.setCell ?_ ?_ _ | with_reducible refine Below.alloc ?_ ?_ _ | omega | (simp; done) | (simp; omega)))⟩
  rcases Nat.eq_zero_or_pos b with h1 | h1
  · subst h1
    have ha0 : ((a : Int) == 0) = false := beq_false_of_ne (by omega)
    rw [Nat.mul_zero]
    go_enter Tryd.func70, Tryd.ntmps70
    go_wp2
    go_ret2
    exact ⟨rfl, by (repeat' (first | with_reducible exact Below.refl _ _ | with_reducible assumption | with_reducible refine Below.drew ?_ | with_reducible refine below_drewN ?_ _ | with_reducible refine Below.setCell ?_ ?_ _ | with_reducible refine Below.alloc ?_ ?_ _ | omega | (simp; done) | (simp; omega)))⟩
  · have ha0 : ((a : Int) == 0) = false := beq_false_of_ne (by omega)
    have hb0 : ((b : Int) == 0) = false := beq_false_of_ne (by omega)
    have hb1 : (0 : Int) < (b : Int) := by omega
    have hq : a ≤ m / b := (Nat.le_div_iff_mul_le h1).2 h
    obtain ⟨q, hq2⟩ : ∃ q, m / b = q := ⟨_, rfl⟩
    have td : ((m : Int)).tdiv (b : Int) = (q : Int) := by rw [Int.tdiv_eq_ediv_of_nonneg (by omega), ← hq2]; exact (Int.natCast_ediv ..).symm
    have td2 : (m : Int) / (b : Int) = (q : Int) := by rw [← hq2]; exact (Int.natCast_ediv ..).symm
    rw [hq2] at hq
    have s1 : IntKind.i64.wrap ((a : Int) * (b : Int)) = (t : Int) := by rw [← ht]; push_cast; rw [← Int.natCast_mul, ht]; exact IntWalk.i64_in _ (by omega)
    have hql : q ≤ m := by rw [← hq2]; exact Nat.div_le_self _ _
    have s2 : IntKind.i64.wrap (q : Int) = (q : Int) := IntWalk.i64_in _ (by omega)
    have hd : decide ((q : Int) < (a : Int)) = false := decide_eq_false (by omega)
    have hd2 : decide (q < a) = false := decide_eq_false (by omega)
    rw [ht]
    have HT := Lib.hid ht
    clear h hq2 ht
    go_enter Tryd.func70, Tryd.ntmps70
    go_wp2
    go_ret2
    exact ⟨rfl, by (repeat' (first | with_reducible exact Below.refl _ _ | with_reducible assumption | with_reducible refine Below.drew ?_ | with_reducible refine below_drewN ?_ _ | with_reducible refine Below.setCell ?_ ?_ _ | with_reducible refine Below.alloc ?_ ?_ _ | omega | (simp; done) | (simp; omega)))⟩

theorem refTimes_no (a b m : Nat) (w : World) (h : m < a * b) (ha : a ≤ 1000000000000) (hb : b ≤ 1000000000000) (hm : m ≤ 1000000000000) :
    Calls Tryd.prog 70 #[.int .i64 a, .int .i64 b, .int .i64 m] w fun e w' => e = .returned (.tuple #[.int .i64 0, .bool false]) ∧ Below w.heap.size w w' := by
  have h0 : 0 < a := by
    rcases Nat.eq_zero_or_pos a with h0 | h0
    · subst h0; rw [Nat.zero_mul] at h; omega
    · exact h0
  have h1 : 0 < b := by
    rcases Nat.eq_zero_or_pos b with h0 | h0
    · subst h0; rw [Nat.mul_zero] at h; omega
    · exact h0
  have ha0 : ((a : Int) == 0) = false := beq_false_of_ne (by omega)
  have hb0 : ((b : Int) == 0) = false := beq_false_of_ne (by omega)
  have hb1 : (0 : Int) < (b : Int) := by omega
  have hq : m / b < a := (Nat.div_lt_iff_lt_mul h1).2 h
  obtain ⟨q, hq2⟩ : ∃ q, m / b = q := ⟨_, rfl⟩
  have td : ((m : Int)).tdiv (b : Int) = (q : Int) := by rw [Int.tdiv_eq_ediv_of_nonneg (by omega), ← hq2]; exact (Int.natCast_ediv ..).symm
  have td2 : (m : Int) / (b : Int) = (q : Int) := by rw [← hq2]; exact (Int.natCast_ediv ..).symm
  rw [hq2] at hq
  have s2 : IntKind.i64.wrap (q : Int) = (q : Int) := IntWalk.i64_in _ (by omega)
  have hd : decide ((q : Int) < (a : Int)) = true := decide_eq_true (by omega)
  have hd2 : decide (q < a) = true := decide_eq_true (by omega)
  clear h hq2
  go_enter Tryd.func70, Tryd.ntmps70
  go_wp2
  go_ret2
  exact ⟨rfl, by (repeat' (first | with_reducible exact Below.refl _ _ | with_reducible assumption | with_reducible refine Below.drew ?_ | with_reducible refine below_drewN ?_ _ | with_reducible refine Below.setCell ?_ ?_ _ | with_reducible refine Below.alloc ?_ ?_ _ | omega | (simp; done) | (simp; omega)))⟩

/-- what times tells -/
def timesN (a b m : Nat) : Nat := if a * b ≤ m then a * b else 0
def timesB (a b m : Nat) : Bool := decide (a * b ≤ m)

theorem refTimes_any (a b m : Nat) (t : Nat) (f : Bool) (w : World) (hn : timesN a b m = t) (hf : timesB a b m = f) (ha : a ≤ 1000000000000) (hb : b ≤ 1000000000000) (hm : m ≤ 1000000000000) :
    Calls Tryd.prog 70 #[.int .i64 a, .int .i64 b, .int .i64 m] w fun e w' => e = .returned (.tuple #[.int .i64 t, .bool f]) ∧ Below w.heap.size w w' := by
  subst hn hf
  by_cases h : a * b ≤ m
  · have e1 : timesN a b m = a * b := if_pos h
    have e2 : timesB a b m = true := decide_eq_true h
    rw [e1, e2]; exact refTimes_yes a b m w h ha hb hm
  · have e1 : timesN a b m = 0 := if_neg h
    have e2 : timesB a b m = false := decide_eq_false h
    rw [e1, e2]; exact refTimes_no a b m w (by omega) ha hb hm

set_option maxRecDepth 10000 in
set_option maxHeartbeats 4000000 in
theorem refProduct_any (a b c d g h a1 b1 c1 d1 : Nat) (w : World) (eg : Nat.gcd a d = g) (eh : Nat.gcd c b = h) (hg : 0 < g) (hh : 0 < h) (ea : a = g * a1) (ed : d = g * d1) (ec : c = h * c1) (eb : b = h * b1)
    (la : a ≤ 1000000000000) (lb : b ≤ 1000000) (lc : c ≤ 1000000000000) (ld : d ≤ 1000000) :
    Calls Tryd.prog 58 #[.int .i64 a, .int .i64 b, .int .i64 c, .int .i64 d] w fun e w' => e = .returned (.tuple #[.int .i64 (timesN a1 c1 1000000000000), .int .i64 (timesN b1 d1 1000000), .bool (timesB a1 c1 1000000000000 && timesB b1 d1 1000000)]) ∧ Below w.heap.size w w' := by
  obtain ⟨n, hn⟩ : ∃ n, timesN a1 c1 1000000000000 = n := ⟨_, rfl⟩
  obtain ⟨m, hm⟩ : ∃ n, timesN b1 d1 1000000 = n := ⟨_, rfl⟩
  obtain ⟨f1, hf1⟩ : ∃ n, timesB a1 c1 1000000000000 = n := ⟨_, rfl⟩
  obtain ⟨f2, hf2⟩ : ∃ n, timesB b1 d1 1000000 = n := ⟨_, rfl⟩
  rw [hn, hm, hf1, hf2]
  have q1 : ((a : Int)).tdiv (g : Int) = (a1 : Int) := by rw [ea, Int.tdiv_eq_ediv_of_nonneg (by omega)]; push_cast; exact Int.mul_ediv_cancel_left _ (by omega)
  have q2 : ((c : Int)).tdiv (h : Int) = (c1 : Int) := by rw [ec, Int.tdiv_eq_ediv_of_nonneg (by omega)]; push_cast; exact Int.mul_ediv_cancel_left _ (by omega)
  have q3 : ((b : Int)).tdiv (h : Int) = (b1 : Int) := by rw [eb, Int.tdiv_eq_ediv_of_nonneg (by omega)]; push_cast; exact Int.mul_ediv_cancel_left _ (by omega)
  have q4 : ((d : Int)).tdiv (g : Int) = (d1 : Int) := by rw [ed, Int.tdiv_eq_ediv_of_nonneg (by omega)]; push_cast; exact Int.mul_ediv_cancel_left _ (by omega)
  have r1 : (a : Int) / (g : Int) = (a1 : Int) := by rw [← q1, Int.tdiv_eq_ediv_of_nonneg (by omega)]
  have r2 : (c : Int) / (h : Int) = (c1 : Int) := by rw [← q2, Int.tdiv_eq_ediv_of_nonneg (by omega)]
  have r3 : (b : Int) / (h : Int) = (b1 : Int) := by rw [← q3, Int.tdiv_eq_ediv_of_nonneg (by omega)]
  have r4 : (d : Int) / (g : Int) = (d1 : Int) := by rw [← q4, Int.tdiv_eq_ediv_of_nonneg (by omega)]
  have la1 : a1 ≤ a := by rw [ea]; exact Nat.le_mul_of_pos_left _ hg
  have lc1 : c1 ≤ c := by rw [ec]; exact Nat.le_mul_of_pos_left _ hh
  have lb1 : b1 ≤ b := by rw [eb]; exact Nat.le_mul_of_pos_left _ hh
  have ld1 : d1 ≤ d := by rw [ed]; exact Nat.le_mul_of_pos_left _ hg
  have w1 : IntKind.i64.wrap (a1 : Int) = (a1 : Int) := IntWalk.i64_in _ (by omega)
  have w2 : IntKind.i64.wrap (b1 : Int) = (b1 : Int) := IntWalk.i64_in _ (by omega)
  have w3 : IntKind.i64.wrap (c1 : Int) = (c1 : Int) := IntWalk.i64_in _ (by omega)
  have w4 : IntKind.i64.wrap (d1 : Int) = (d1 : Int) := IntWalk.i64_in _ (by omega)
  have g0 : ((g : Int) == 0) = false := beq_false_of_ne (by omega)
  have h0 : ((h : Int) == 0) = false := beq_false_of_ne (by omega)
  have g1 : (0 : Int) < (g : Int) := by omega
  have h1 : (0 : Int) < (h : Int) := by omega
  have g2 : ¬ g = 0 := by omega
  have h2 : ¬ h = 0 := by omega
  have g3 : ¬ (g : Int) = 0 := by omega
  have h3 : ¬ (h : Int) = 0 := by omega
  have T1 := Lib.hid (fun w => refTimes_any a1 c1 1000000000000 n f1 w hn hf1 (by omega) (by omega) (by omega))
  have T2 := Lib.hid (fun w => refTimes_any b1 d1 1000000 m f2 w hm hf2 (by omega) (by omega) (by omega))
  have G1 := Lib.hid (fun w => gcd_any a d w (by omega) (by omega))
  have G2 := Lib.hid (fun w => gcd_any c b w (by omega) (by omega))
  rw [eg] at G1
  rw [eh] at G2
  clear eg eh ea ed ec eb hn hm hf1 hf2
  go_enter Tryd.func58, Tryd.ntmps58
  go_wp2_with fail
  refine (G1.out _).mono ?_
  rintro e w1 ⟨rfl, hb1⟩
  have hw1 : Below w.heap.size w w1 := stepH (by (repeat' (first | with_reducible exact Below.refl _ _ | with_reducible assumption | with_reducible refine Below.drew ?_ | with_reducible refine below_drewN ?_ _ | with_reducible refine Below.setCell ?_ ?_ _ | with_reducible refine Below.alloc ?_ ?_ _ | omega | (simp; done) | (simp; omega)))) hb1
  have z1 := hw1.size
  clear hb1
  go_wp2_with fail
  refine (G2.out _).mono ?_
  rintro e w2 ⟨rfl, hb2⟩
  have hw2 : Below w.heap.size w w2 := stepH (by (repeat' (first | with_reducible exact Below.refl _ _ | with_reducible assumption | with_reducible refine Below.drew ?_ | with_reducible refine below_drewN ?_ _ | with_reducible refine Below.setCell ?_ ?_ _ | with_reducible refine Below.alloc ?_ ?_ _ | omega | (simp; done) | (simp; omega)))) hb2
  have z2 := hw2.size
  clear hb2 hw1 z1
  go_wp2_with fail
  go_region_held3 (fun w' => True) (exact trivial)
    (first | (go_at_call 70; refine (T1.out _).mono ?_; rintro e w3 ⟨rfl, hb3⟩; have hw3 : Below w.heap.size w w3 := stepH (by (repeat' (first | with_reducible exact Below.refl _ _ | with_reducible assumption | with_reducible refine Below.drew ?_ | with_reducible refine below_drewN ?_ _ | with_reducible refine Below.setCell ?_ ?_ _ | with_reducible refine Below.alloc ?_ ?_ _ | omega | (simp; done) | (simp; omega)))) hb3))
  have z3 := hw3.size
  go_wp2_with fail
  go_region_held3 (fun w' => True) (exact trivial)
    (first | (go_at_call 70; refine (T2.out _).mono ?_; rintro e w4 ⟨rfl, hb4⟩; have hw4 : Below w.heap.size w w4 := stepH (by (repeat' (first | with_reducible exact Below.refl _ _ | with_reducible assumption | with_reducible refine Below.drew ?_ | with_reducible refine below_drewN ?_ _ | with_reducible refine Below.setCell ?_ ?_ _ | with_reducible refine Below.alloc ?_ ?_ _ | omega | (simp; done) | (simp; omega)))) hb4))
  have z4 := hw4.size
  cases f1
  all_goals cases f2
  all_goals go_wp2_with fail
  all_goals go_ret3
  all_goals exact ⟨rfl, by (repeat' (first | with_reducible exact Below.refl _ _ | with_reducible assumption | with_reducible refine Below.drew ?_ | with_reducible refine below_drewN ?_ _ | with_reducible refine Below.setCell ?_ ?_ _ | with_reducible refine Below.alloc ?_ ?_ _ | omega | (simp; done) | (simp; omega)))⟩

theorem refSigned_any (n : Int) (minus : Bool) (w : World) (n1 : 0 ≤ n) (n2 : n ≤ 1000000000000) : Calls Tryd.prog 59 #[.int .i64 n, .bool minus] w fun e w' => e = .returned (.int .i64 (if minus then -n else n)) ∧ Below w.heap.size w w' := by
  cases minus
  · go_enter Tryd.func59, Tryd.ntmps59
    go_wp2
    go_ret
    exact ⟨rfl, by (repeat' (first | with_reducible exact Below.refl _ _ | with_reducible assumption | with_reducible refine Below.drew ?_ | with_reducible refine below_drewN ?_ _ | with_reducible refine Below.setCell ?_ ?_ _ | with_reducible refine Below.alloc ?_ ?_ _ | omega | (simp; done) | (simp; omega)))⟩
  · go_enter Tryd.func59, Tryd.ntmps59
    go_wp2
    go_ret
    exact ⟨rfl, by (repeat' (first | with_reducible exact Below.refl _ _ | with_reducible assumption | with_reducible refine Below.drew ?_ | with_reducible refine below_drewN ?_ _ | with_reducible refine Below.setCell ?_ ?_ _ | with_reducible refine Below.alloc ?_ ?_ _ | omega | (simp; done) | (simp; omega)))⟩

theorem max_abs (n : Int) : max n (-n) = (n.natAbs : Int) := by omega

set_option maxRecDepth 10000 in
set_option maxHeartbeats 4000000 in
theorem refMul_any (p q : Rat) (w : World) (hp : Good p) (hq : Good q) :
    Calls Tryd.prog 40 #[.agg #[.int .i64 p.num, .int .i64 p.den], .agg #[.int .i64 q.num, .int .i64 q.den]] w fun e w' =>
      (∃ n d c, e = .returned (.tuple #[.agg #[.int .i64 n, .int .i64 d], .int .i64 c]) ∧ ResC (goodR (p * q)) n d c) ∧ Below w.heap.size w w' := by
  have HP := Lib.hid hp
  have HQ := Lib.hid hq
  obtain ⟨pn1, pn2, pd1, pd2⟩ := num_le hp
  obtain ⟨qn1, qn2, qd1, qd2⟩ := num_le hq
  have hms := mul_signed p q
  obtain ⟨sg, hsg⟩ : ∃ b, (decide (p.num < 0) != decide (q.num < 0)) = b := ⟨_, rfl⟩
  rw [hsg] at hms
  have hmp := max_abs p.num
  have hmq := max_abs q.num
  have cop : Nat.gcd p.num.natAbs p.den = 1 := p.reduced
  have coq : Nat.gcd q.num.natAbs q.den = 1 := q.reduced
  obtain ⟨a, ha⟩ : ∃ a, p.num.natAbs = a := ⟨_, rfl⟩
  obtain ⟨c, hc⟩ : ∃ c, q.num.natAbs = c := ⟨_, rfl⟩
  have la : a ≤ 1000000000000 := by omega
  have lc : c ≤ 1000000000000 := by omega
  rw [ha] at hms hmp cop
  rw [hc] at hms hmq coq
  obtain ⟨g, a1, d1, hg, eg, _, _, _, _, _, pd, _, ea, ed, _⟩ := gcd_facts a q.den q.den_pos
  obtain ⟨h, c1, b1, hh, eh, _, _, _, _, _, pb, _, ec, eb, _⟩ := gcd_facts c p.den p.den_pos
  obtain ⟨m1, m2, m3⟩ := mul_facts hg hh eg eh ea ed ec eb cop coq pb pd
  rw [m1] at hms
  have HS := Lib.hid hms
  have HN := Lib.hid m2
  have HD := Lib.hid m3
  have HPR := Lib.hid (fun w => refProduct_any a p.den c q.den g h a1 b1 c1 d1 w eg eh hg hh ea ed ec eb la (by omega) lc (by omega))
  have hgood := signed_good sg m2 m3
  have HG := Lib.hid hgood
  have HSG := Lib.hid hsg
  clear hms m1 m2 m3 eg eh ea ed ec eb cop coq hgood ha hc hp hq hsg
  obtain ⟨f, hf⟩ : ∃ f, (timesB a1 c1 1000000000000 && timesB b1 d1 1000000) = f := ⟨_, rfl⟩
  rw [hf] at HPR
  cases f
  · have hng : ¬ Good (p * q) := by
      rw [← HS.out, HG.out]
      rintro ⟨h1, h2⟩
      have e1 : timesB a1 c1 1000000000000 = true := decide_eq_true h1
      have e2 : timesB b1 d1 1000000 = true := decide_eq_true h2
      rw [e1, e2] at hf; cases hf
    have HNG := Lib.hid hng
    clear hf hng
    obtain ⟨tn, htn⟩ : ∃ t, timesN a1 c1 1000000000000 = t := ⟨_, rfl⟩
    obtain ⟨td, htd⟩ : ∃ t, timesN b1 d1 1000000 = t := ⟨_, rfl⟩
    rw [htn, htd] at HPR
    clear htn htd
    go_enter Tryd.func40, Tryd.ntmps40
    go_wp2_with fail
    refine (refBoth_good p q _ HP.out HQ.out).mono ?_
    rintro e w1 ⟨rfl, hb1⟩
    have hw1 : Below w.heap.size w w1 := stepH (by (repeat' (first | with_reducible exact Below.refl _ _ | with_reducible assumption | with_reducible refine Below.drew ?_ | with_reducible refine below_drewN ?_ _ | with_reducible refine Below.setCell ?_ ?_ _ | with_reducible refine Below.alloc ?_ ?_ _ | omega | (simp; done) | (simp; omega)))) hb1
    have P_ := keepH hb1 (g := w.heap.size) (blk_old (blk_old (blk_new rfl)))
    have Q_ := keepH hb1 (g := w.heap.size + 1) (blk_old (blk_new (by simp)))
    have R4 := keepH hb1 (g := w.heap.size + 1 + 1) (blk_new (by simp))
    have z1 := hw1.size
    clear hb1
    have cP_ := cellH P_
    obtain ⟨lP_, lP_1, lP_2⟩ := ltH P_
    have cQ_ := cellH Q_
    obtain ⟨lQ_, lQ_1, lQ_2⟩ := ltH Q_
    have cR4 := cellH R4
    obtain ⟨lR4, lR41, lR42⟩ := ltH R4
    have fzR4 := frozH R4
    go_wp2_with fail
    refine (HPR.out _).mono ?_
    rintro e w2 ⟨rfl, hb2⟩
    have hw2 : Below w.heap.size w w2 := stepH (by (repeat' (first | with_reducible exact Below.refl _ _ | with_reducible assumption | with_reducible refine Below.drew ?_ | with_reducible refine below_drewN ?_ _ | with_reducible refine Below.setCell ?_ ?_ _ | with_reducible refine Below.alloc ?_ ?_ _ | omega | (simp; done) | (simp; omega)))) hb2
    replace P_ := keepH hb2 P_.out
    replace Q_ := keepH hb2 Q_.out
    replace R4 := keepH hb2 R4.out
    have z2 := hw2.size
    clear hb2 hw1 z1
    clear cP_ lP_ lP_1 lP_2 cQ_ lQ_ lQ_1 lQ_2 cR4 lR4 lR41 lR42 fzR4
    have cP_ := cellH P_
    obtain ⟨lP_, lP_1, lP_2⟩ := ltH P_
    have cQ_ := cellH Q_
    obtain ⟨lQ_, lQ_1, lQ_2⟩ := ltH Q_
    have cR4 := cellH R4
    obtain ⟨lR4, lR41, lR42⟩ := ltH R4
    have fzR4 := frozH R4
    go_wp2_with fail
    refine bodyPost_ret (v := .tuple #[.agg #[.int .i64 0, .int .i64 0], .int .i64 101]) (by simp [results, Tryd.results40, go_sem, cR4]) rfl ⟨⟨_, _, _, rfl, resC_bad HNG.out (.inl rfl)⟩, by (repeat' (first | with_reducible exact Below.refl _ _ | with_reducible assumption | with_reducible refine Below.drew ?_ | with_reducible refine below_drewN ?_ _ | with_reducible refine Below.setCell ?_ ?_ _ | with_reducible refine Below.alloc ?_ ?_ _ | omega | (simp; done) | (simp; omega)))⟩
  · rw [Bool.and_eq_true] at hf
    have ok1 : a1 * c1 ≤ 1000000000000 := of_decide_eq_true hf.1
    have ok2 : b1 * d1 ≤ 1000000 := of_decide_eq_true hf.2
    have hgd := HG.out.2 ⟨ok1, ok2⟩
    rw [HS.out] at hgd
    have HGD := Lib.hid hgd
    rw [show timesN a1 c1 1000000000000 = a1 * c1 from if_pos ok1, show timesN b1 d1 1000000 = b1 * d1 from if_pos ok2] at HPR
    obtain ⟨N, hN⟩ : ∃ N, a1 * c1 = N := ⟨_, rfl⟩
    obtain ⟨D, hD⟩ : ∃ D, b1 * d1 = D := ⟨_, rfl⟩
    rw [hN] at HPR HN HD HS ok1
    rw [hD] at HPR HN HD HS ok2
    clear hf hgd hN hD HG
    have hfin : (p * q).num = (if sg then -(N : Int) else N) ∧ ((p * q).den : Int) = D := by
      rw [← HS.out, signed_num, signed_den, HN.out, HD.out]; exact ⟨rfl, rfl⟩
    have HFIN := Lib.hid hfin
    clear hfin
    by_cases hp0 : p.num < 0
    all_goals by_cases hq0 : q.num < 0
    all_goals (obtain rfl : sg = _ := HSG.out.symm)
    all_goals have dp : decide (p.num < 0) = _ := (by first | exact decide_eq_true hp0 | exact decide_eq_false hp0)
    all_goals have dq : decide (q.num < 0) = _ := (by first | exact decide_eq_true hq0 | exact decide_eq_false hq0)
    all_goals rw [dp, dq] at HFIN
    all_goals clear dp dq
    all_goals
      go_enter Tryd.func40, Tryd.ntmps40
      go_wp2_with fail
      refine (refBoth_good p q _ HP.out HQ.out).mono ?_
      rintro e w3 ⟨rfl, hb3⟩
      have hw3 : Below w.heap.size w w3 := stepH (by (repeat' (first | with_reducible exact Below.refl _ _ | with_reducible assumption | with_reducible refine Below.drew ?_ | with_reducible refine below_drewN ?_ _ | with_reducible refine Below.setCell ?_ ?_ _ | with_reducible refine Below.alloc ?_ ?_ _ | omega | (simp; done) | (simp; omega)))) hb3
      have P_ := keepH hb3 (g := w.heap.size) (blk_old (blk_old (blk_new rfl)))
      have Q_ := keepH hb3 (g := w.heap.size + 1) (blk_old (blk_new (by simp)))
      have R4 := keepH hb3 (g := w.heap.size + 1 + 1) (blk_new (by simp))
      have z3 := hw3.size
      clear hb3
      have cP_ := cellH P_
      obtain ⟨lP_, lP_1, lP_2⟩ := ltH P_
      have cQ_ := cellH Q_
      obtain ⟨lQ_, lQ_1, lQ_2⟩ := ltH Q_
      have cR4 := cellH R4
      obtain ⟨lR4, lR41, lR42⟩ := ltH R4
      have fzR4 := frozH R4
      go_wp2_with fail
      refine (HPR.out _).mono ?_
      rintro e w4 ⟨rfl, hb4⟩
      have hw4 : Below w.heap.size w w4 := stepH (by (repeat' (first | with_reducible exact Below.refl _ _ | with_reducible assumption | with_reducible refine Below.drew ?_ | with_reducible refine below_drewN ?_ _ | with_reducible refine Below.setCell ?_ ?_ _ | with_reducible refine Below.alloc ?_ ?_ _ | omega | (simp; done) | (simp; omega)))) hb4
      replace P_ := keepH hb4 P_.out
      replace Q_ := keepH hb4 Q_.out
      replace R4 := keepH hb4 R4.out
      have z4 := hw4.size
      clear hb4 hw3 z3
      clear cP_ lP_ lP_1 lP_2 cQ_ lQ_ lQ_1 lQ_2 cR4 lR4 lR41 lR42 fzR4
      have cP_ := cellH P_
      obtain ⟨lP_, lP_1, lP_2⟩ := ltH P_
      have cQ_ := cellH Q_
      obtain ⟨lQ_, lQ_1, lQ_2⟩ := ltH Q_
      have cR4 := cellH R4
      obtain ⟨lR4, lR41, lR42⟩ := ltH R4
      have fzR4 := frozH R4
      go_wp2_with fail
      refine (refSigned_any _ _ _ (by omega) (by omega)).mono ?_
      rintro e w5 ⟨rfl, hb5⟩
      have hw5 : Below w.heap.size w w5 := stepH (by (repeat' (first | with_reducible exact Below.refl _ _ | with_reducible assumption | with_reducible refine Below.drew ?_ | with_reducible refine below_drewN ?_ _ | with_reducible refine Below.setCell ?_ ?_ _ | with_reducible refine Below.alloc ?_ ?_ _ | omega | (simp; done) | (simp; omega)))) hb5
      replace P_ := keepH hb5 P_.out
      replace Q_ := keepH hb5 Q_.out
      replace R4 := keepH hb5 R4.out
      have z5 := hw5.size
      clear hb5 hw4 z4
      clear cP_ lP_ lP_1 lP_2 cQ_ lQ_ lQ_1 lQ_2 cR4 lR4 lR41 lR42 fzR4
      have cP_ := cellH P_
      obtain ⟨lP_, lP_1, lP_2⟩ := ltH P_
      have cQ_ := cellH Q_
      obtain ⟨lQ_, lQ_1, lQ_2⟩ := ltH Q_
      have cR4 := cellH R4
      obtain ⟨lR4, lR41, lR42⟩ := ltH R4
      have fzR4 := frozH R4
      go_wp2_with fail
      refine bodyPost_ret (v := .tuple #[.agg #[.int .i64 _, .int .i64 D], .int .i64 0]) (by simp [results, Tryd.results40, go_sem, cR4]) rfl ⟨⟨_, _, _, rfl, resC_good HGD.out HFIN.out.1.symm HFIN.out.2.symm⟩, by (repeat' (first | with_reducible exact Below.refl _ _ | with_reducible assumption | with_reducible refine Below.drew ?_ | with_reducible refine below_drewN ?_ _ | with_reducible refine Below.setCell ?_ ?_ _ | with_reducible refine Below.alloc ?_ ?_ _ | omega | (simp; done) | (simp; omega)))⟩

end Go.Proofs.YtmankldedhgdiaaDoor
