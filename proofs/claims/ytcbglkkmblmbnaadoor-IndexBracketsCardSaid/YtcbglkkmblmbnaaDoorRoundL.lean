/- The walks of round: where an amount lies -/
import Derived.Deep.DeepCutAuto
import Derived.Deep.RegionHeld3
import Derived.Deep.RegionWith
import Derived.Test.YtcbglkkmblmbnaaDoorRoundA
namespace Go.Proofs.YtcbglkkmblmbnaaDoor
open Go.RowKit

theorem max_neg (k : Nat) : max (-(k : Int)) k = k := by omega
theorem max_pos (k : Nat) : max (k : Int) (-(k : Int)) = k := by omega
theorem plV_eq {u p d u' p' d' : Int} {lo ex lo' ex' : Bool} (h1 : u = u') (h2 : p = p') (h3 : d = d') (h4 : lo = lo') (h5 : ex = ex') : Ending.returned (plV u p d lo ex) = .returned (plV u' p' d' lo' ex') := by subst h1 h2 h3 h4 h5; rfl

theorem loc_pos {n m D q r : Int} (hn : 0 ≤ n) (hD : 1 ≤ D) (h0 : 0 ≤ r) (h1 : r < D) (h : m = D * q + r) :
    Ending.returned (plV q r D false (decide (r = 0))) = .returned (plV (m / D) (m % D) D (decide (n < 0)) (decide (m % D = 0))) := by
  obtain ⟨a, b⟩ := floor_neg hD h0 h1 h
  rw [a, b, decide_eq_false (show ¬ n < 0 by omega)]
theorem loc_neg {n m M D q r : Int} (hn : n < 0) (hD : 1 ≤ D) (h0 : 0 ≤ r) (h1 : r < D) (h : M = D * q + r) (hm : m = -M) :
    Ending.returned (plV (if r = 0 then -q else -q - 1) (if r = 0 then 0 else D - r) D true (decide (r = 0))) = .returned (plV (m / D) (m % D) D (decide (n < 0)) (decide (m % D = 0))) := by
  rw [decide_eq_true hn]
  by_cases hr : r = 0
  · subst hr
    obtain ⟨a, b⟩ := floor_neg (m := m) (q := -q) (r := 0) hD (by omega) (by omega) (by rw [hm, h, Int.mul_neg]; omega)
    rw [a, b]; rfl
  · obtain ⟨a, b⟩ := floor_neg (m := m) (q := -q - 1) (r := D - r) hD (by omega) (by omega) (by rw [hm, h, Int.mul_sub, Int.mul_neg]; omega)
    rw [a, b, if_neg hr, if_neg hr, decide_eq_false hr, decide_eq_false (show ¬ D - r = 0 by omega)]

set_option maxHeartbeats 2000000 in
theorem locate_any (n : Int) (d un ud : Nat) (w : World) (n1 : -1000000000000 ≤ n) (n2 : n ≤ 1000000000000) (d1 : 1 ≤ d) (d2 : d ≤ 1000000) (u1 : 1 ≤ un) (u2 : un ≤ 1000000000000) (v1 : 1 ≤ ud) (v2 : ud ≤ 1000000) :
    Calls Tryd.prog 44 #[.agg #[.int .i64 n, .int .i64 d], .agg #[.int .i64 un, .int .i64 ud]] w fun e w' =>
      e = .returned (plV (n * ud / (d * un)) (n * ud % (d * un)) (d * un) (decide (n < 0)) (decide (n * ud % (d * un) = 0))) ∧ Below w.heap.size w w' := by
  have p1 := prodN d2 u2
  have pd : 1 ≤ d * un := Nat.mul_pos d1 u1
  have c1 : (d : Int) * un = ((d * un : Nat) : Int) := by push_cast; rfl
  have c2 : 1 ≤ (d : Int) * un ∧ (d : Int) * un ≤ 1000000000000000000 := by omega
  obtain ⟨c3, c4⟩ := c2
  clear p1 pd c1
  by_cases hn : n < 0
  · obtain ⟨k, rfl⟩ : ∃ k : Nat, n = -(k : Int) := ⟨(-n).toNat, by omega⟩
    have p2 := prodN (show k ≤ 1000000000000 by omega) v2
    have c5 : (k : Int) * ud = ((k * ud : Nat) : Int) := by push_cast; rfl
    have HM := Lib.hid (mul64_small k ud (by omega) (by omega) (by omega))
    have c6 : 0 ≤ (k : Int) * ud ∧ (k : Int) * ud ≤ 1000000000000000000 := by omega
    obtain ⟨c7, c8⟩ := c6
    clear p2 c5
    go_enter Tryd.func44, Tryd.ntmps44
    go_wp2_with fail
    rw [max_neg k]
    refine (HM.out _).mono ?_
    rintro e w' ⟨rfl, rfl⟩
    go_wp2_with fail
    refine (div64_zero _ _ _ c7 c8 c3 c4).mono ?_
    rintro e w1 ⟨⟨q, r, rfl, q1, q2, r1, r2, hqr⟩, hb1⟩
    have hw1 : Below w.heap.size w w1 := stepH (by (repeat' (first | with_reducible exact Below.refl _ _ | with_reducible assumption | with_reducible refine Below.drew ?_ | with_reducible refine below_drewN ?_ _ | with_reducible refine Below.setCell ?_ ?_ _ | with_reducible refine Below.alloc ?_ ?_ _ | omega | (simp; done) | (simp; omega)))) hb1
    have X := keepH hb1 (g := w.heap.size) (blk_old (blk_old (blk_new rfl)))
    have U := keepH hb1 (g := w.heap.size + 1) (blk_old (blk_new (by simp)))
    have R := keepH hb1 (g := w.heap.size + 1 + 1) (blk_new (by simp))
    have z1 := hw1.size
    clear hb1
    have cX := cellH X
    obtain ⟨lX, lX1, lX2⟩ := ltH X
    have cU := cellH U
    obtain ⟨lU, lU1, lU2⟩ := ltH U
    have cR := cellH R
    obtain ⟨lR, lR1, lR2⟩ := ltH R
    have fzR := frozH R
    have L := loc_neg (n := -(k : Int)) (m := -(k : Int) * ud) hn c3 r1 r2 hqr.out (Int.neg_mul ..)
    clear hqr
    by_cases hr : r = 0
    · subst hr
      simp only [if_true, decide_true] at L
      have LP := Lib.hid L
      clear L
      go_wp2_with fail
      refine bodyPost_ret (v := .agg #[.int .i64 (-q), .int .u64 (0), .int .u64 ((d : Int) * un), .bool true, .bool true]) (by simp [results, Tryd.results44, go_sem, cR, lR]) rfl ⟨(by with_reducible exact LP.out), by (repeat' (first | with_reducible exact Below.refl _ _ | with_reducible assumption | with_reducible refine Below.drew ?_ | with_reducible refine below_drewN ?_ _ | with_reducible refine Below.setCell ?_ ?_ _ | with_reducible refine Below.alloc ?_ ?_ _ | omega | (simp; done) | (simp; omega)))⟩
    · have hr' : (r == 0) = false := by simpa using hr
      simp only [if_neg hr, decide_eq_false hr] at L
      have LP := Lib.hid L
      clear L
      go_wp2_with fail
      refine bodyPost_ret (v := .agg #[.int .i64 (-q - 1), .int .u64 ((d : Int) * un - r), .int .u64 ((d : Int) * un), .bool true, .bool false]) (by simp [results, Tryd.results44, go_sem, cR, lR]) rfl ⟨(by with_reducible exact LP.out), by (repeat' (first | with_reducible exact Below.refl _ _ | with_reducible assumption | with_reducible refine Below.drew ?_ | with_reducible refine below_drewN ?_ _ | with_reducible refine Below.setCell ?_ ?_ _ | with_reducible refine Below.alloc ?_ ?_ _ | omega | (simp; done) | (simp; omega)))⟩
  · obtain ⟨k, rfl⟩ : ∃ k : Nat, n = (k : Int) := ⟨n.toNat, by omega⟩
    have p2 := prodN (show k ≤ 1000000000000 by omega) v2
    have c5 : (k : Int) * ud = ((k * ud : Nat) : Int) := by push_cast; rfl
    have HM := Lib.hid (mul64_small k ud (by omega) (by omega) (by omega))
    have c6 : 0 ≤ (k : Int) * ud ∧ (k : Int) * ud ≤ 1000000000000000000 := by omega
    obtain ⟨c7, c8⟩ := c6
    clear p2 c5
    go_enter Tryd.func44, Tryd.ntmps44
    go_wp2_with fail
    rw [max_pos k]
    refine (HM.out _).mono ?_
    rintro e w' ⟨rfl, rfl⟩
    go_wp2_with fail
    refine (div64_zero _ _ _ c7 c8 c3 c4).mono ?_
    rintro e w1 ⟨⟨q, r, rfl, q1, q2, r1, r2, hqr⟩, hb1⟩
    have hw1 : Below w.heap.size w w1 := stepH (by (repeat' (first | with_reducible exact Below.refl _ _ | with_reducible assumption | with_reducible refine Below.drew ?_ | with_reducible refine below_drewN ?_ _ | with_reducible refine Below.setCell ?_ ?_ _ | with_reducible refine Below.alloc ?_ ?_ _ | omega | (simp; done) | (simp; omega)))) hb1
    have X := keepH hb1 (g := w.heap.size) (blk_old (blk_old (blk_new rfl)))
    have U := keepH hb1 (g := w.heap.size + 1) (blk_old (blk_new (by simp)))
    have R := keepH hb1 (g := w.heap.size + 1 + 1) (blk_new (by simp))
    have z1 := hw1.size
    clear hb1
    have cX := cellH X
    obtain ⟨lX, lX1, lX2⟩ := ltH X
    have cU := cellH U
    obtain ⟨lU, lU1, lU2⟩ := ltH U
    have cR := cellH R
    obtain ⟨lR, lR1, lR2⟩ := ltH R
    have fzR := frozH R
    have L := loc_pos (n := (k : Int)) (by omega) c3 r1 r2 hqr.out
    clear hqr
    by_cases hr : r = 0
    · subst hr
      simp only [decide_true] at L
      have LP := Lib.hid L
      clear L
      go_wp2_with fail
      refine bodyPost_ret (v := .agg #[.int .i64 (q), .int .u64 (0), .int .u64 ((d : Int) * un), .bool false, .bool true]) (by simp [results, Tryd.results44, go_sem, cR, lR]) rfl ⟨(by with_reducible exact LP.out), by (repeat' (first | with_reducible exact Below.refl _ _ | with_reducible assumption | with_reducible refine Below.drew ?_ | with_reducible refine below_drewN ?_ _ | with_reducible refine Below.setCell ?_ ?_ _ | with_reducible refine Below.alloc ?_ ?_ _ | omega | (simp; done) | (simp; omega)))⟩
    · have hr' : (r == 0) = false := by simpa using hr
      simp only [decide_eq_false hr] at L
      have LP := Lib.hid L
      clear L
      go_wp2_with fail
      refine bodyPost_ret (v := .agg #[.int .i64 (q), .int .u64 (r), .int .u64 ((d : Int) * un), .bool false, .bool false]) (by simp [results, Tryd.results44, go_sem, cR, lR]) rfl ⟨(by with_reducible exact LP.out), by (repeat' (first | with_reducible exact Below.refl _ _ | with_reducible assumption | with_reducible refine Below.drew ?_ | with_reducible refine below_drewN ?_ _ | with_reducible refine Below.setCell ?_ ?_ _ | with_reducible refine Below.alloc ?_ ?_ _ | omega | (simp; done) | (simp; omega)))⟩
end Go.Proofs.YtcbglkkmblmbnaaDoor
