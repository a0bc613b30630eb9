/- The walks of frac's calls: Add, Sub, Mul, Div of anything; Cmp, Floor, Ceil, and the document's own. -/
import Derived.Test.YtmankldedhgdiaaDoorFracE
namespace Go.Proofs.YtmankldedhgdiaaDoor
open Go.RowKit

/-- what one of the four answers, whatever it is given -/
def opI (f : Rat → Rat → Except Nat Rat) (n1 d1 n2 d2 : Int) : Except Nat Rat :=
  if (validB n1 d1 && validB n2 d2) = true then f (Rat.divInt n1 d1) (Rat.divInt n2 d2) else .error 3
theorem opI_good (f : Rat → Rat → Except Nat Rat) {p q : Rat} (hp : Good p) (hq : Good q) : opI f p.num p.den q.num q.den = f p q := by
  unfold opI
  rw [validB_good, validB_good, decide_eq_true hp, decide_eq_true hq, Rat.num_divInt_den, Rat.num_divInt_den]; rfl
theorem opI_bad (f : Rat → Rat → Except Nat Rat) {n1 d1 n2 d2 : Int} (h : (validB n1 d1 && validB n2 d2) = false) : opI f n1 d1 n2 d2 = .error 3 := by
  unfold opI; rw [h]; rfl
def addR (p q : Rat) := goodR (p + q)
def subR (p q : Rat) := goodR (p - q)
def mulR (p q : Rat) := goodR (p * q)

set_option maxHeartbeats 1000000 in
theorem add_any (n1 d1 n2 d2 : Int) (E : Nat → Addr) (w : World)
    (b1 : -9223372036854775808 ≤ n1) (b2 : n1 ≤ 9223372036854775807) (b3 : -9223372036854775808 ≤ d1) (b4 : d1 ≤ 9223372036854775807)
    (b5 : -9223372036854775808 ≤ n2) (b6 : n2 ≤ 9223372036854775807) (b7 : -9223372036854775808 ≤ d2) (b8 : d2 ≤ 9223372036854775807) (hE : Env LF E w) :
    Calls Tryd.prog 29 #[.agg #[.int .i64 n1, .int .i64 d1], .agg #[.int .i64 n2, .int .i64 d2]] w fun e w' =>
      (∃ n d err, e = .returned (.tuple #[.agg #[.int .i64 n, .int .i64 d], err]) ∧ ResF E (opI addR n1 d1 n2 d2) n d err) ∧ Below w.heap.size w w' := by
  have C : ∀ w, Env LF E w → Calls Tryd.prog 51 #[.int .u8 43, .agg #[.int .i64 n1, .int .i64 d1], .agg #[.int .i64 n2, .int .i64 d2]] w fun e w' =>
      (∃ n d err, e = .returned (.tuple #[.agg #[.int .i64 n, .int .i64 d], err]) ∧ ResF E (opI addR n1 d1 n2 d2) n d err) ∧ Below w.heap.size w w' := by
    intro w hE
    by_cases h : (validB n1 d1 && validB n2 d2) = true
    · obtain ⟨h1, h2⟩ := (Bool.and_eq_true _ _).mp h
      obtain ⟨p, hp, rfl, rfl⟩ := good_of_validB h1
      obtain ⟨q, hq, rfl, rfl⟩ := good_of_validB h2
      rw [opI_good _ hp hq]
      exact both_add p q E w hp hq hE
    · have h' : (validB n1 d1 && validB n2 d2) = false := by simpa using h
      rw [opI_bad _ h']
      exact both_bad _ n1 d1 n2 d2 E w h' b1 b2 b3 b4 b5 b6 b7 b8 hE
  have HC := Lib.hid C
  clear C
  go_enter Tryd.func29, Tryd.ntmps29
  go_wp2_with fail
  refine (HC.out _ (hE.below (by (repeat' (first | with_reducible exact Below.refl _ _ | with_reducible assumption | with_reducible refine Below.drew ?_ | with_reducible refine below_drewN ?_ _ | with_reducible refine Below.setCell ?_ ?_ _ | with_reducible refine Below.alloc ?_ ?_ _ | omega | (simp; done) | (simp; omega)))))).mono ?_
  rintro e w1 ⟨⟨n, d, err, rfl, hr⟩, hb⟩
  obtain ⟨k0, k1, k2⟩ := keepB hb (g := w.heap.size + 1 + 1) (blk_new (by simp))
  have hbw : Below w.heap.size w w1 := Below.trans (by (repeat' (first | with_reducible exact Below.refl _ _ | with_reducible assumption | with_reducible refine Below.drew ?_ | with_reducible refine below_drewN ?_ _ | with_reducible refine Below.setCell ?_ ?_ _ | with_reducible refine Below.alloc ?_ ?_ _ | omega | (simp; done) | (simp; omega)))) (hb.mono (by first | omega | (simp; done) | (simp; omega)))
  go_wp2_with fail
  refine bodyPost_ret (v := .tuple #[.agg #[.int .i64 n, .int .i64 d], err]) (by simp [results, Tryd.results29, go_sem, k0]) rfl ⟨⟨_, _, _, rfl, hr⟩, by (repeat' (first | with_reducible exact Below.refl _ _ | with_reducible assumption | with_reducible refine Below.drew ?_ | with_reducible refine below_drewN ?_ _ | with_reducible refine Below.setCell ?_ ?_ _ | with_reducible refine Below.alloc ?_ ?_ _ | omega | (simp; done) | (simp; omega)))⟩

set_option maxHeartbeats 1000000 in
theorem sub_any (n1 d1 n2 d2 : Int) (E : Nat → Addr) (w : World)
    (b1 : -9223372036854775808 ≤ n1) (b2 : n1 ≤ 9223372036854775807) (b3 : -9223372036854775808 ≤ d1) (b4 : d1 ≤ 9223372036854775807)
    (b5 : -9223372036854775808 ≤ n2) (b6 : n2 ≤ 9223372036854775807) (b7 : -9223372036854775808 ≤ d2) (b8 : d2 ≤ 9223372036854775807) (hE : Env LF E w) :
    Calls Tryd.prog 54 #[.agg #[.int .i64 n1, .int .i64 d1], .agg #[.int .i64 n2, .int .i64 d2]] w fun e w' =>
      (∃ n d err, e = .returned (.tuple #[.agg #[.int .i64 n, .int .i64 d], err]) ∧ ResF E (opI subR n1 d1 n2 d2) n d err) ∧ Below w.heap.size w w' := by
  have C : ∀ w, Env LF E w → Calls Tryd.prog 51 #[.int .u8 45, .agg #[.int .i64 n1, .int .i64 d1], .agg #[.int .i64 n2, .int .i64 d2]] w fun e w' =>
      (∃ n d err, e = .returned (.tuple #[.agg #[.int .i64 n, .int .i64 d], err]) ∧ ResF E (opI subR n1 d1 n2 d2) n d err) ∧ Below w.heap.size w w' := by
    intro w hE
    by_cases h : (validB n1 d1 && validB n2 d2) = true
    · obtain ⟨h1, h2⟩ := (Bool.and_eq_true _ _).mp h
      obtain ⟨p, hp, rfl, rfl⟩ := good_of_validB h1
      obtain ⟨q, hq, rfl, rfl⟩ := good_of_validB h2
      rw [opI_good _ hp hq]
      exact both_sub p q E w hp hq hE
    · have h' : (validB n1 d1 && validB n2 d2) = false := by simpa using h
      rw [opI_bad _ h']
      exact both_bad _ n1 d1 n2 d2 E w h' b1 b2 b3 b4 b5 b6 b7 b8 hE
  have HC := Lib.hid C
  clear C
  go_enter Tryd.func54, Tryd.ntmps54
  go_wp2_with fail
  refine (HC.out _ (hE.below (by (repeat' (first | with_reducible exact Below.refl _ _ | with_reducible assumption | with_reducible refine Below.drew ?_ | with_reducible refine below_drewN ?_ _ | with_reducible refine Below.setCell ?_ ?_ _ | with_reducible refine Below.alloc ?_ ?_ _ | omega | (simp; done) | (simp; omega)))))).mono ?_
  rintro e w1 ⟨⟨n, d, err, rfl, hr⟩, hb⟩
  obtain ⟨k0, k1, k2⟩ := keepB hb (g := w.heap.size + 1 + 1) (blk_new (by simp))
  have hbw : Below w.heap.size w w1 := Below.trans (by (repeat' (first | with_reducible exact Below.refl _ _ | with_reducible assumption | with_reducible refine Below.drew ?_ | with_reducible refine below_drewN ?_ _ | with_reducible refine Below.setCell ?_ ?_ _ | with_reducible refine Below.alloc ?_ ?_ _ | omega | (simp; done) | (simp; omega)))) (hb.mono (by first | omega | (simp; done) | (simp; omega)))
  go_wp2_with fail
  refine bodyPost_ret (v := .tuple #[.agg #[.int .i64 n, .int .i64 d], err]) (by simp [results, Tryd.results54, go_sem, k0]) rfl ⟨⟨_, _, _, rfl, hr⟩, by (repeat' (first | with_reducible exact Below.refl _ _ | with_reducible assumption | with_reducible refine Below.drew ?_ | with_reducible refine below_drewN ?_ _ | with_reducible refine Below.setCell ?_ ?_ _ | with_reducible refine Below.alloc ?_ ?_ _ | omega | (simp; done) | (simp; omega)))⟩

set_option maxHeartbeats 1000000 in
theorem mul_any (n1 d1 n2 d2 : Int) (E : Nat → Addr) (w : World)
    (b1 : -9223372036854775808 ≤ n1) (b2 : n1 ≤ 9223372036854775807) (b3 : -9223372036854775808 ≤ d1) (b4 : d1 ≤ 9223372036854775807)
    (b5 : -9223372036854775808 ≤ n2) (b6 : n2 ≤ 9223372036854775807) (b7 : -9223372036854775808 ≤ d2) (b8 : d2 ≤ 9223372036854775807) (hE : Env LF E w) :
    Calls Tryd.prog 32 #[.agg #[.int .i64 n1, .int .i64 d1], .agg #[.int .i64 n2, .int .i64 d2]] w fun e w' =>
      (∃ n d err, e = .returned (.tuple #[.agg #[.int .i64 n, .int .i64 d], err]) ∧ ResF E (opI mulR n1 d1 n2 d2) n d err) ∧ Below w.heap.size w w' := by
  have C : ∀ w, Env LF E w → Calls Tryd.prog 51 #[.int .u8 42, .agg #[.int .i64 n1, .int .i64 d1], .agg #[.int .i64 n2, .int .i64 d2]] w fun e w' =>
      (∃ n d err, e = .returned (.tuple #[.agg #[.int .i64 n, .int .i64 d], err]) ∧ ResF E (opI mulR n1 d1 n2 d2) n d err) ∧ Below w.heap.size w w' := by
    intro w hE
    by_cases h : (validB n1 d1 && validB n2 d2) = true
    · obtain ⟨h1, h2⟩ := (Bool.and_eq_true _ _).mp h
      obtain ⟨p, hp, rfl, rfl⟩ := good_of_validB h1
      obtain ⟨q, hq, rfl, rfl⟩ := good_of_validB h2
      rw [opI_good _ hp hq]
      exact both_mul p q E w hp hq hE
    · have h' : (validB n1 d1 && validB n2 d2) = false := by simpa using h
      rw [opI_bad _ h']
      exact both_bad _ n1 d1 n2 d2 E w h' b1 b2 b3 b4 b5 b6 b7 b8 hE
  have HC := Lib.hid C
  clear C
  go_enter Tryd.func32, Tryd.ntmps32
  go_wp2_with fail
  refine (HC.out _ (hE.below (by (repeat' (first | with_reducible exact Below.refl _ _ | with_reducible assumption | with_reducible refine Below.drew ?_ | with_reducible refine below_drewN ?_ _ | with_reducible refine Below.setCell ?_ ?_ _ | with_reducible refine Below.alloc ?_ ?_ _ | omega | (simp; done) | (simp; omega)))))).mono ?_
  rintro e w1 ⟨⟨n, d, err, rfl, hr⟩, hb⟩
  obtain ⟨k0, k1, k2⟩ := keepB hb (g := w.heap.size + 1 + 1) (blk_new (by simp))
  have hbw : Below w.heap.size w w1 := Below.trans (by (repeat' (first | with_reducible exact Below.refl _ _ | with_reducible assumption | with_reducible refine Below.drew ?_ | with_reducible refine below_drewN ?_ _ | with_reducible refine Below.setCell ?_ ?_ _ | with_reducible refine Below.alloc ?_ ?_ _ | omega | (simp; done) | (simp; omega)))) (hb.mono (by first | omega | (simp; done) | (simp; omega)))
  go_wp2_with fail
  refine bodyPost_ret (v := .tuple #[.agg #[.int .i64 n, .int .i64 d], err]) (by simp [results, Tryd.results32, go_sem, k0]) rfl ⟨⟨_, _, _, rfl, hr⟩, by (repeat' (first | with_reducible exact Below.refl _ _ | with_reducible assumption | with_reducible refine Below.drew ?_ | with_reducible refine below_drewN ?_ _ | with_reducible refine Below.setCell ?_ ?_ _ | with_reducible refine Below.alloc ?_ ?_ _ | omega | (simp; done) | (simp; omega)))⟩

set_option maxHeartbeats 1000000 in
theorem div_any (n1 d1 n2 d2 : Int) (E : Nat → Addr) (w : World)
    (b1 : -9223372036854775808 ≤ n1) (b2 : n1 ≤ 9223372036854775807) (b3 : -9223372036854775808 ≤ d1) (b4 : d1 ≤ 9223372036854775807)
    (b5 : -9223372036854775808 ≤ n2) (b6 : n2 ≤ 9223372036854775807) (b7 : -9223372036854775808 ≤ d2) (b8 : d2 ≤ 9223372036854775807) (hE : Env LF E w) :
    Calls Tryd.prog 60 #[.agg #[.int .i64 n1, .int .i64 d1], .agg #[.int .i64 n2, .int .i64 d2]] w fun e w' =>
      (∃ n d err, e = .returned (.tuple #[.agg #[.int .i64 n, .int .i64 d], err]) ∧ ResF E (opI divR n1 d1 n2 d2) n d err) ∧ Below w.heap.size w w' := by
  have C : ∀ w, Env LF E w → Calls Tryd.prog 51 #[.int .u8 47, .agg #[.int .i64 n1, .int .i64 d1], .agg #[.int .i64 n2, .int .i64 d2]] w fun e w' =>
      (∃ n d err, e = .returned (.tuple #[.agg #[.int .i64 n, .int .i64 d], err]) ∧ ResF E (opI divR n1 d1 n2 d2) n d err) ∧ Below w.heap.size w w' := by
    intro w hE
    by_cases h : (validB n1 d1 && validB n2 d2) = true
    · obtain ⟨h1, h2⟩ := (Bool.and_eq_true _ _).mp h
      obtain ⟨p, hp, rfl, rfl⟩ := good_of_validB h1
      obtain ⟨q, hq, rfl, rfl⟩ := good_of_validB h2
      rw [opI_good _ hp hq]
      exact both_div p q E w hp hq hE
    · have h' : (validB n1 d1 && validB n2 d2) = false := by simpa using h
      rw [opI_bad _ h']
      exact both_bad _ n1 d1 n2 d2 E w h' b1 b2 b3 b4 b5 b6 b7 b8 hE
  have HC := Lib.hid C
  clear C
  go_enter Tryd.func60, Tryd.ntmps60
  go_wp2_with fail
  refine (HC.out _ (hE.below (by (repeat' (first | with_reducible exact Below.refl _ _ | with_reducible assumption | with_reducible refine Below.drew ?_ | with_reducible refine below_drewN ?_ _ | with_reducible refine Below.setCell ?_ ?_ _ | with_reducible refine Below.alloc ?_ ?_ _ | omega | (simp; done) | (simp; omega)))))).mono ?_
  rintro e w1 ⟨⟨n, d, err, rfl, hr⟩, hb⟩
  obtain ⟨k0, k1, k2⟩ := keepB hb (g := w.heap.size + 1 + 1) (blk_new (by simp))
  have hbw : Below w.heap.size w w1 := Below.trans (by (repeat' (first | with_reducible exact Below.refl _ _ | with_reducible assumption | with_reducible refine Below.drew ?_ | with_reducible refine below_drewN ?_ _ | with_reducible refine Below.setCell ?_ ?_ _ | with_reducible refine Below.alloc ?_ ?_ _ | omega | (simp; done) | (simp; omega)))) (hb.mono (by first | omega | (simp; done) | (simp; omega)))
  go_wp2_with fail
  refine bodyPost_ret (v := .tuple #[.agg #[.int .i64 n, .int .i64 d], err]) (by simp [results, Tryd.results60, go_sem, k0]) rfl ⟨⟨_, _, _, rfl, hr⟩, by (repeat' (first | with_reducible exact Below.refl _ _ | with_reducible assumption | with_reducible refine Below.drew ?_ | with_reducible refine below_drewN ?_ _ | with_reducible refine Below.setCell ?_ ?_ _ | with_reducible refine Below.alloc ?_ ?_ _ | omega | (simp; done) | (simp; omega)))⟩

theorem same_any (n1 d1 n2 d2 : Int) (w : World) :
    Calls Tryd.prog 23 #[.agg #[.int .i64 n1, .int .i64 d1], .agg #[.int .i64 n2, .int .i64 d2]] w fun e w' => e = .returned (.bool (n1 == n2 && d1 == d2)) ∧ Below w.heap.size w w' := by
  by_cases h : n1 = n2
  · subst h
    go_enter Tryd.func23, Tryd.ntmps23
    go_wp2
    go_ret
    exact ⟨ret_bool (by simp), by (repeat' (first | with_reducible exact Below.refl _ _ | with_reducible assumption | with_reducible refine Below.drew ?_ | with_reducible refine below_drewN ?_ _ | with_reducible refine Below.setCell ?_ ?_ _ | with_reducible refine Below.alloc ?_ ?_ _ | omega | (simp; done) | (simp; omega)))⟩
  · have h' : (n1 == n2) = false := by simpa using h
    go_enter Tryd.func23, Tryd.ntmps23
    go_wp2
    go_ret
    exact ⟨ret_bool (by simp [h]), by (repeat' (first | with_reducible exact Below.refl _ _ | with_reducible assumption | with_reducible refine Below.drew ?_ | with_reducible refine below_drewN ?_ _ | with_reducible refine Below.setCell ?_ ?_ _ | with_reducible refine Below.alloc ?_ ?_ _ | omega | (simp; done) | (simp; omega)))⟩

/-- which one is greater -/
def cmpQ (p q : Rat) : Int := if p < q then -1 else if q < p then 1 else 0

set_option maxHeartbeats 1000000 in
theorem cmp_any (p q : Rat) (w : World) (hp : Good p) (hq : Good q) :
    Calls Tryd.prog 43 #[.agg #[.int .i64 p.num, .int .i64 p.den], .agg #[.int .i64 q.num, .int .i64 q.den]] w fun e w' => e = .returned (.int .i64 (cmpQ p q)) ∧ Below w.heap.size w w' := by
  obtain ⟨a1, a2, a3, a4⟩ := num_le hp
  obtain ⟨b1, b2, b3, b4⟩ := num_le hq
  have c1 := prod_le a1 a2 b3 b4
  have c2 := prod_le b1 b2 a3 a4
  have hfin : cmpQ p q = if p.num * q.den < q.num * p.den then -1 else if q.num * p.den < p.num * q.den then 1 else 0 := by
    unfold cmpQ; simp only [Rat.lt_iff]
  have HF := Lib.hid hfin
  clear hfin
  go_enter Tryd.func43, Tryd.ntmps43
  go_wp2
  go_quiet (fail)
  go_wp2
  · go_ret
    exact ⟨ret_int (by rw [HF.out, if_pos (by assumption)]), by (repeat' (first | with_reducible exact Below.refl _ _ | with_reducible assumption | with_reducible refine Below.drew ?_ | with_reducible refine below_drewN ?_ _ | with_reducible refine Below.setCell ?_ ?_ _ | with_reducible refine Below.alloc ?_ ?_ _ | omega | (simp; done) | (simp; omega)))⟩
  · go_ret
    exact ⟨ret_int (by rw [HF.out, if_neg (by omega), if_pos (by assumption)]), by (repeat' (first | with_reducible exact Below.refl _ _ | with_reducible assumption | with_reducible refine Below.drew ?_ | with_reducible refine below_drewN ?_ _ | with_reducible refine Below.setCell ?_ ?_ _ | with_reducible refine Below.alloc ?_ ?_ _ | omega | (simp; done) | (simp; omega)))⟩
  · go_ret
    exact ⟨ret_int (by rw [HF.out, if_neg (by omega), if_neg (by omega)]), by (repeat' (first | with_reducible exact Below.refl _ _ | with_reducible assumption | with_reducible refine Below.drew ?_ | with_reducible refine below_drewN ?_ _ | with_reducible refine Below.setCell ?_ ?_ _ | with_reducible refine Below.alloc ?_ ?_ _ | omega | (simp; done) | (simp; omega)))⟩

set_option maxHeartbeats 1000000 in
theorem refCmp_any (p q : Rat) (w : World) (hp : Good p) (hq : Good q) :
    Calls Tryd.prog 25 #[.agg #[.int .i64 p.num, .int .i64 p.den], .agg #[.int .i64 q.num, .int .i64 q.den]] w fun e w' => e = .returned (.int .i64 (cmpQ p q)) ∧ Below w.heap.size w w' := by
  obtain ⟨a1, a2, a3, a4⟩ := num_le hp
  obtain ⟨b1, b2, b3, b4⟩ := num_le hq
  have c1 := prod_le a1 a2 b3 b4
  have c2 := prod_le b1 b2 a3 a4
  have hfin : cmpQ p q = if p.num * q.den < q.num * p.den then -1 else if q.num * p.den < p.num * q.den then 1 else 0 := by
    unfold cmpQ; simp only [Rat.lt_iff]
  have HF := Lib.hid hfin
  clear hfin
  go_enter Tryd.func25, Tryd.ntmps25
  go_wp2
  · go_ret
    exact ⟨ret_int (by rw [HF.out, if_pos (by assumption)]), by (repeat' (first | with_reducible exact Below.refl _ _ | with_reducible assumption | with_reducible refine Below.drew ?_ | with_reducible refine below_drewN ?_ _ | with_reducible refine Below.setCell ?_ ?_ _ | with_reducible refine Below.alloc ?_ ?_ _ | omega | (simp; done) | (simp; omega)))⟩
  · go_ret
    exact ⟨ret_int (by rw [HF.out, if_neg (by omega), if_pos (by assumption)]), by (repeat' (first | with_reducible exact Below.refl _ _ | with_reducible assumption | with_reducible refine Below.drew ?_ | with_reducible refine below_drewN ?_ _ | with_reducible refine Below.setCell ?_ ?_ _ | with_reducible refine Below.alloc ?_ ?_ _ | omega | (simp; done) | (simp; omega)))⟩
  · go_ret
    exact ⟨ret_int (by rw [HF.out, if_neg (by omega), if_neg (by omega)]), by (repeat' (first | with_reducible exact Below.refl _ _ | with_reducible assumption | with_reducible refine Below.drew ?_ | with_reducible refine below_drewN ?_ _ | with_reducible refine Below.setCell ?_ ?_ _ | with_reducible refine Below.alloc ?_ ?_ _ | omega | (simp; done) | (simp; omega)))⟩

theorem refNeg_good (n d : Int) (w : World) (h1 : -9223372036854775807 ≤ n) (h2 : n ≤ 9223372036854775807) :
    Calls Tryd.prog 67 #[.agg #[.int .i64 n, .int .i64 d]] w fun e w' => e = .returned (.agg #[.int .i64 (-n), .int .i64 d]) ∧ Below w.heap.size w w' := by
  go_enter Tryd.func67, Tryd.ntmps67
  go_wp2
  refine bodyPost_ret (v := .agg #[.int .i64 (-n), .int .i64 d]) (by simp [results, Tryd.results67, go_sem]) rfl ⟨rfl, by (repeat' (first | with_reducible exact Below.refl _ _ | with_reducible assumption | with_reducible refine Below.drew ?_ | with_reducible refine below_drewN ?_ _ | with_reducible refine Below.setCell ?_ ?_ _ | with_reducible refine Below.alloc ?_ ?_ _ | omega | (simp; done) | (simp; omega)))⟩

theorem floor_up (m d : Int) (hd : 1 ≤ d) : -((m + d - 1) / d) = (-m) / d := by
  have e1 := Int.mul_ediv_add_emod (m + d - 1) d
  have r1 := Int.emod_nonneg (m + d - 1) (show d ≠ 0 by omega)
  have r2 := Int.emod_lt_of_pos (m + d - 1) (show 0 < d by omega)
  have e2 := Int.mul_ediv_add_emod (-m) d
  have r3 := Int.emod_nonneg (-m) (show d ≠ 0 by omega)
  have r4 := Int.emod_lt_of_pos (-m) (show 0 < d by omega)
  generalize (m + d - 1) / d = x at *
  generalize (-m) / d = y at *
  -- d * x + r = m + d - 1, d * y + s = -m
  have h : d * (x + y) = d - 1 - (m + d - 1) % d - (-m) % d := by rw [Int.mul_add]; omega
  have h1 : d * (x + y) < d * 1 := by omega
  have h2 : d * (-1) < d * (x + y) := by omega
  have h3 := Int.lt_of_mul_lt_mul_left h1 (by omega)
  have h4 := Int.lt_of_mul_lt_mul_left h2 (by omega)
  omega

theorem quot_le {m d : Int} (hm : 0 ≤ m) (hd : 1 ≤ d) : 0 ≤ m / d ∧ m / d ≤ m :=
  ⟨Int.ediv_nonneg hm (by omega), Int.ediv_le_self _ hm⟩

theorem tdiv_floor (n d : Int) (hn : n < 0) (hd : 1 ≤ d) : (n.tmod d ≠ 0 → n.tdiv d - 1 = n / d) ∧ (n.tmod d = 0 → n.tdiv d = n / d) ∧ n ≤ n.tdiv d ∧ n.tdiv d ≤ 0 := by
  obtain ⟨k, rfl⟩ : ∃ k : Int, n = -k := ⟨-n, by omega⟩
  have t1 : (-k).tdiv d = -(k / d) := by rw [Int.neg_tdiv, Int.tdiv_eq_ediv_of_nonneg (by omega)]
  have t2 : (-k).tmod d = -(k % d) := by rw [Int.neg_tmod, Int.tmod_eq_emod_of_nonneg (by omega)]
  rw [t1, t2]
  have e1 := Int.mul_ediv_add_emod k d
  have r1 := Int.emod_nonneg k (show d ≠ 0 by omega)
  have r2 := Int.emod_lt_of_pos k (show 0 < d by omega)
  have e2 := Int.mul_ediv_add_emod (-k) d
  have r3 := Int.emod_nonneg (-k) (show d ≠ 0 by omega)
  have r4 := Int.emod_lt_of_pos (-k) (show 0 < d by omega)
  have q := quot_le (m := k) (d := d) (by omega) hd
  generalize k / d = x at *
  generalize (-k) / d = y at *
  have h : d * (x + y) = -(k % d) - (-k) % d := by rw [Int.mul_add]; omega
  have h1 : d * (x + y) < d * 1 := by omega
  have h2 : d * (-2) < d * (x + y) := by omega
  have h3 := Int.lt_of_mul_lt_mul_left h1 (by omega)
  have h4 := Int.lt_of_mul_lt_mul_left h2 (by omega)
  have h5 : x + y = 0 ∨ x + y = -1 := by omega
  refine ⟨fun hr => ?_, fun hr => ?_, by omega, by omega⟩
  · rcases h5 with h5 | h5
    · rw [h5, Int.mul_zero] at h; omega
    · omega
  · rcases h5 with h5 | h5
    · omega
    · rw [h5] at h; omega

end Go.Proofs.YtmankldedhgdiaaDoor
