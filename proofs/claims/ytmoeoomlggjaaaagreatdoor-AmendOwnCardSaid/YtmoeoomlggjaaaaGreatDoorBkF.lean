/- Fractions: common, Valid; a rounding's Valid: walks. -/
import Derived.Test.YtmoeoomlggjaaaaGreatDoorBkC
import Derived.Deep.QuietTactic
import Derived.BigQuiet
import Derived.Deep.RegionHeld3
import Derived.WalkLawsBesides
namespace Go.Proofs.YtmoeoomlggjaaaaGreatDoor
open Go.RowKit

/-- the fractions that can be represented -/
def Good (q : Rat) : Prop := -1000000000000 ≤ q.num ∧ q.num ≤ 1000000000000 ∧ q.den ≤ 1000000
instance (q : Rat) : Decidable (Good q) := inferInstanceAs (Decidable (_ ∧ _ ∧ _))

/-- a fraction as Go holds it -/
def pv (n d : Int) : Value := .agg #[.int .i64 n, .int .i64 d]

def fv (q : Rat) : Value := pv q.num q.den

/-- what Valid tells -/
def validB (n d : Int) : Bool := decide (1 ≤ d ∧ d ≤ 1000000 ∧ -1000000000000 ≤ n ∧ n ≤ 1000000000000 ∧ Int.gcd n d = 1)

theorem validB_good (q : Rat) : validB q.num q.den = decide (Good q) := by
  have h1 := q.den_pos
  have h2 : Int.gcd q.num q.den = 1 := q.reduced
  unfold validB
  rw [decide_eq_decide]
  unfold Good
  constructor
  · rintro ⟨a, b, c, d, _⟩; exact ⟨c, d, by omega⟩
  · rintro ⟨a, b, c⟩; exact ⟨by omega, by omega, a, b, h2⟩

theorem good_of_validB {n d : Int} (h : validB n d = true) : ∃ q : Rat, Good q ∧ n = q.num ∧ d = q.den := by
  unfold validB at h
  simp only [decide_eq_true_eq] at h
  obtain ⟨a, b, c, e, f⟩ := h
  obtain ⟨m, rfl⟩ := Int.eq_ofNat_of_zero_le (show 0 ≤ d by omega)
  refine ⟨⟨n, m, by omega, f⟩, ⟨c, e, ?_⟩, rfl, rfl⟩
  show m ≤ 1000000
  omega

set_option maxRecDepth 10000 in
set_option maxHeartbeats 400000 in
theorem commonI_any (a b : Nat) (w : World) (ha : a ≤ 9223372036854775807) (hb : b ≤ 9223372036854775807) :
    Calls Tryz.prog 60 #[.int .i64 a, .int .i64 b] w fun e w' => e = .returned (.int .i64 (Nat.gcd a b : Nat)) ∧ Below w.heap.size w w' := by
  go_enter Tryz.func60, Tryz.ntmps60
  go_wp2
  go_loopw [0, 1] (fun p q wr => ∃ x y : Nat, p = .int .i64 x ∧ q = .int .i64 y ∧ x ≤ 9223372036854775807 ∧ y ≤ 9223372036854775807 ∧ Hid (Nat.gcd x y = Nat.gcd a b) ∧ Below w.heap.size w wr) (fun _ q _ => (intOf q).toNat)
  case atStart => exact ⟨a, b, rfl, rfl, ha, hb, rfl, Below.refl _ _⟩
  case round =>
    obtain ⟨x, y, rfl, rfl, hx, hy, hg, hbw⟩ := hrel
    by_cases h0 : y = 0
    · subst h0
      go_wp2
      go_ret
      exact ⟨by rw [← hg.out]; simp, hbw⟩
    · go_wp2
      go_quiet (fail)
      go_wp2
      go_roundw
      case rel => exact ⟨y, x % y, rfl, by go_num, by omega, by have := Nat.mod_le x y; omega, (gcd_step x y).trans hg.out, below_drewN hbw _⟩
      case measure => have := Nat.mod_lt x (show 0 < y by omega); simp [intOf]; omega

set_option maxRecDepth 10000 in
set_option maxHeartbeats 1000000 in
theorem fracValid_any (n d : Int) (w : World) (n1 : -9223372036854775808 ≤ n) (n2 : n ≤ 9223372036854775807) (d1 : -9223372036854775808 ≤ d) (d2 : d ≤ 9223372036854775807) :
    Calls Tryz.prog 34 #[pv n d] w fun e w' => e = .returned (.bool (validB n d)) ∧ Below w.heap.size w w' := by
  unfold pv
  by_cases h1 : d < 1
  · go_enter Tryz.func34, Tryz.ntmps34
    go_wp2
    go_ret
    exact ⟨ret_bool (by unfold validB; simp; omega), (Below.refl _ _).alloc (Nat.le_refl _) _⟩
  by_cases h2 : 1000000 < d
  · go_enter Tryz.func34, Tryz.ntmps34
    go_wp2
    go_ret
    exact ⟨ret_bool (by unfold validB; simp; omega), (Below.refl _ _).alloc (Nat.le_refl _) _⟩
  by_cases h4 : 1000000000000 < n
  · go_enter Tryz.func34, Tryz.ntmps34
    go_wp2
    go_ret
    exact ⟨ret_bool (by unfold validB; simp; omega), (Below.refl _ _).alloc (Nat.le_refl _) _⟩
  by_cases h3 : n < -1000000000000
  · go_enter Tryz.func34, Tryz.ntmps34
    go_wp2
    go_ret
    exact ⟨ret_bool (by unfold validB; simp; omega), (Below.refl _ _).alloc (Nat.le_refl _) _⟩
  obtain ⟨m, rfl⟩ := Int.eq_ofNat_of_zero_le (show 0 ≤ d by omega)
  have hfin : validB n m = (((Nat.gcd n.natAbs m : Nat) : Int) == 1) := by
    unfold validB
    have e : Int.gcd n (m : Int) = Nat.gcd n.natAbs m := rfl
    rw [e, Bool.eq_iff_iff, decide_eq_true_eq, beq_iff_eq]
    omega
  have Hfin := Lib.hid hfin
  clear hfin
  have HC := Lib.hid commonI_any
  by_cases h5 : 0 ≤ n
  · obtain ⟨k, rfl⟩ := Int.eq_ofNat_of_zero_le h5
    go_enter Tryz.func34, Tryz.ntmps34
    go_wp2_with fail
    first | rw [show max (k : Int) (-(k : Int)) = (k : Int) by omega] | rw [show max (-(k : Int)) (k : Int) = (k : Int) by omega] | rw [show max (-(k : Int)) (- -(k : Int)) = (k : Int) by omega]
    refine (HC.out k m _ (by omega) (by omega)).mono ?_
    rintro e w1 ⟨rfl, hb⟩
    have hw1 : Below w.heap.size w w1 := stepH (by (repeat' (first | with_reducible exact Below.refl _ _ | with_reducible assumption | with_reducible refine Below.drew ?_ | with_reducible refine below_drewN ?_ _ | with_reducible refine Below.setCell ?_ ?_ _ | with_reducible refine Below.alloc ?_ ?_ _ | omega | (simp; done) | (simp; omega)))) hb
    go_wp2_with fail
    go_ret
    exact ⟨ret_bool Hfin.out.symm, hw1⟩
  · obtain ⟨k, rfl⟩ : ∃ k : Nat, n = -(k : Int) := ⟨(-n).toNat, by omega⟩
    go_enter Tryz.func34, Tryz.ntmps34
    go_wp2_with fail
    first | rw [show max (k : Int) (-(k : Int)) = (k : Int) by omega] | rw [show max (-(k : Int)) (k : Int) = (k : Int) by omega] | rw [show max (-(k : Int)) (- -(k : Int)) = (k : Int) by omega]
    refine (HC.out k m _ (by omega) (by omega)).mono ?_
    rintro e w1 ⟨rfl, hb⟩
    have hw1 : Below w.heap.size w w1 := stepH (by (repeat' (first | with_reducible exact Below.refl _ _ | with_reducible assumption | with_reducible refine Below.drew ?_ | with_reducible refine below_drewN ?_ _ | with_reducible refine Below.setCell ?_ ?_ _ | with_reducible refine Below.alloc ?_ ?_ _ | omega | (simp; done) | (simp; omega)))) hb
    go_wp2_with fail
    go_ret
    exact ⟨ret_bool (Hfin.out.trans (by simp)).symm, hw1⟩

theorem valid_is (n d : Int) (b : Bool) (w : World) (h : validB n d = b) (n1 : -9223372036854775808 ≤ n) (n2 : n ≤ 9223372036854775807) (d1 : -9223372036854775808 ≤ d) (d2 : d ≤ 9223372036854775807) :
    Calls Tryz.prog 34 #[.agg #[.int .i64 n, .int .i64 d]] w fun e w' => e = .returned (.bool b) ∧ Below w.heap.size w w' := by
  subst h; exact fracValid_any n d w n1 n2 d1 d2

theorem num_le {q : Rat} (h : Good q) : -1000000000000 ≤ q.num ∧ q.num ≤ 1000000000000 ∧ 1 ≤ (q.den : Int) ∧ (q.den : Int) ≤ 1000000 := by
  obtain ⟨a, b, c⟩ := h
  have := q.den_pos
  exact ⟨a, b, by omega, by omega⟩

theorem prod_le {n d : Int} (h1 : -1000000000000 ≤ n) (h2 : n ≤ 1000000000000) (h3 : 1 ≤ d) (h4 : d ≤ 1000000) : -1000000000000000000 ≤ n * d ∧ n * d ≤ 1000000000000000000 := by
  constructor
  · have : -1000000000000 * d ≤ n * d := Int.mul_le_mul_of_nonneg_right h1 (by omega)
    omega
  · have : n * d ≤ 1000000000000 * d := Int.mul_le_mul_of_nonneg_right h2 (by omega)
    omega

/-- which one is greater -/
def cmpQ (p q : Rat) : Int := if p < q then -1 else if q < p then 1 else 0

/-- what Valid tells of a rounding -/
def rdB (mode n d : Int) : Bool := if mode = 0 then n == 0 && d == 0 else decide (0 < mode) && decide (mode ≤ 6) && validB n d && decide (0 < n)

end Go.Proofs.YtmoeoomlggjaaaaGreatDoor
