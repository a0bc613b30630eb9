/- The walks of round: gcd, the division of two words, where an amount lies, whether a rounding may be. -/
import Derived.Test.YtcbglkkmblmbnaaDoorFracF
import Derived.Test.YtcbglkkmblmbnaaDoorFracG
namespace Go.Proofs.YtcbglkkmblmbnaaDoor
open Go.RowKit

/-- the sentinels of rounding -/
def LA : List Nat := [1, 5, 2, 4]

set_option maxHeartbeats 400000 in
theorem rgcd_any (a b : Nat) (w : World) (ha : a ≤ 9223372036854775807) (hb : b ≤ 9223372036854775807) :
    Calls Tryd.prog 67 #[.int .i64 a, .int .i64 b] w fun e w' => e = .returned (.int .i64 (Nat.gcd a b : Nat)) ∧ Below w.heap.size w w' := by
  go_enter Tryd.func67, Tryd.ntmps67
  go_wp2
  go_loopw [0, 1] (fun p q wr => ∃ x y : Nat, p = .int .i64 x ∧ q = .int .i64 y ∧ x ≤ 9223372036854775807 ∧ y ≤ 9223372036854775807 ∧ Hid (Nat.gcd x y = Nat.gcd a b) ∧ Below w.heap.size w wr) (fun _ q _ => (intOf q).toNat)
  case atStart => exact ⟨a, b, rfl, rfl, ha, hb, rfl, Below.refl _ _⟩
  case round =>
    obtain ⟨x, y, rfl, rfl, hx, hy, hg, hbw⟩ := hrel
    by_cases h0 : y = 0
    · subst h0
      go_wp2
      go_ret
      exact ⟨by rw [← hg.out]; simp, hbw⟩
    · go_wp2
      go_quiet (fail)
      go_wp2
      go_roundw
      case rel => exact ⟨y, x % y, rfl, by go_num, by omega, by have := Nat.mod_le x y; omega, (gcd_step x y).trans hg.out, below_drewN hbw _⟩
      case measure => have := Nat.mod_lt x (show 0 < y by omega); simp [intOf]; omega

/-- the division of two words, the high one 0 -/
theorem div64_zero (l d : Int) (w : World) (h0 : 0 ≤ l) (h1 : l ≤ 1000000000000000000) (h2 : 1 ≤ d) (h3 : d ≤ 1000000000000000000) :
    Calls Tryd.prog 56 #[.int .u64 0, .int .u64 l, .int .u64 d] w fun e w' => (∃ q r, e = .returned (.tuple #[.int .u64 q, .int .u64 r]) ∧ 0 ≤ q ∧ q ≤ l ∧ 0 ≤ r ∧ r < d ∧ Hid (l = d * q + r)) ∧ Below w.heap.size w w' := by
  have e1 := Int.mul_ediv_add_emod l d
  have r1 := Int.emod_nonneg l (show d ≠ 0 by omega)
  have r2 := Int.emod_lt_of_pos l (show 0 < d by omega)
  have q1 := quot_le h0 h2
  have E1 := Lib.hid e1
  clear e1
  go_enter Tryd.func56, Tryd.ntmps56
  go_wp2
  go_quiet (fail)
  go_wp2
  go_ret2
  exact ⟨⟨_, _, rfl, q1.1, q1.2, r1, r2, E1.out.symm⟩, by (repeat' (first | with_reducible exact Below.refl _ _ | with_reducible assumption | with_reducible refine Below.drew ?_ | with_reducible refine below_drewN ?_ _ | with_reducible refine Below.setCell ?_ ?_ _ | with_reducible refine Below.alloc ?_ ?_ _ | omega | (simp; done) | (simp; omega)))⟩

theorem mul64_small (x y : Nat) (hx : x ≤ 1000000000000000000) (hy : y ≤ 1000000000000000000) (h : x * y ≤ 18446744073709551615) (w : World) :
    Calls Tryd.prog 55 #[.int .u64 x, .int .u64 y] w fun e w' => e = .returned (.tuple #[.int .u64 0, .int .u64 ((x : Int) * y)]) ∧ w' = w := by
  have := Tryd.bits_Mul64 x y (by omega) (by omega) w
  rw [Nat.div_eq_of_lt (by omega), Nat.mod_eq_of_lt (by omega)] at this
  refine this.mono ?_
  rintro e w' ⟨rfl, rfl⟩
  exact ⟨by push_cast; rfl, rfl⟩

/-- a place as Go holds it -/
abbrev plV (u p d : Int) (lo ex : Bool) : Value := .agg #[.int .i64 u, .int .u64 p, .int .u64 d, .bool lo, .bool ex]

theorem floor_neg {m d q r : Int} (hd : 1 ≤ d) (h0 : 0 ≤ r) (h1 : r < d) (h : m = d * q + r) : m / d = q ∧ m % d = r := by
  subst h
  have e : (d * q + r) / d = q := by rw [Int.add_comm, Int.add_mul_ediv_left _ _ (show d ≠ 0 by omega), Int.ediv_eq_zero_of_lt h0 h1, Int.zero_add]
  refine ⟨e, ?_⟩
  have := Int.mul_ediv_add_emod (d * q + r) d
  rw [e] at this; omega

theorem prodN {a b A B : Nat} (h1 : a ≤ A) (h2 : b ≤ B) : a * b ≤ A * B := Nat.mul_le_mul h1 h2

end Go.Proofs.YtcbglkkmblmbnaaDoor
