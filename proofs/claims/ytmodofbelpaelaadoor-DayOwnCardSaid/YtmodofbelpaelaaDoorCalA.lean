/- The calendar: leap, length, ahead, isDay, Of: walks. -/
import Derived.Test.YtmodofbelpaelaaDoorDayC
import Derived.Test.YtmodofbelpaelaaDoorCalL
import Derived.Lib.LaidTab
import Derived.WalkSmall
import Derived.Test.YtmodofbelpaelaaDoorCalSort
namespace Go.Proofs.YtmodofbelpaelaaDoor
open Go.RowKit

/-- the tables that are read -/
structure Tabs (w : World) : Prop where
  months : Lib.TabIs Tryd.prog w "tithe/day.months" .i64 monthsL
  pow : Lib.TabIs Tryd.prog w "internal/strconv.uint64pow10" .u64 Lib.pow10Tab
  lt : 6 < w.heap.size ∧ 9 < w.heap.size
theorem gMonths : Tryd.prog.globalNamed "tithe/day.months" = some 6 := by kernel_rfl
theorem gPow : Tryd.prog.globalNamed "internal/strconv.uint64pow10" = some 9 := by kernel_rfl
theorem Tabs.below {w w' : World} (h : Tabs w) (hb : Below w.heap.size w w') : Tabs w' :=
  ⟨var?_below hb gMonths h.lt.1 h.months, var?_below hb gPow h.lt.2 h.pow, by have := h.lt; have := hb.size; omega⟩
theorem Tabs.cell {w : World} (h : Tabs w) (k : Nat) (hk : k < 12) : w.cell? ⟨6, k, none⟩ = some (.int .i64 (monthsL.getD k 0)) := h.months.cell gMonths k hk

/-- the sentinels of chapter 3 -/
def LD : List Nat := [5, 4]

set_option maxHeartbeats 4000000 in
theorem leap_any (y : Int) (w : World) (hy : 0 ≤ y) : Calls Tryd.prog 145 #[.int .i64 y] w fun e w' => e = .returned (.bool (leapB y)) ∧ Below w.heap.size w w' := by
  have t4 : y.tmod 4 = y % 4 := Int.tmod_eq_emod_of_nonneg hy
  have t100 : y.tmod 100 = y % 100 := Int.tmod_eq_emod_of_nonneg hy
  have t400 : y.tmod 400 = y % 400 := Int.tmod_eq_emod_of_nonneg hy
  cases hl : leapB y with
  | true =>
    have h := (leapB_iff y).1 hl
    have e4 : (y % 4 == 0) = true := by simp [h.1]
    by_cases h1 : y % 100 = 0
    · have e1 : (y % 100 != 0) = false := by simp [h1]
      have e2 : (y % 400 == 0) = true := by simp; omega
      clear h hl h1
      go_enter Tryd.func145, Tryd.ntmps145
      go_wp2_with fail
      go_ret
      exact ⟨rfl, by (repeat' (first | with_reducible exact Below.refl _ _ | with_reducible assumption | with_reducible refine Below.drew ?_ | with_reducible refine below_drewN ?_ _ | with_reducible refine Below.setCell ?_ ?_ _ | with_reducible refine Below.alloc ?_ ?_ _ | omega | (simp; done) | (simp; omega)))⟩
    · have e1 : (y % 100 != 0) = true := by simp [h1]
      clear h hl h1
      go_enter Tryd.func145, Tryd.ntmps145
      go_wp2_with fail
      go_ret
      exact ⟨rfl, by (repeat' (first | with_reducible exact Below.refl _ _ | with_reducible assumption | with_reducible refine Below.drew ?_ | with_reducible refine below_drewN ?_ _ | with_reducible refine Below.setCell ?_ ?_ _ | with_reducible refine Below.alloc ?_ ?_ _ | omega | (simp; done) | (simp; omega)))⟩
  | false =>
    have h : ¬ (y % 4 = 0 ∧ (y % 100 ≠ 0 ∨ y % 400 = 0)) := fun hh => by rw [(leapB_iff y).2 hh] at hl; cases hl
    by_cases h4 : y % 4 = 0
    · have e4 : (y % 4 == 0) = true := by simp [h4]
      have e1 : (y % 100 != 0) = false := by simp; omega
      have e2 : (y % 400 == 0) = false := by simp; omega
      clear h hl h4
      go_enter Tryd.func145, Tryd.ntmps145
      go_wp2_with fail
      go_ret
      exact ⟨rfl, by (repeat' (first | with_reducible exact Below.refl _ _ | with_reducible assumption | with_reducible refine Below.drew ?_ | with_reducible refine below_drewN ?_ _ | with_reducible refine Below.setCell ?_ ?_ _ | with_reducible refine Below.alloc ?_ ?_ _ | omega | (simp; done) | (simp; omega)))⟩
    · have e4 : (y % 4 == 0) = false := by simp [h4]
      clear h hl h4
      go_enter Tryd.func145, Tryd.ntmps145
      go_wp2_with fail
      go_ret
      exact ⟨rfl, by (repeat' (first | with_reducible exact Below.refl _ _ | with_reducible assumption | with_reducible refine Below.drew ?_ | with_reducible refine below_drewN ?_ _ | with_reducible refine Below.setCell ?_ ?_ _ | with_reducible refine Below.alloc ?_ ?_ _ | omega | (simp; done) | (simp; omega)))⟩

theorem ahead_any (y : Int) (w : World) (h1 : 1 ≤ y) (h2 : y ≤ 10000) : Calls Tryd.prog 124 #[.int .i64 y] w fun e w' => e = .returned (.int .i64 (aheadL y)) ∧ Below w.heap.size w w' := by
  go_enter Tryd.func124, Tryd.ntmps124
  go_wp2_with fail
  go_ret
  exact ⟨rfl, by (repeat' (first | with_reducible exact Below.refl _ _ | with_reducible assumption | with_reducible refine Below.drew ?_ | with_reducible refine below_drewN ?_ _ | with_reducible refine Below.setCell ?_ ?_ _ | with_reducible refine Below.alloc ?_ ?_ _ | omega | (simp; done) | (simp; omega)))⟩

theorem isDay_yes (n : Int) (w : World) (h1 : 0 ≤ n) (h2 : n < 3652059) : Calls Tryd.prog 125 #[.int .i64 n] w fun e w' => e = .returned (.bool true) ∧ Below w.heap.size w w' := by
  have e1 : decide (0 ≤ n) = true := decide_eq_true h1
  have e2 : decide (n < 3652059) = true := decide_eq_true h2
  go_enter Tryd.func125, Tryd.ntmps125
  go_wp2_with fail
  go_ret
  exact ⟨rfl, by (repeat' (first | with_reducible exact Below.refl _ _ | with_reducible assumption | with_reducible refine Below.drew ?_ | with_reducible refine below_drewN ?_ _ | with_reducible refine Below.setCell ?_ ?_ _ | with_reducible refine Below.alloc ?_ ?_ _ | omega | (simp; done) | (simp; omega)))⟩
theorem isDay_no (n : Int) (w : World) (h : ¬ (0 ≤ n ∧ n < 3652059)) : Calls Tryd.prog 125 #[.int .i64 n] w fun e w' => e = .returned (.bool false) ∧ Below w.heap.size w w' := by
  by_cases h1 : 0 ≤ n
  · have e1 : decide (0 ≤ n) = true := decide_eq_true h1
    have e2 : decide (n < 3652059) = false := decide_eq_false (fun h2 => h ⟨h1, h2⟩)
    clear h
    go_enter Tryd.func125, Tryd.ntmps125
    go_wp2_with fail
    go_ret
    exact ⟨rfl, by (repeat' (first | with_reducible exact Below.refl _ _ | with_reducible assumption | with_reducible refine Below.drew ?_ | with_reducible refine below_drewN ?_ _ | with_reducible refine Below.setCell ?_ ?_ _ | with_reducible refine Below.alloc ?_ ?_ _ | omega | (simp; done) | (simp; omega)))⟩
  · have e1 : decide (0 ≤ n) = false := decide_eq_false h1
    clear h
    go_enter Tryd.func125, Tryd.ntmps125
    go_wp2_with fail
    go_ret
    exact ⟨rfl, by (repeat' (first | with_reducible exact Below.refl _ _ | with_reducible assumption | with_reducible refine Below.drew ?_ | with_reducible refine below_drewN ?_ _ | with_reducible refine Below.setCell ?_ ?_ _ | with_reducible refine Below.alloc ?_ ?_ _ | omega | (simp; done) | (simp; omega)))⟩

set_option maxHeartbeats 4000000 in
theorem length_any (y : Int) (k : Nat) (w : World) (hy : 0 ≤ y) (hk : k < 12) (hT : Tabs w) : Calls Tryd.prog 123 #[.int .i64 y, .int .i64 ((k : Int) + 1)] w fun e w' => e = .returned (.int .i64 (lenK y k)) ∧ Below w.heap.size w w' := by
  have hc := hT.cell k hk
  have hlt := hT.lt.1
  clear hT
  by_cases h1 : k = 1
  · subst h1
    have hc : w.cell? ⟨6, 1, none⟩ = some (.int .i64 28) := hc
    show Calls Tryd.prog 123 #[.int .i64 y, .int .i64 2] w _
    cases hl : leapB y with
    | true =>
      have e : lenK y 1 = 29 := by simp [lenK, hl]
      rw [e]
      go_enter Tryd.func123, Tryd.ntmps123
      go_wp2_with fail
      refine (leap_any y w hy).mono ?_
      rw [hl]
      rintro e w1 ⟨rfl, hb1⟩
      go_wp2_with fail
      go_ret
      exact ⟨rfl, hb1⟩
    | false =>
      have e : lenK y 1 = 28 := by simp [lenK, hl, monthsL]
      rw [e]
      go_enter Tryd.func123, Tryd.ntmps123
      go_wp2_with fail
      refine (leap_any y w hy).mono ?_
      rw [hl]
      rintro e w1 ⟨rfl, hb1⟩
      have hc := cellOf hb1 hc
      go_wp2_with fail
      go_ret
      exact ⟨rfl, hb1⟩
  · have e : lenK y k = monthsL.getD k 0 := by simp [lenK, h1]
    have e2 : ((k : Int) + 1 == 2) = false := by rw [beq_eq_false_iff_ne]; omega
    have f1 : (k : Int) + 1 - 1 = (k : Int) := by omega
    have f2 : (0 : Int) ≤ (k : Int) := by omega
    have f3 : (k : Int) < 12 := by omega
    have f4 : ((k : Int)).toNat = k := by omega
    rw [e]
    clear h1 e
    go_enter Tryd.func123, Tryd.ntmps123
    go_wp2_with fail
    go_ret
    exact ⟨rfl, by (repeat' (first | with_reducible exact Below.refl _ _ | with_reducible assumption | with_reducible refine Below.drew ?_ | with_reducible refine below_drewN ?_ _ | with_reducible refine Below.setCell ?_ ?_ _ | with_reducible refine Below.alloc ?_ ?_ _ | omega | (simp; done) | (simp; omega)))⟩

end Go.Proofs.YtmodofbelpaelaaDoor
