/- The calendar: Of, Date: walks. -/
import Derived.Test.YtmodofbelpaelaaDoorCalA
namespace Go.Proofs.YtmodofbelpaelaaDoor
open Go.RowKit

set_option maxRecDepth 10000 in
set_option maxHeartbeats 8000000 in
theorem of_ok (n y d : Int) (k : Nat) (w : World) (h : DateIs n y k d) (hT : Tabs w) : Calls Tryd.prog 88 #[.int .i64 y, .int .i64 ((k : Int) + 1), .int .i64 d] w fun e w' => e = .returned (.tuple #[.int .i64 n, .nilIface]) ∧ Below w.heap.size w w' := by
  obtain ⟨⟨y1, y2⟩, hk, ⟨d1, d2⟩, hs⟩ := h
  have HT := Lib.hid hT
  have HL := Lib.hid (fun (j : Nat) (w' : World) (hj : j < 12) (hb : Below w.heap.size w w') => length_any y j w' (by omega) hj (hT.below hb))
  have HS := Lib.hid hs
  have hlk := lenK_pos y hk
  have hb1 : decide (y < 1) = false := decide_eq_false (by omega)
  have hb2 : decide (9999 < y) = false := decide_eq_false (by omega)
  have hb3 : decide ((k : Int) + 1 < 1) = false := decide_eq_false (by omega)
  have hb4 : decide ((12 : Int) < (k : Int) + 1) = false := decide_eq_false (by omega)
  have hb5 : decide (d < 1) = false := decide_eq_false (by omega)
  have hb6 : decide (lenK y k < d) = false := decide_eq_false (by omega)
  have ha1 := aheadL_mono (y := 1) (z := y) y1
  have ha2 := aheadL_mono (y := y) (z := 10000) (by omega)
  rw [aheadL_one] at ha1
  rw [aheadL_top] at ha2
  clear hT hs
  go_enter Tryd.func88, Tryd.ntmps88
  go_wp2_with fail
  refine (HL.out k _ hk (Below.refl _ _)).mono ?_
  rintro e w1 ⟨rfl, hw1⟩
  go_wp2_with fail
  refine (ahead_any y _ y1 (by omega)).mono ?_
  rintro e w2 ⟨rfl, hb⟩
  have hw2 : Below w.heap.size w w2 := stepH hw1 hb
  clear hb
  go_wp2_with fail
  go_loopw [8, 9] (fun v i wr => ∃ j : Nat, j ≤ k ∧ v = .int .i64 (aheadL y + d - 1 + cumL y j) ∧ i = .int .i64 ((j : Int) + 1) ∧ Below w.heap.size w wr) (fun _ i _ => k + 1 - (intOf i).toNat)
  case atStart => exact ⟨0, Nat.zero_le _, by simp [cumL], rfl, hw2⟩
  case round =>
    obtain ⟨j, hj, rfl, rfl, hwr⟩ := hrel
    have c0 := cumL_mono y (a := 0) (b := j) (by omega) (by omega)
    have c1 := cumL_mono y (a := j) (b := 12) (by omega) (by omega)
    have c12 : cumL y 12 ≤ 366 := by rw [cumL_12]; split <;> omega
    have c00 : cumL y 0 = 0 := rfl
    by_cases hlt : j < k
    · have e1 : decide ((j : Int) + 1 < (k : Int) + 1) = true := decide_eq_true (by omega)
      have lj := lenK_pos y (k := j) (by omega)
      have hc : Hid (cumL y (j + 1) = cumL y j + lenK y j) := rfl
      go_wp2_with fail
      refine (HL.out j _ (by omega) hwr).mono ?_
      rintro e w3 ⟨rfl, hb⟩
      have hw3 : Below w.heap.size w w3 := stepH hwr hb
      clear hb
      go_wp2_with fail
      go_roundw
      case rel => exact ⟨j + 1, by omega, by rw [hc.out]; congr 1; omega, by go_num, hw3⟩
      case measure => simp [intOf]; omega
    · obtain rfl : j = k := by omega
      have hn : Hid (aheadL y + d - 1 + cumL y j = n) := by have := HS.out; show _ = _; omega
      go_wp2_with fail
      go_ret2
      exact ⟨by rw [← hn.out]; rfl, hwr⟩

/-- no date -/
def NoDate (y m d : Int) : Prop := ∀ k : Nat, m = (k : Int) + 1 → ¬ (1 ≤ y ∧ y ≤ 9999 ∧ k < 12 ∧ 1 ≤ d ∧ d ≤ lenK y k)

set_option maxRecDepth 10000 in
set_option maxHeartbeats 8000000 in
theorem of_bad (y m d : Int) (E : Nat → Addr) (w : World) (h : NoDate y m d) (hT : Tabs w) (hE : Env LD E w) : Calls Tryd.prog 88 #[.int .i64 y, .int .i64 m, .int .i64 d] w fun e w' => e = .returned (.tuple #[.int .i64 0, (.iface 245 (.pointer (some (E 5))))]) ∧ Below w.heap.size w w' := by
  have ge := hE.cell 5 (by decide)
  have lge := cell_lt ge
  have hne : 5 < w.heap.size + 1 ∧ 5 < w.heap.size + 1 + 1 ∧ 5 < w.heap.size + 1 + 1 + 1 ∧ 5 < w.heap.size + 1 + 1 + 1 + 1 := by dsimp only at lge; omega
  by_cases h1 : y < 1
  · have hb1 : decide (y < 1) = true := decide_eq_true h1
    clear h hT hE
    go_enter Tryd.func88, Tryd.ntmps88
    go_wp2_with fail
    go_quiet (fail)
    go_wp2_with fail
    go_ret2
    exact ⟨rfl, by (repeat' (first | with_reducible exact Below.refl _ _ | with_reducible assumption | with_reducible refine Below.drew ?_ | with_reducible refine below_drewN ?_ _ | with_reducible refine Below.setCell ?_ ?_ _ | with_reducible refine Below.alloc ?_ ?_ _ | omega | (simp; done) | (simp; omega)))⟩
  have hb1 : decide (y < 1) = false := decide_eq_false h1
  by_cases h2 : 9999 < y
  · have hb2 : decide (9999 < y) = true := decide_eq_true h2
    clear h hT hE
    go_enter Tryd.func88, Tryd.ntmps88
    go_wp2_with fail
    go_quiet (fail)
    go_wp2_with fail
    go_ret2
    exact ⟨rfl, by (repeat' (first | with_reducible exact Below.refl _ _ | with_reducible assumption | with_reducible refine Below.drew ?_ | with_reducible refine below_drewN ?_ _ | with_reducible refine Below.setCell ?_ ?_ _ | with_reducible refine Below.alloc ?_ ?_ _ | omega | (simp; done) | (simp; omega)))⟩
  have hb2 : decide (9999 < y) = false := decide_eq_false h2
  by_cases h3 : m < 1
  · have hb3 : decide (m < 1) = true := decide_eq_true h3
    clear h hT hE
    go_enter Tryd.func88, Tryd.ntmps88
    go_wp2_with fail
    go_quiet (fail)
    go_wp2_with fail
    go_ret2
    exact ⟨rfl, by (repeat' (first | with_reducible exact Below.refl _ _ | with_reducible assumption | with_reducible refine Below.drew ?_ | with_reducible refine below_drewN ?_ _ | with_reducible refine Below.setCell ?_ ?_ _ | with_reducible refine Below.alloc ?_ ?_ _ | omega | (simp; done) | (simp; omega)))⟩
  have hb3 : decide (m < 1) = false := decide_eq_false h3
  by_cases h4 : 12 < m
  · have hb4 : decide (12 < m) = true := decide_eq_true h4
    clear h hT hE
    go_enter Tryd.func88, Tryd.ntmps88
    go_wp2_with fail
    go_quiet (fail)
    go_wp2_with fail
    go_ret2
    exact ⟨rfl, by (repeat' (first | with_reducible exact Below.refl _ _ | with_reducible assumption | with_reducible refine Below.drew ?_ | with_reducible refine below_drewN ?_ _ | with_reducible refine Below.setCell ?_ ?_ _ | with_reducible refine Below.alloc ?_ ?_ _ | omega | (simp; done) | (simp; omega)))⟩
  have hb4 : decide (12 < m) = false := decide_eq_false h4
  by_cases h5 : d < 1
  · have hb5 : decide (d < 1) = true := decide_eq_true h5
    clear h hT hE
    go_enter Tryd.func88, Tryd.ntmps88
    go_wp2_with fail
    go_quiet (fail)
    go_wp2_with fail
    go_ret2
    exact ⟨rfl, by (repeat' (first | with_reducible exact Below.refl _ _ | with_reducible assumption | with_reducible refine Below.drew ?_ | with_reducible refine below_drewN ?_ _ | with_reducible refine Below.setCell ?_ ?_ _ | with_reducible refine Below.alloc ?_ ?_ _ | omega | (simp; done) | (simp; omega)))⟩
  have hb5 : decide (d < 1) = false := decide_eq_false h5
  obtain ⟨k, rfl⟩ : ∃ k : Nat, m = (k : Int) + 1 := ⟨(m - 1).toNat, by omega⟩
  have hk : k < 12 := by omega
  have hlk := lenK_pos y hk
  have hb6 : decide (lenK y k < d) = true := decide_eq_true (by
    rcases Int.lt_or_le (lenK y k) d with hlt | hge
    · exact hlt
    · exact absurd ⟨by omega, by omega, hk, by omega, hge⟩ (h k rfl))
  have HLk := Lib.hid (length_any y k w (by omega) hk hT)
  have HE := Lib.hid hE
  clear h hT hE ge
  go_enter Tryd.func88, Tryd.ntmps88
  go_wp2_with fail
  refine HLk.out.mono ?_
  rintro e w1 ⟨rfl, hw1⟩
  have ge := (HE.out.below hw1).cell 5 (by decide)
  go_wp2_with fail
  go_quiet (fail)
  go_wp2_with fail
  go_ret2
  exact ⟨rfl, by (repeat' (first | with_reducible exact Below.refl _ _ | with_reducible assumption | with_reducible refine Below.drew ?_ | with_reducible refine below_drewN ?_ _ | with_reducible refine Below.setCell ?_ ?_ _ | with_reducible refine Below.alloc ?_ ?_ _ | omega | (simp; done) | (simp; omega)))⟩

set_option maxRecDepth 10000 in
set_option maxHeartbeats 8000000 in
theorem date_bad (n : Int) (E : Nat → Addr) (w : World) (h : ¬ (0 ≤ n ∧ n < 3652059)) (hE : Env LD E w) : Calls Tryd.prog 89 #[.int .i64 n] w fun e w' => e = .returned (.tuple #[.int .i64 0, .int .i64 0, .int .i64 0, (.iface 245 (.pointer (some (E 5))))]) ∧ Below w.heap.size w w' := by
  have HE := Lib.hid hE
  have HD := Lib.hid (isDay_no n w h)
  clear h hE
  go_enter Tryd.func89, Tryd.ntmps89
  go_wp2_with fail
  refine HD.out.mono ?_
  rintro e w1 ⟨rfl, hw1⟩
  have ge := (HE.out.below hw1).cell 5 (by decide)
  have lge := cell_lt ge
  have hne : 5 < w.heap.size + 1 ∧ 5 < w.heap.size + 1 + 1 ∧ 5 < w.heap.size + 1 + 1 + 1 ∧ 5 < w.heap.size + 1 + 1 + 1 + 1 := by have h0 := (HE.out.cell 5 (by decide)); have := cell_lt h0; dsimp only at this; omega
  go_wp2_with fail
  go_quiet (fail)
  go_wp2_with fail
  refine bodyPost_ret (v := .tuple #[.int .i64 0, .int .i64 0, .int .i64 0, (.iface 245 (.pointer (some (E 5))))]) (by simp [results, Tryd.results89, go_sem]) rfl ⟨rfl, by (repeat' (first | with_reducible exact Below.refl _ _ | with_reducible assumption | with_reducible refine Below.drew ?_ | with_reducible refine below_drewN ?_ _ | with_reducible refine Below.setCell ?_ ?_ _ | with_reducible refine Below.alloc ?_ ?_ _ | omega | (simp; done) | (simp; omega)))⟩

set_option maxRecDepth 10000 in
set_option maxHeartbeats 8000000 in
theorem date_ok (n : Int) (w : World) (h0 : 0 ≤ n) (h9 : n < 3652059) (hT : Tabs w) : Calls Tryd.prog 89 #[.int .i64 n] w fun e w' => (∃ (y d : Int) (k : Nat), e = .returned (.tuple #[.int .i64 y, .int .i64 ((k : Int) + 1), .int .i64 d, .nilIface]) ∧ DateIs n y k d) ∧ Below w.heap.size w w' := by
  have HL := Lib.hid (fun (y : Int) (j : Nat) (w' : World) (hy : 0 ≤ y) (hj : j < 12) (hb : Below w.heap.size w w') => length_any y j w' hy hj (hT.below hb))
  clear hT
  go_enter Tryd.func89, Tryd.ntmps89
  go_wp2_with fail
  refine (isDay_yes n _ h0 h9).mono ?_
  rintro e w1 ⟨rfl, hw1⟩
  go_wp2_with fail
  go_loopw [6] (fun v wr => ∃ y : Int, v = .int .i64 y ∧ 1 ≤ y ∧ y ≤ 9999 ∧ aheadL y ≤ n ∧ Below w.heap.size w wr) (fun v _ => (10000 - intOf v).toNat)
  case atStart => exact ⟨n / 366 + 1, rfl, by omega, by omega, by unfold aheadL; omega, hw1⟩
  case round =>
    obtain ⟨y, rfl, y1, y2, hy, hwr⟩ := hrel
    go_wp2_with fail
    refine (ahead_any (y + 1) _ (by omega) (by omega)).mono ?_
    rintro e w3 ⟨rfl, hb⟩
    have hw3 : Below w.heap.size w w3 := stepH hwr hb
    clear hb
    by_cases hlt : aheadL (y + 1) ≤ n
    · have e1 : decide (aheadL (y + 1) ≤ n) = true := decide_eq_true hlt
      have h99 : y < 9999 := by
        rcases Int.lt_or_le y 9999 with h1 | h1
        · exact h1
        · obtain rfl : y = 9999 := by omega
          have := aheadL_top
          have e : (9999 : Int) + 1 = 10000 := by omega
          rw [e] at hlt
          omega
      go_wp2_with fail
      go_roundw
      case rel => exact ⟨y + 1, by go_num, by omega, by omega, hlt, hw3⟩
      case measure => simp [intOf]; omega
    · have e1 : decide (aheadL (y + 1) ≤ n) = false := decide_eq_false hlt
      have h12 := aheadL_succ y
      have a1 := aheadL_mono (y := 1) (z := y) y1
      rw [aheadL_one] at a1
      go_wp2_with fail
      refine (ahead_any y _ y1 (by omega)).mono ?_
      rintro e w4 ⟨rfl, hb⟩
      have hw4 : Below w.heap.size w w4 := stepH hw3 hb
      clear hb
      go_wp2_with fail
      go_loopw [0, 7] (fun v i wr => ∃ k : Nat, k < 12 ∧ v = .int .i64 (n - aheadL y - cumL y k) ∧ i = .int .i64 ((k : Int) + 1) ∧ aheadL y + cumL y k ≤ n ∧ Below w.heap.size w wr) (fun _ i _ => 13 - (intOf i).toNat)
      case atStart => exact ⟨0, by omega, by simp [cumL], rfl, by simp [cumL]; exact hy, hw4⟩
      case round =>
        obtain ⟨k, hk, rfl, rfl, hs, hwr⟩ := hrel
        have c0 := cumL_mono y (a := 0) (b := k) (by omega) (by omega)
        have c1 := cumL_mono y (a := k + 1) (b := 12) (by omega) (by omega)
        have c12 : cumL y 12 ≤ 366 := by rw [cumL_12]; split <;> omega
        have c00 : cumL y 0 = 0 := rfl
        have hc : cumL y (k + 1) = cumL y k + lenK y k := rfl
        have lk := lenK_pos y hk
        have HC := Lib.hid hc
        go_wp2_with fail
        refine (HL.out y k _ (by omega) hk hwr).mono ?_
        rintro e w5 ⟨rfl, hb⟩
        have hw5 : Below w.heap.size w w5 := stepH hwr hb
        clear hb
        by_cases hlt2 : lenK y k ≤ n - aheadL y - cumL y k
        · have e2 : decide (lenK y k ≤ n - aheadL y - cumL y k) = true := decide_eq_true hlt2
          have hk2 : k + 1 < 12 := by
            rcases Nat.lt_or_ge (k + 1) 12 with h1 | h1
            · exact h1
            · obtain rfl : k = 11 := by omega
              have : cumL y (11 + 1) = cumL y 12 := rfl
              omega
          clear hc
          go_wp2_with fail
          refine (HL.out y k _ (by omega) hk hw5).mono ?_
          rintro e w6 ⟨rfl, hb⟩
          have hw6 : Below w.heap.size w w6 := stepH hw5 hb
          clear hb
          go_wp2_with fail
          go_roundw
          case rel => exact ⟨k + 1, hk2, by rw [HC.out]; congr 1; omega, by go_num, by rw [HC.out]; omega, hw6⟩
          case measure => simp [intOf]; omega
        · have e2 : decide (lenK y k ≤ n - aheadL y - cumL y k) = false := decide_eq_false hlt2
          clear hc
          go_wp2_with fail
          refine bodyPost_ret (v := .tuple #[.int .i64 y, .int .i64 ((k : Int) + 1), .int .i64 (n - aheadL y - cumL y k + 1), .nilIface]) (by simp [results, Tryd.results89, go_sem]) rfl ⟨⟨y, _, k, rfl, ⟨y1, y2⟩, hk, ⟨by omega, by omega⟩, by omega⟩, hw5⟩

end Go.Proofs.YtmodofbelpaelaaDoor
