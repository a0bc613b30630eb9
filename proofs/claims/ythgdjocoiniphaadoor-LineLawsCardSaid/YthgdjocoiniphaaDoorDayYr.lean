/- Year, and the walk of DayYears. -/
import Derived.Test.YthgdjocoiniphaaDoorDayE
import Derived.Deep.RegionHeld3
namespace Go.Proofs.YthgdjocoiniphaaDoor
open Go.RowKit

theorem setBlk0 {w : World} {g : Nat} {x y : Value} {t : TypeId} (h : w.heap[g]? = some (.cells #[x, y] t (0, 0))) (u : Value) : (w.setCell ⟨g, 0, none⟩ u).heap[g]? = some (.cells #[u, y] t (0, 0)) := by
  simp [World.setCell, Array.getElem?_modify, h]
theorem setBlk1 {w : World} {g : Nat} {x y : Value} {t : TypeId} (h : w.heap[g]? = some (.cells #[x, y] t (0, 0))) (u : Value) : (w.setCell ⟨g, 1, none⟩ u).heap[g]? = some (.cells #[x, u] t (0, 0)) := by
  simp [World.setCell, Array.getElem?_modify, h]

theorem year_ok (n : Int) (w : World) (h1 : 1 ≤ n) (h2 : n ≤ 9999) : Calls Tryd.prog 58 #[.int .i64 n] w fun e w' => e = .returned (.tuple #[.agg #[.int .i64 (aheadL n), .int .i64 (aheadL (n + 1))], .nilIface]) ∧ Below w.heap.size w w' := by
  have e1 : decide (n < 1) = false := decide_eq_false (by omega)
  have e2 : decide (9999 < n) = false := decide_eq_false (by omega)
  go_enter Tryd.func58, Tryd.ntmps58
  go_wp2_with fail
  refine (ahead_any n _ h1 (by omega)).mono ?_
  rintro e w1 ⟨rfl, hb⟩
  have hw1 : Below w.heap.size w w1 := stepH (by (repeat' (first | with_reducible exact Below.refl _ _ | with_reducible assumption | with_reducible refine Below.drew ?_ | with_reducible refine below_drewN ?_ _ | with_reducible refine Below.setCell ?_ ?_ _ | with_reducible refine Below.alloc ?_ ?_ _ | omega | (simp; done) | (simp; omega)))) hb
  have R := keepH hb (g := w.heap.size) (blk_new rfl)
  clear hb
  go_wp2_with fail
  refine (ahead_any (n + 1) _ (by omega) (by omega)).mono ?_
  rintro e w2 ⟨rfl, hb⟩
  have hw2 : Below w.heap.size w w2 := stepH hw1 hb
  replace R := keepH hb R.out
  have cR := cellH R
  have fzR := frozH R
  have lR := lt_of_H R
  clear hb
  go_wp2_with fail
  have cR2 := cellH (Lib.hid (setBlk1 (setBlk0 R.out (.int .i64 (aheadL n))) (.int .i64 (aheadL (n + 1)))))
  refine bodyPost_ret (v := .tuple #[.agg #[.int .i64 (aheadL n), .int .i64 (aheadL (n + 1))], .nilIface]) (by simp [results, Tryd.results58, go_sem, cR2]) rfl ⟨rfl, by (repeat' (first | with_reducible exact Below.refl _ _ | with_reducible assumption | with_reducible refine Below.drew ?_ | with_reducible refine below_drewN ?_ _ | with_reducible refine Below.setCell ?_ ?_ _ | with_reducible refine Below.alloc ?_ ?_ _ | omega | (simp; done) | (simp; omega)))⟩

set_option maxHeartbeats 4000000 in
theorem year_bad (n : Int) (E : Nat → Addr) (w : World) (h : ¬ (1 ≤ n ∧ n ≤ 9999)) (hE : Env LD E w) : Calls Tryd.prog 58 #[.int .i64 n] w fun e w' => e = .returned (.tuple #[.agg #[.int .i64 0, .int .i64 0], (.iface 262 (.pointer (some (E 0))))]) ∧ Below w.heap.size w w' := by
  have ge := hE.cell 0 (by decide)
  have lge := cell_lt ge
  have hne : 0 < w.heap.size + 1 ∧ 0 < w.heap.size + 1 + 1 ∧ 0 < w.heap.size + 1 + 1 + 1 ∧ 0 < w.heap.size + 1 + 1 + 1 + 1 := by dsimp only at lge; omega
  by_cases h1 : n < 1
  · have e1 : decide (n < 1) = true := decide_eq_true h1
    clear h hE
    go_enter Tryd.func58, Tryd.ntmps58
    go_wp2_with fail
    go_region
    go_wp2_with fail
    have cR := cellH (Lib.hid (drew_old (w := w.alloc (.cells #[.int .i64 0, .int .i64 0] 70)) (blk_new rfl)))
    refine bodyPost_ret (v := .tuple #[.agg #[.int .i64 0, .int .i64 0], (.iface 262 (.pointer (some (E 0))))]) (by simp [results, Tryd.results58, go_sem, cR]) rfl ⟨rfl, by (repeat' (first | with_reducible exact Below.refl _ _ | with_reducible assumption | with_reducible refine Below.drew ?_ | with_reducible refine below_drewN ?_ _ | with_reducible refine Below.setCell ?_ ?_ _ | with_reducible refine Below.alloc ?_ ?_ _ | omega | (simp; done) | (simp; omega)))⟩
  · have e1 : decide (n < 1) = false := decide_eq_false h1
    have e2 : decide (9999 < n) = true := decide_eq_true (by omega)
    clear h hE
    go_enter Tryd.func58, Tryd.ntmps58
    go_wp2_with fail
    go_region
    go_wp2_with fail
    have cR := cellH (Lib.hid (drew_old (w := w.alloc (.cells #[.int .i64 0, .int .i64 0] 70)) (blk_new rfl)))
    refine bodyPost_ret (v := .tuple #[.agg #[.int .i64 0, .int .i64 0], (.iface 262 (.pointer (some (E 0))))]) (by simp [results, Tryd.results58, go_sem, cR]) rfl ⟨rfl, by (repeat' (first | with_reducible exact Below.refl _ _ | with_reducible assumption | with_reducible refine Below.drew ?_ | with_reducible refine below_drewN ?_ _ | with_reducible refine Below.setCell ?_ ?_ _ | with_reducible refine Below.alloc ?_ ?_ _ | omega | (simp; done) | (simp; omega)))⟩

set_option maxRecDepth 100000 in
set_option maxHeartbeats 16000000 in
theorem dayYears_bad (n : Int) (E : Nat → Addr) (w : World) (h : ¬ (1 ≤ n ∧ n ≤ 9999)) (hT : Tabs w) (hE : Env LD E w) :
    Calls Tryd.prog 8 #[.int .i64 n] w fun e w' => e = .returned (.bool true) ∧ Below w.heap.size w w' := by
  have HE := Lib.hid hE
  have HF := Lib.hid (first3_any w hT)
  have HY := Lib.hid (fun (w' : World) (hb : Below w.heap.size w w') => year_bad n E w' h (hE.below hb))
  have hee := fun w => eql_err (E 0) w
  by_cases h1 : n < 1
  · have e1 : decide (n < 1) = true := decide_eq_true h1
    clear h hE hT
    go_enter Tryd.func8, Tryd.ntmps8
    go_wp2_with fail
    refine HF.out.mono ?_
    rintro e w1 ⟨rfl, hw1⟩
    go_wp2_with fail
    refine (HY.out w1 hw1).mono ?_
    rintro e w2 ⟨rfl, hb⟩
    have hw2 : Below w.heap.size w w2 := stepH hw1 hb
    have z2 := hw2.size
    have ge := (HE.out.below hw2).cell 0 (by decide)
    have lge := cell_lt ge
    have hne : 0 < w.heap.size + 1 ∧ 0 < w.heap.size + 1 + 1 ∧ 0 < w.heap.size + 1 + 1 + 1 ∧ 0 < w.heap.size + 1 + 1 + 1 + 1 := by dsimp only at lge; omega
    clear hb
    go_wp2_with fail
    go_ret
    exact ⟨rfl, by (repeat' (first | with_reducible exact Below.refl _ _ | with_reducible assumption | with_reducible refine Below.drew ?_ | with_reducible refine below_drewN ?_ _ | with_reducible refine Below.setCell ?_ ?_ _ | with_reducible refine Below.alloc ?_ ?_ _ | omega | (simp; done) | (simp; omega)))⟩
  · have e1 : decide (n < 1) = false := decide_eq_false h1
    have e2 : decide (9999 < n) = true := decide_eq_true (by omega)
    clear h hE hT
    go_enter Tryd.func8, Tryd.ntmps8
    go_wp2_with fail
    refine HF.out.mono ?_
    rintro e w1 ⟨rfl, hw1⟩
    go_wp2_with fail
    refine (HY.out w1 hw1).mono ?_
    rintro e w2 ⟨rfl, hb⟩
    have hw2 : Below w.heap.size w w2 := stepH hw1 hb
    have z2 := hw2.size
    have ge := (HE.out.below hw2).cell 0 (by decide)
    have lge := cell_lt ge
    have hne : 0 < w.heap.size + 1 ∧ 0 < w.heap.size + 1 + 1 ∧ 0 < w.heap.size + 1 + 1 + 1 ∧ 0 < w.heap.size + 1 + 1 + 1 + 1 := by dsimp only at lge; omega
    clear hb
    go_wp2_with fail
    go_ret
    exact ⟨rfl, by (repeat' (first | with_reducible exact Below.refl _ _ | with_reducible assumption | with_reducible refine Below.drew ?_ | with_reducible refine below_drewN ?_ _ | with_reducible refine Below.setCell ?_ ?_ _ | with_reducible refine Below.alloc ?_ ?_ _ | omega | (simp; done) | (simp; omega)))⟩

theorem date_first (n : Int) (h1 : 1 ≤ n) (h2 : n ≤ 9999) : DateIs (aheadL n) n 0 1 :=
  ⟨⟨h1, h2⟩, by decide, ⟨by omega, by have := lenK_pos n (k := 0) (by decide); omega⟩, by simp [cumL]⟩
theorem date_leap (n : Int) (h1 : 1 ≤ n) (h2 : n ≤ 9999) (hl : leapB n = true) : DateIs (aheadL n + 59) n 1 29 :=
  ⟨⟨h1, h2⟩, by decide, ⟨by omega, by simp [lenK, hl]⟩, by simp [cumL, lenK, monthsL]; omega⟩
theorem date_noleap (n : Int) (hl : leapB n = false) : NoDate n 2 29 := fun k e hh => by
  obtain rfl : k = 1 := by omega
  have : lenK n 1 = 28 := by simp [lenK, hl, monthsL]
  omega

set_option maxRecDepth 100000 in
set_option maxHeartbeats 16000000 in
theorem dayYears_lm (n : Int) (E : Nat → Addr) (w : World) (h1 : 1 ≤ n) (h2 : n < 9999) (hl : leapB n = true) (hT : Tabs w) :
    Calls Tryd.prog 8 #[.int .i64 n] w fun e w' => e = .returned (.bool true) ∧ Below w.heap.size w w' := by
  have HF := Lib.hid (first3_any w hT)
  have HY := Lib.hid (fun (w' : World) => year_ok n w' h1 (by omega))
  have HO := Lib.hid (fun (w' : World) (hb : Below w.heap.size w w') => of_ok (aheadL n) n 1 0 w' (date_first n h1 (by omega)) (hT.below hb))
  have HP := Lib.hid (fun (w' : World) (hb : Below w.heap.size w w') => of_ok (aheadL n + 59) n 29 1 w' (date_leap n h1 (by omega) hl) (hT.below hb))
  have HZ := Lib.hid (fun (w' : World) => year_ok (n + 1) w' (by omega) (by omega))
  have hs := aheadL_succ n
  rw [cumL_12, if_pos hl] at hs
  have a1 := aheadL_mono (y := 1) (z := n) h1
  have a2 := aheadL_mono (y := n + 1) (z := 10000) (by omega)
  rw [aheadL_one] at a1
  rw [aheadL_top] at a2
  have e1 : decide (n < 1) = false := decide_eq_false (by omega)
  have e2 : decide (9999 < n) = false := decide_eq_false (by omega)
  have hen := fun w => eql_nil (E 0) w
  obtain ⟨a, ha⟩ : ∃ a, aheadL n = a := ⟨_, rfl⟩
  obtain ⟨b, hb9⟩ : ∃ b, aheadL (n + 1) = b := ⟨_, rfl⟩
  obtain ⟨c, hc9⟩ : ∃ c, aheadL (n + 1 + 1) = c := ⟨_, rfl⟩
  rw [ha, hb9] at hs
  rw [ha] at a1 HY HO HP
  rw [hb9] at a2 HY HZ
  rw [hc9] at HZ
  subst hs
  clear ha hb9 hc9 hT hl
  go_enter Tryd.func8, Tryd.ntmps8
  go_wp2_with fail
  refine HF.out.mono ?_
  rintro e w1 ⟨rfl, hw1⟩
  go_wp2_with fail
  refine (HY.out w1).mono ?_
  rintro e w2 ⟨rfl, hb⟩
  have hw2 : Below w.heap.size w w2 := stepH hw1 hb
  have z2 := hw2.size
  clear hb
  go_wp2_with fail
  refine (HO.out _ (by (repeat' (first | with_reducible exact Below.refl _ _ | with_reducible assumption | with_reducible refine Below.drew ?_ | with_reducible refine below_drewN ?_ _ | with_reducible refine Below.setCell ?_ ?_ _ | with_reducible refine Below.alloc ?_ ?_ _ | omega | (simp; done) | (simp; omega))))).mono ?_
  rintro e w3 ⟨rfl, hb⟩
  have hw3 : Below w.heap.size w w3 := stepH (by (repeat' (first | with_reducible exact Below.refl _ _ | with_reducible assumption | with_reducible refine Below.drew ?_ | with_reducible refine below_drewN ?_ _ | with_reducible refine Below.setCell ?_ ?_ _ | with_reducible refine Below.alloc ?_ ?_ _ | omega | (simp; done) | (simp; omega)))) hb
  have SB := keepH hb (g := w2.heap.size) (blk_new rfl)
  clear hb
  go_wp2_with fail
  refine (HP.out _ hw3).mono ?_
  rintro e w4 ⟨rfl, hb⟩
  have hw4 : Below w.heap.size w w4 := stepH hw3 hb
  replace SB := keepH hb SB.out
  clear hb
  go_wp2_with fail
  refine (HZ.out _).mono ?_
  rintro e w5 ⟨rfl, hb⟩
  have hw5 : Below w.heap.size w w5 := stepH hw4 hb
  replace SB := keepH hb SB.out
  have z5 := hw5.size
  have lSB := lt_of_H SB
  have cSB := cellH SB
  have g1 : a + 366 - a = 366 := by omega
  have g2 : IntKind.i64.wrap (a + 366 - a) = 366 := by rw [IntKind.wrap_i64]; omega
  clear hb a1 a2 hen
  go_wp2_with fail
  go_ret
  exact ⟨rfl, by (repeat' (first | with_reducible exact Below.refl _ _ | with_reducible assumption | with_reducible refine Below.drew ?_ | with_reducible refine below_drewN ?_ _ | with_reducible refine Below.setCell ?_ ?_ _ | with_reducible refine Below.alloc ?_ ?_ _ | omega | (simp; done) | (simp; omega)))⟩

set_option maxRecDepth 100000 in
set_option maxHeartbeats 16000000 in
theorem dayYears_lz (n : Int) (E : Nat → Addr) (w : World) (h1 : 1 ≤ n) (h2 : n = 9999) (hl : leapB n = true) (hT : Tabs w) (hE : Env LD E w) :
    Calls Tryd.prog 8 #[.int .i64 n] w fun e w' => e = .returned (.bool true) ∧ Below w.heap.size w w' := by
  have HF := Lib.hid (first3_any w hT)
  have HY := Lib.hid (fun (w' : World) => year_ok n w' h1 (by omega))
  have HO := Lib.hid (fun (w' : World) (hb : Below w.heap.size w w') => of_ok (aheadL n) n 1 0 w' (date_first n h1 (by omega)) (hT.below hb))
  have HP := Lib.hid (fun (w' : World) (hb : Below w.heap.size w w') => of_ok (aheadL n + 59) n 29 1 w' (date_leap n h1 (by omega) hl) (hT.below hb))
  have HZ := Lib.hid (fun (w' : World) (hb : Below w.heap.size w w') => year_bad (n + 1) E w' (by omega) (hE.below hb))
  have hs := aheadL_succ n
  rw [cumL_12, if_pos hl] at hs
  have a1 := aheadL_mono (y := 1) (z := n) h1
  have a2 := aheadL_mono (y := n + 1) (z := 10000) (by omega)
  rw [aheadL_one] at a1
  rw [aheadL_top] at a2
  have e1 : decide (n < 1) = false := decide_eq_false (by omega)
  have e2 : decide (9999 < n) = false := decide_eq_false (by omega)
  have hen := fun w => eql_nil (E 0) w
  obtain ⟨a, ha⟩ : ∃ a, aheadL n = a := ⟨_, rfl⟩
  obtain ⟨b, hb9⟩ : ∃ b, aheadL (n + 1) = b := ⟨_, rfl⟩
  obtain ⟨c, hc9⟩ : ∃ c, aheadL (n + 1 + 1) = c := ⟨_, rfl⟩
  rw [ha, hb9] at hs
  rw [ha] at a1 HY HO HP
  rw [hb9] at a2 HY 
  skip
  subst hs
  have h3 : 9999 ≤ n := by omega
  have h4 : n ≤ 9999 := by omega
  clear h2 ha hb9 hc9 hE hT hl
  go_enter Tryd.func8, Tryd.ntmps8
  go_wp2_with fail
  refine HF.out.mono ?_
  rintro e w1 ⟨rfl, hw1⟩
  go_wp2_with fail
  refine (HY.out w1).mono ?_
  rintro e w2 ⟨rfl, hb⟩
  have hw2 : Below w.heap.size w w2 := stepH hw1 hb
  have z2 := hw2.size
  clear hb
  go_wp2_with fail
  refine (HO.out _ (by (repeat' (first | with_reducible exact Below.refl _ _ | with_reducible assumption | with_reducible refine Below.drew ?_ | with_reducible refine below_drewN ?_ _ | with_reducible refine Below.setCell ?_ ?_ _ | with_reducible refine Below.alloc ?_ ?_ _ | omega | (simp; done) | (simp; omega))))).mono ?_
  rintro e w3 ⟨rfl, hb⟩
  have hw3 : Below w.heap.size w w3 := stepH (by (repeat' (first | with_reducible exact Below.refl _ _ | with_reducible assumption | with_reducible refine Below.drew ?_ | with_reducible refine below_drewN ?_ _ | with_reducible refine Below.setCell ?_ ?_ _ | with_reducible refine Below.alloc ?_ ?_ _ | omega | (simp; done) | (simp; omega)))) hb
  have SB := keepH hb (g := w2.heap.size) (blk_new rfl)
  clear hb
  go_wp2_with fail
  refine (HP.out _ hw3).mono ?_
  rintro e w4 ⟨rfl, hb⟩
  have hw4 : Below w.heap.size w w4 := stepH hw3 hb
  replace SB := keepH hb SB.out
  clear hb
  go_wp2_with fail
  refine (HZ.out _ hw4).mono ?_
  rintro e w5 ⟨rfl, hb⟩
  have hw5 : Below w.heap.size w w5 := stepH hw4 hb
  replace SB := keepH hb SB.out
  have z5 := hw5.size
  have lSB := lt_of_H SB
  have cSB := cellH SB
  have g1 : a + 366 - a = 366 := by omega
  have g2 : IntKind.i64.wrap (a + 366 - a) = 366 := by rw [IntKind.wrap_i64]; omega
  clear hb a1 a2
  go_wp2_with fail
  go_ret
  exact ⟨rfl, by (repeat' (first | with_reducible exact Below.refl _ _ | with_reducible assumption | with_reducible refine Below.drew ?_ | with_reducible refine below_drewN ?_ _ | with_reducible refine Below.setCell ?_ ?_ _ | with_reducible refine Below.alloc ?_ ?_ _ | omega | (simp; done) | (simp; omega)))⟩

set_option maxRecDepth 100000 in
set_option maxHeartbeats 16000000 in
theorem dayYears_nm (n : Int) (E : Nat → Addr) (w : World) (h1 : 1 ≤ n) (h2 : n < 9999) (hl : leapB n = false) (hT : Tabs w) (hE : Env LD E w) :
    Calls Tryd.prog 8 #[.int .i64 n] w fun e w' => e = .returned (.bool true) ∧ Below w.heap.size w w' := by
  have HF := Lib.hid (first3_any w hT)
  have HY := Lib.hid (fun (w' : World) => year_ok n w' h1 (by omega))
  have HO := Lib.hid (fun (w' : World) (hb : Below w.heap.size w w') => of_ok (aheadL n) n 1 0 w' (date_first n h1 (by omega)) (hT.below hb))
  have HP := Lib.hid (fun (w' : World) (hb : Below w.heap.size w w') => of_bad n 2 29 E w' (date_noleap n hl) (hT.below hb) (hE.below hb))
  have HZ := Lib.hid (fun (w' : World) => year_ok (n + 1) w' (by omega) (by omega))
  have hs := aheadL_succ n
  rw [cumL_12, if_neg (by rw [hl]; decide)] at hs
  have a1 := aheadL_mono (y := 1) (z := n) h1
  have a2 := aheadL_mono (y := n + 1) (z := 10000) (by omega)
  rw [aheadL_one] at a1
  rw [aheadL_top] at a2
  have e1 : decide (n < 1) = false := decide_eq_false (by omega)
  have e2 : decide (9999 < n) = false := decide_eq_false (by omega)
  have hen := fun w => eql_nil (E 0) w
  obtain ⟨a, ha⟩ : ∃ a, aheadL n = a := ⟨_, rfl⟩
  obtain ⟨b, hb9⟩ : ∃ b, aheadL (n + 1) = b := ⟨_, rfl⟩
  obtain ⟨c, hc9⟩ : ∃ c, aheadL (n + 1 + 1) = c := ⟨_, rfl⟩
  rw [ha, hb9] at hs
  rw [ha] at a1 HY HO 
  rw [hb9] at a2 HY HZ
  rw [hc9] at HZ
  subst hs
  clear ha hb9 hc9 hE hT hl
  go_enter Tryd.func8, Tryd.ntmps8
  go_wp2_with fail
  refine HF.out.mono ?_
  rintro e w1 ⟨rfl, hw1⟩
  go_wp2_with fail
  refine (HY.out w1).mono ?_
  rintro e w2 ⟨rfl, hb⟩
  have hw2 : Below w.heap.size w w2 := stepH hw1 hb
  have z2 := hw2.size
  clear hb
  go_wp2_with fail
  refine (HO.out _ (by (repeat' (first | with_reducible exact Below.refl _ _ | with_reducible assumption | with_reducible refine Below.drew ?_ | with_reducible refine below_drewN ?_ _ | with_reducible refine Below.setCell ?_ ?_ _ | with_reducible refine Below.alloc ?_ ?_ _ | omega | (simp; done) | (simp; omega))))).mono ?_
  rintro e w3 ⟨rfl, hb⟩
  have hw3 : Below w.heap.size w w3 := stepH (by (repeat' (first | with_reducible exact Below.refl _ _ | with_reducible assumption | with_reducible refine Below.drew ?_ | with_reducible refine below_drewN ?_ _ | with_reducible refine Below.setCell ?_ ?_ _ | with_reducible refine Below.alloc ?_ ?_ _ | omega | (simp; done) | (simp; omega)))) hb
  have SB := keepH hb (g := w2.heap.size) (blk_new rfl)
  clear hb
  go_wp2_with fail
  refine (HP.out _ hw3).mono ?_
  rintro e w4 ⟨rfl, hb⟩
  have hw4 : Below w.heap.size w w4 := stepH hw3 hb
  replace SB := keepH hb SB.out
  clear hb
  go_wp2_with fail
  refine (HZ.out _).mono ?_
  rintro e w5 ⟨rfl, hb⟩
  have hw5 : Below w.heap.size w w5 := stepH hw4 hb
  replace SB := keepH hb SB.out
  have z5 := hw5.size
  have lSB := lt_of_H SB
  have cSB := cellH SB
  have g1 : a + 365 - a = 365 := by omega
  have g2 : IntKind.i64.wrap (a + 365 - a) = 365 := by rw [IntKind.wrap_i64]; omega
  clear hb a1 a2
  go_wp2_with fail
  go_ret
  exact ⟨rfl, by (repeat' (first | with_reducible exact Below.refl _ _ | with_reducible assumption | with_reducible refine Below.drew ?_ | with_reducible refine below_drewN ?_ _ | with_reducible refine Below.setCell ?_ ?_ _ | with_reducible refine Below.alloc ?_ ?_ _ | omega | (simp; done) | (simp; omega)))⟩

set_option maxRecDepth 100000 in
set_option maxHeartbeats 16000000 in
theorem dayYears_nz (n : Int) (E : Nat → Addr) (w : World) (h1 : 1 ≤ n) (h2 : n = 9999) (hl : leapB n = false) (hT : Tabs w) (hE : Env LD E w) :
    Calls Tryd.prog 8 #[.int .i64 n] w fun e w' => e = .returned (.bool true) ∧ Below w.heap.size w w' := by
  have HF := Lib.hid (first3_any w hT)
  have HY := Lib.hid (fun (w' : World) => year_ok n w' h1 (by omega))
  have HO := Lib.hid (fun (w' : World) (hb : Below w.heap.size w w') => of_ok (aheadL n) n 1 0 w' (date_first n h1 (by omega)) (hT.below hb))
  have HP := Lib.hid (fun (w' : World) (hb : Below w.heap.size w w') => of_bad n 2 29 E w' (date_noleap n hl) (hT.below hb) (hE.below hb))
  have HZ := Lib.hid (fun (w' : World) (hb : Below w.heap.size w w') => year_bad (n + 1) E w' (by omega) (hE.below hb))
  have hs := aheadL_succ n
  rw [cumL_12, if_neg (by rw [hl]; decide)] at hs
  have a1 := aheadL_mono (y := 1) (z := n) h1
  have a2 := aheadL_mono (y := n + 1) (z := 10000) (by omega)
  rw [aheadL_one] at a1
  rw [aheadL_top] at a2
  have e1 : decide (n < 1) = false := decide_eq_false (by omega)
  have e2 : decide (9999 < n) = false := decide_eq_false (by omega)
  have hen := fun w => eql_nil (E 0) w
  obtain ⟨a, ha⟩ : ∃ a, aheadL n = a := ⟨_, rfl⟩
  obtain ⟨b, hb9⟩ : ∃ b, aheadL (n + 1) = b := ⟨_, rfl⟩
  obtain ⟨c, hc9⟩ : ∃ c, aheadL (n + 1 + 1) = c := ⟨_, rfl⟩
  rw [ha, hb9] at hs
  rw [ha] at a1 HY HO 
  rw [hb9] at a2 HY 
  skip
  subst hs
  have h3 : 9999 ≤ n := by omega
  have h4 : n ≤ 9999 := by omega
  clear h2 ha hb9 hc9 hE hT hl
  go_enter Tryd.func8, Tryd.ntmps8
  go_wp2_with fail
  refine HF.out.mono ?_
  rintro e w1 ⟨rfl, hw1⟩
  go_wp2_with fail
  refine (HY.out w1).mono ?_
  rintro e w2 ⟨rfl, hb⟩
  have hw2 : Below w.heap.size w w2 := stepH hw1 hb
  have z2 := hw2.size
  clear hb
  go_wp2_with fail
  refine (HO.out _ (by (repeat' (first | with_reducible exact Below.refl _ _ | with_reducible assumption | with_reducible refine Below.drew ?_ | with_reducible refine below_drewN ?_ _ | with_reducible refine Below.setCell ?_ ?_ _ | with_reducible refine Below.alloc ?_ ?_ _ | omega | (simp; done) | (simp; omega))))).mono ?_
  rintro e w3 ⟨rfl, hb⟩
  have hw3 : Below w.heap.size w w3 := stepH (by (repeat' (first | with_reducible exact Below.refl _ _ | with_reducible assumption | with_reducible refine Below.drew ?_ | with_reducible refine below_drewN ?_ _ | with_reducible refine Below.setCell ?_ ?_ _ | with_reducible refine Below.alloc ?_ ?_ _ | omega | (simp; done) | (simp; omega)))) hb
  have SB := keepH hb (g := w2.heap.size) (blk_new rfl)
  clear hb
  go_wp2_with fail
  refine (HP.out _ hw3).mono ?_
  rintro e w4 ⟨rfl, hb⟩
  have hw4 : Below w.heap.size w w4 := stepH hw3 hb
  replace SB := keepH hb SB.out
  clear hb
  go_wp2_with fail
  refine (HZ.out _ hw4).mono ?_
  rintro e w5 ⟨rfl, hb⟩
  have hw5 : Below w.heap.size w w5 := stepH hw4 hb
  replace SB := keepH hb SB.out
  have z5 := hw5.size
  have lSB := lt_of_H SB
  have cSB := cellH SB
  have g1 : a + 365 - a = 365 := by omega
  have g2 : IntKind.i64.wrap (a + 365 - a) = 365 := by rw [IntKind.wrap_i64]; omega
  clear hb a1 a2
  go_wp2_with fail
  go_ret
  exact ⟨rfl, by (repeat' (first | with_reducible exact Below.refl _ _ | with_reducible assumption | with_reducible refine Below.drew ?_ | with_reducible refine below_drewN ?_ _ | with_reducible refine Below.setCell ?_ ?_ _ | with_reducible refine Below.alloc ?_ ?_ _ | omega | (simp; done) | (simp; omega)))⟩

theorem dayYears_walk (n : Int) (E : Nat → Addr) (w : World) (hT : Tabs w) (hE : Env LD E w) :
    Calls Tryd.prog 8 #[.int .i64 n] w fun e w' => e = .returned (.bool true) ∧ Below w.heap.size w w' := by
  by_cases h : 1 ≤ n ∧ n ≤ 9999
  · by_cases h9 : n = 9999
    · cases hl : leapB n with
      | true => exact dayYears_lz n E w h.1 h9 hl hT hE
      | false => exact dayYears_nz n E w h.1 h9 hl hT hE
    · cases hl : leapB n with
      | true => exact dayYears_lm n E w h.1 (by omega) hl hT
      | false => exact dayYears_nm n E w h.1 (by omega) hl hT hE
  · exact dayYears_bad n E w h hT hE

end Go.Proofs.YthgdjocoiniphaaDoor
