/- ask, zero, Min of two: walks. -/
import Derived.Test.YtmankldedhgdiaaDoorScaleA
namespace Go.Proofs.YtmankldedhgdiaaDoor
open Go.RowKit

/-- what is wrong with a scale and an amount -/
def askE (s : List BI) (n d : Int) : Option Nat :=
  match scaleE s with
  | some g => some g
  | none => if validB n d = false then some 3 else none

theorem askE_some {s : List BI} {n d : Int} {g : Nat} (h : scaleE s = some g) : askE s n d = some g := by unfold askE; rw [h]

theorem askE_frac {s : List BI} {n d : Int} (h : scaleE s = none) (hv : validB n d = false) : askE s n d = some 3 := by unfold askE; rw [h]; show (if _ then _ else _) = _; rw [if_pos hv]

theorem askE_ok {s : List BI} {n d : Int} (h : scaleE s = none) (hv : validB n d = true) : askE s n d = none := by unfold askE; rw [h]; show (if _ then _ else _) = _; rw [if_neg (by rw [hv]; simp)]

theorem askE_none {s : List BI} {n d : Int} (h : askE s n d = none) : scaleE s = none ∧ validB n d = true := by
  unfold askE at h
  split at h
  · cases h
  · rename_i h1
    split at h
    · cases h
    · rename_i h2; exact ⟨h1, eq_true_of_ne_false h2⟩

set_option maxHeartbeats 2000000 in
theorem ask15_any (s : List BI) (A : Option Addr) (c : Nat) (n d : Int) (E : Nat → Addr) (w : World) (hl : RowAt encR 4 w w.heap.size A s) (hm : s.length ≤ 9223372036854775807) (hI : ∀ b ∈ s, In4 b) (Bn : -9223372036854775808 ≤ n ∧ n ≤ 9223372036854775807) (Bd : -9223372036854775808 ≤ d ∧ d ≤ 9223372036854775807) (hE : Env LC E w) :
    Calls Tryd.prog 30 #[.slice A s.length c, .agg #[.int .i64 n, .int .i64 d]] w fun e w' => e = .returned (errV E (askE s n d)) ∧ Below w.heap.size w w' := by
  obtain ⟨n1, n2⟩ := Bn
  obtain ⟨d1, d2⟩ := Bd
  have HL := Lib.hid hl
  have HI := Lib.hid hI
  have HE := Lib.hid hE
  clear hl hI hE
  have HV := Lib.hid (fun w' (h : Below w.heap.size w w') => valid15_any s A c E w' ((HL.out.below h (Nat.le_refl _)).more h.size) hm HI.out (HE.out.below h))
  clear HL HI
  cases hs : scaleE s
  · have HS := Lib.hid hs
    clear hs
    cases hv : validB n d
    · have HVV := Lib.hid hv
      clear hv
      go_enter Tryd.func30, Tryd.ntmps30
      go_wp2_with fail
      refine (HV.out _ (by (repeat' (first | with_reducible exact Below.refl _ _ | with_reducible assumption | with_reducible refine Below.drew ?_ | with_reducible refine below_drewN ?_ _ | with_reducible refine Below.setCell ?_ ?_ _ | with_reducible refine Below.alloc ?_ ?_ _ | omega | (simp; done) | (simp; omega))))).mono ?_
      rintro e w1 ⟨rfl, hb1⟩
      have hw1 : Below w.heap.size w w1 := stepH (by (repeat' (first | with_reducible exact Below.refl _ _ | with_reducible assumption | with_reducible refine Below.drew ?_ | with_reducible refine below_drewN ?_ _ | with_reducible refine Below.setCell ?_ ?_ _ | with_reducible refine Below.alloc ?_ ?_ _ | omega | (simp; done) | (simp; omega)))) hb1
      rw [HS.out]
      unfold errV
      have X := keepH hb1 (g := w.heap.size) (blk_new rfl)
      have z1 := hw1.size
      clear hb1
      have cX := cellH X
      obtain ⟨lX, lX1, lX2⟩ := ltH X
      go_wp2_with fail
      refine (valid_is n d false _ HVV.out (by omega) (by omega) (by omega) (by omega)).mono ?_
      rintro e w2 ⟨rfl, hb2⟩
      have hw2 : Below w.heap.size w w2 := stepH (by (repeat' (first | with_reducible exact Below.refl _ _ | with_reducible assumption | with_reducible refine Below.drew ?_ | with_reducible refine below_drewN ?_ _ | with_reducible refine Below.setCell ?_ ?_ _ | with_reducible refine Below.alloc ?_ ?_ _ | omega | (simp; done) | (simp; omega)))) hb2
      replace X := keepH hb2 X.out
      have z2 := hw2.size
      clear hb2 hw1 z1
      clear cX lX lX1 lX2
      have cX := cellH X
      obtain ⟨lX, lX1, lX2⟩ := ltH X
      have hc' := (HE.out.below hw2).cell 3 (by decide)
      go_wp2_with fail
      go_ret
      exact ⟨errV_some (askE_frac HS.out HVV.out), by (repeat' (first | with_reducible exact Below.refl _ _ | with_reducible assumption | with_reducible refine Below.drew ?_ | with_reducible refine below_drewN ?_ _ | with_reducible refine Below.setCell ?_ ?_ _ | with_reducible refine Below.alloc ?_ ?_ _ | omega | (simp; done) | (simp; omega)))⟩
    · have HVV := Lib.hid hv
      clear hv
      go_enter Tryd.func30, Tryd.ntmps30
      go_wp2_with fail
      refine (HV.out _ (by (repeat' (first | with_reducible exact Below.refl _ _ | with_reducible assumption | with_reducible refine Below.drew ?_ | with_reducible refine below_drewN ?_ _ | with_reducible refine Below.setCell ?_ ?_ _ | with_reducible refine Below.alloc ?_ ?_ _ | omega | (simp; done) | (simp; omega))))).mono ?_
      rintro e w3 ⟨rfl, hb3⟩
      have hw3 : Below w.heap.size w w3 := stepH (by (repeat' (first | with_reducible exact Below.refl _ _ | with_reducible assumption | with_reducible refine Below.drew ?_ | with_reducible refine below_drewN ?_ _ | with_reducible refine Below.setCell ?_ ?_ _ | with_reducible refine Below.alloc ?_ ?_ _ | omega | (simp; done) | (simp; omega)))) hb3
      rw [HS.out]
      unfold errV
      have X := keepH hb3 (g := w.heap.size) (blk_new rfl)
      have z3 := hw3.size
      clear hb3
      have cX := cellH X
      obtain ⟨lX, lX1, lX2⟩ := ltH X
      go_wp2_with fail
      refine (valid_is n d true _ HVV.out (by omega) (by omega) (by omega) (by omega)).mono ?_
      rintro e w4 ⟨rfl, hb4⟩
      have hw4 : Below w.heap.size w w4 := stepH (by (repeat' (first | with_reducible exact Below.refl _ _ | with_reducible assumption | with_reducible refine Below.drew ?_ | with_reducible refine below_drewN ?_ _ | with_reducible refine Below.setCell ?_ ?_ _ | with_reducible refine Below.alloc ?_ ?_ _ | omega | (simp; done) | (simp; omega)))) hb4
      replace X := keepH hb4 X.out
      have z4 := hw4.size
      clear hb4 hw3 z3
      clear cX lX lX1 lX2
      have cX := cellH X
      obtain ⟨lX, lX1, lX2⟩ := ltH X
      go_wp2_with fail
      go_ret
      exact ⟨errV_none (askE_ok HS.out HVV.out), by (repeat' (first | with_reducible exact Below.refl _ _ | with_reducible assumption | with_reducible refine Below.drew ?_ | with_reducible refine below_drewN ?_ _ | with_reducible refine Below.setCell ?_ ?_ _ | with_reducible refine Below.alloc ?_ ?_ _ | omega | (simp; done) | (simp; omega)))⟩
  · rename_i g
    have HS := Lib.hid hs
    clear hs
    have hen := fun w => eql_nil (E g) w
    go_enter Tryd.func30, Tryd.ntmps30
    go_wp2_with fail
    refine (HV.out _ (by (repeat' (first | with_reducible exact Below.refl _ _ | with_reducible assumption | with_reducible refine Below.drew ?_ | with_reducible refine below_drewN ?_ _ | with_reducible refine Below.setCell ?_ ?_ _ | with_reducible refine Below.alloc ?_ ?_ _ | omega | (simp; done) | (simp; omega))))).mono ?_
    rintro e w5 ⟨rfl, hb5⟩
    have hw5 : Below w.heap.size w w5 := stepH (by (repeat' (first | with_reducible exact Below.refl _ _ | with_reducible assumption | with_reducible refine Below.drew ?_ | with_reducible refine below_drewN ?_ _ | with_reducible refine Below.setCell ?_ ?_ _ | with_reducible refine Below.alloc ?_ ?_ _ | omega | (simp; done) | (simp; omega)))) hb5
    rw [HS.out]
    unfold errV
    have X := keepH hb5 (g := w.heap.size) (blk_new rfl)
    have z5 := hw5.size
    clear hb5
    have cX := cellH X
    obtain ⟨lX, lX1, lX2⟩ := ltH X
    go_wp2_with fail
    go_ret
    exact ⟨errV_some (askE_some HS.out), by (repeat' (first | with_reducible exact Below.refl _ _ | with_reducible assumption | with_reducible refine Below.drew ?_ | with_reducible refine below_drewN ?_ _ | with_reducible refine Below.setCell ?_ ?_ _ | with_reducible refine Below.alloc ?_ ?_ _ | omega | (simp; done) | (simp; omega)))⟩

theorem zero15_any (w : World) : Calls Tryd.prog 42 #[] w fun e w' => e = .returned (.agg #[.int .i64 0, .int .i64 1]) ∧ Below w.heap.size w w' := by
  go_enter Tryd.func42, Tryd.ntmps42
  go_wp2
  refine bodyPost_ret (v := .agg #[.int .i64 0, .int .i64 1]) (by simp [results, Tryd.results42, go_sem]) rfl ⟨rfl, by (repeat' (first | with_reducible exact Below.refl _ _ | with_reducible assumption | with_reducible refine Below.drew ?_ | with_reducible refine below_drewN ?_ _ | with_reducible refine Below.setCell ?_ ?_ _ | with_reducible refine Below.alloc ?_ ?_ _ | omega | (simp; done) | (simp; omega)))⟩

/-- two fractions' cells -/
theorem cells22 {w : World} {B : Nat} {A : Option Addr} {x y : Rat} (h : RowAt encF 2 w B A [fq x, fq y]) : ∃ g off, A = some ⟨g, off, none⟩ ∧ g < B ∧
    w.cell? ⟨g, off, none⟩ = some (.int .i64 x.num) ∧ w.cell? ⟨g, off + 1, none⟩ = some (.int .i64 x.den) ∧ w.cell? ⟨g, off + 2, none⟩ = some (.int .i64 y.num) ∧ w.cell? ⟨g, off + 2 + 1, none⟩ = some (.int .i64 y.den) := by
  obtain ⟨g, off, rfl, hg, hc⟩ := h 0 _ rfl
  obtain ⟨g', off', e, _, hc'⟩ := h 1 _ rfl
  injection e with e
  injection e with e1 e2
  subst e1 e2
  refine ⟨g, off, rfl, hg, ?_, ?_, ?_, ?_⟩
  · have := hc 0 _ rfl; simpa [fq] using this
  · have := hc 1 _ rfl; simpa [fq] using this
  · have := hc' 0 _ rfl; simpa [fq] using this
  · have := hc' 1 _ rfl; simpa [fq] using this

def minQ (x y : Rat) : Rat := if y < x then y else x

/-- which of the two is the least -/
def minI (x y : Rat) : Int := if y < x then 1 else 0

set_option maxRecDepth 10000 in
set_option maxHeartbeats 4000000 in
theorem best2_any (x y : Rat) (A : Option Addr) (c : Nat) (w : World) (hx : Good x) (hy : Good y) (hl : RowAt encF 2 w w.heap.size A [fq x, fq y]) :
    Calls Tryd.prog 66 #[.int .i64 (-1), .slice A 2 c] w fun e w' => e = .returned (.tuple #[.agg #[.int .i64 (minQ x y).num, .int .i64 (minQ x y).den], .int .i64 (minI x y)]) ∧ Below w.heap.size w w' := by
  obtain ⟨g, off, rfl, hg, k0, k1, k2, k3⟩ := cells22 hl
  have HX := Lib.hid hx
  have HY := Lib.hid hy
  have K0 := Lib.hid k0
  have K1 := Lib.hid k1
  have K2 := Lib.hid k2
  have K3 := Lib.hid k3
  clear hx hy hl k0 k1 k2 k3
  obtain ⟨m, hm⟩ : ∃ m : Nat, m = if y < x then 1 else 0 := ⟨_, rfl⟩
  have HM := Lib.hid hm
  have hm1 : m ≤ 1 := by rw [hm]; split <;> omega
  clear hm
  go_enter Tryd.func66, Tryd.ntmps66
  go_wp2_with fail
  go_loopw [6, 15] (fun a i wr => ∃ k j : Nat, k ≤ 2 ∧ i = .int .i64 k ∧ a = .int .i64 j ∧ j ≤ 1 ∧ (k ≤ 1 → j = 0) ∧ (k = 2 → j = m) ∧ Hid (wr.heap[w.heap.size]? = some (.cells #[.int .i64 0, .int .i64 0] 24 (0, 0))) ∧ Below w.heap.size w wr) (fun _ i _ => 2 - (intOf i).toNat)
  case atStart => exact ⟨0, 0, by omega, rfl, rfl, by omega, (fun _ => rfl), (fun h => by omega), newH, by (repeat' (first | with_reducible exact Below.refl _ _ | with_reducible assumption | with_reducible refine Below.drew ?_ | with_reducible refine below_drewN ?_ _ | with_reducible refine Below.setCell ?_ ?_ _ | with_reducible refine Below.alloc ?_ ?_ _ | omega | (simp; done) | (simp; omega)))⟩
  case round =>
    obtain ⟨k, j, hk, rfl, rfl, hj, hj1, hj2, R, hw0⟩ := hrel
    have z0 := hw0.size
    have lR := lt_of_H R
    have three : k = 0 ∨ k = 1 ∨ k = 2 := by omega
    rcases three with rfl | rfl | rfl
    · obtain rfl : j = 0 := hj1 (by omega)
      clear hj1 hj2
      have c0 : wr.cell? ⟨g, off, none⟩ = some (.int .i64 x.num) := (hw0.cell (p := ⟨g, _, none⟩) hg).trans K0.out
      have c1 : wr.cell? ⟨g, off + 1, none⟩ = some (.int .i64 x.den) := (hw0.cell (p := ⟨g, _, none⟩) hg).trans K1.out
      have c2 : wr.cell? ⟨g, off + 2, none⟩ = some (.int .i64 y.num) := (hw0.cell (p := ⟨g, _, none⟩) hg).trans K2.out
      have c3 : wr.cell? ⟨g, off + 2 + 1, none⟩ = some (.int .i64 y.den) := (hw0.cell (p := ⟨g, _, none⟩) hg).trans K3.out
      have neG : g < wr.heap.size := by omega
      have lR : w.heap.size < wr.heap.size := lt_of_H R
      go_wp2_with fail
      have x0 : (wr.alloc (.cells #[.int .i64 x.num, .int .i64 x.den] 24)).cell? ⟨wr.heap.size, 0, none⟩ = some (.int .i64 x.num) := cellH newH 0
      have x1 : (wr.alloc (.cells #[.int .i64 x.num, .int .i64 x.den] 24)).cell? ⟨wr.heap.size, 1, none⟩ = some (.int .i64 x.den) := cellH newH 1
      have y0 : (wr.alloc (.cells #[.int .i64 x.num, .int .i64 x.den] 24)).cell? ⟨g, off, none⟩ = some (.int .i64 x.num) := cell_alloc c0
      have y1 : (wr.alloc (.cells #[.int .i64 x.num, .int .i64 x.den] 24)).cell? ⟨g, off + 1, none⟩ = some (.int .i64 x.den) := cell_alloc c1
      go_region_held3 (fun w' => w'.cell? ⟨g, off, none⟩ = some (.int .i64 x.num) ∧ w'.cell? ⟨g, off + 1, none⟩ = some (.int .i64 x.den) ∧ w'.cell? ⟨wr.heap.size, 0, none⟩ = some (.int .i64 x.num) ∧ w'.cell? ⟨wr.heap.size, 1, none⟩ = some (.int .i64 x.den)) (first | exact ⟨y0, y1, x0, x1⟩ | go_keep)
        (first | (go_at_call 43; refine (cmpS x x 0 _ HX.out HX.out (cmp_eq x)).mono ?_; rintro e w9 ⟨rfl, hb9⟩; have hw9 : Below w.heap.size w w9 := stepH (by (repeat' (first | with_reducible exact Below.refl _ _ | with_reducible assumption | with_reducible refine Below.drew ?_ | with_reducible refine below_drewN ?_ _ | with_reducible refine Below.setCell ?_ ?_ _ | with_reducible refine Below.alloc ?_ ?_ _ | omega | (simp; done) | (simp; omega)))) hb9; have R9 := keepH hb9 (drew_old (blk_old R.out)); have x0 := (hb9.cell (p := ⟨wr.heap.size, 0, none⟩) (by show wr.heap.size < _; simp)).trans x0; have x1 := (hb9.cell (p := ⟨wr.heap.size, 1, none⟩) (by show wr.heap.size < _; simp)).trans x1; have y0 := (hb9.cell (p := ⟨g, off, none⟩) (by show g < _; simp; omega)).trans y0; have y1 := (hb9.cell (p := ⟨g, off + 1, none⟩) (by show g < _; simp; omega)).trans y1))
      go_wp2_with fail
      go_roundw
      case rel => exact ⟨1, 0, by omega, rfl, rfl, by omega, (fun h => rfl), (fun h => by omega), R9, by (repeat' (first | with_reducible exact Below.refl _ _ | with_reducible assumption | with_reducible refine Below.drew ?_ | with_reducible refine below_drewN ?_ _ | with_reducible refine Below.setCell ?_ ?_ _ | with_reducible refine Below.alloc ?_ ?_ _ | omega | (simp; done) | (simp; omega)))⟩
      case measure => simp [intOf]
    · obtain rfl : j = 0 := hj1 (by omega)
      clear hj1 hj2
      obtain ⟨cc, hcc⟩ : ∃ cc, cmpQ y x = cc := ⟨_, rfl⟩
      have HC := Lib.hid hcc
      have hor : (y < x ∧ cc = -1 ∧ m = 1) ∨ (¬ y < x ∧ 0 ≤ cc ∧ cc ≤ 1 ∧ m = 0) := by
        by_cases h : y < x
        · exact .inl ⟨h, by rw [← hcc]; exact cmp_lt h, by rw [HM.out, if_pos h]⟩
        · exact .inr ⟨h, by rw [← hcc]; exact cmp_ge h, by rw [← hcc]; unfold cmpQ; split <;> (try split) <;> omega, by rw [HM.out, if_neg h]⟩
      clear hcc
      have c0 : wr.cell? ⟨g, off, none⟩ = some (.int .i64 x.num) := (hw0.cell (p := ⟨g, _, none⟩) hg).trans K0.out
      have c1 : wr.cell? ⟨g, off + 1, none⟩ = some (.int .i64 x.den) := (hw0.cell (p := ⟨g, _, none⟩) hg).trans K1.out
      have c2 : wr.cell? ⟨g, off + 2, none⟩ = some (.int .i64 y.num) := (hw0.cell (p := ⟨g, _, none⟩) hg).trans K2.out
      have c3 : wr.cell? ⟨g, off + 2 + 1, none⟩ = some (.int .i64 y.den) := (hw0.cell (p := ⟨g, _, none⟩) hg).trans K3.out
      have neG : g < wr.heap.size := by omega
      have lR : w.heap.size < wr.heap.size := lt_of_H R
      go_wp2_with fail
      have x0 : (wr.alloc (.cells #[.int .i64 y.num, .int .i64 y.den] 24)).cell? ⟨wr.heap.size, 0, none⟩ = some (.int .i64 y.num) := cellH newH 0
      have x1 : (wr.alloc (.cells #[.int .i64 y.num, .int .i64 y.den] 24)).cell? ⟨wr.heap.size, 1, none⟩ = some (.int .i64 y.den) := cellH newH 1
      have y0 : (wr.alloc (.cells #[.int .i64 y.num, .int .i64 y.den] 24)).cell? ⟨g, off, none⟩ = some (.int .i64 x.num) := cell_alloc c0
      have y1 : (wr.alloc (.cells #[.int .i64 y.num, .int .i64 y.den] 24)).cell? ⟨g, off + 1, none⟩ = some (.int .i64 x.den) := cell_alloc c1
      go_region_held3 (fun w' => w'.cell? ⟨g, off, none⟩ = some (.int .i64 x.num) ∧ w'.cell? ⟨g, off + 1, none⟩ = some (.int .i64 x.den) ∧ w'.cell? ⟨wr.heap.size, 0, none⟩ = some (.int .i64 y.num) ∧ w'.cell? ⟨wr.heap.size, 1, none⟩ = some (.int .i64 y.den)) (first | exact ⟨y0, y1, x0, x1⟩ | go_keep)
        (first | (go_at_call 43; refine (cmpS y x cc _ HY.out HX.out HC.out).mono ?_; rintro e w9 ⟨rfl, hb9⟩; have hw9 : Below w.heap.size w w9 := stepH (by (repeat' (first | with_reducible exact Below.refl _ _ | with_reducible assumption | with_reducible refine Below.drew ?_ | with_reducible refine below_drewN ?_ _ | with_reducible refine Below.setCell ?_ ?_ _ | with_reducible refine Below.alloc ?_ ?_ _ | omega | (simp; done) | (simp; omega)))) hb9; have R9 := keepH hb9 (drew_old (blk_old R.out)); have x0 := (hb9.cell (p := ⟨wr.heap.size, 0, none⟩) (by show wr.heap.size < _; simp)).trans x0; have x1 := (hb9.cell (p := ⟨wr.heap.size, 1, none⟩) (by show wr.heap.size < _; simp)).trans x1; have y0 := (hb9.cell (p := ⟨g, off, none⟩) (by show g < _; simp; omega)).trans y0; have y1 := (hb9.cell (p := ⟨g, off + 1, none⟩) (by show g < _; simp; omega)).trans y1))
      rcases hor with ⟨h, rfl, rfl⟩ | ⟨h, h1, h2, rfl⟩
      · clear h
        go_wp2_with fail
        go_roundw
        case rel => exact ⟨2, 1, by omega, rfl, rfl, by omega, (fun h => by omega), (fun h => rfl), R9, by (repeat' (first | with_reducible exact Below.refl _ _ | with_reducible assumption | with_reducible refine Below.drew ?_ | with_reducible refine below_drewN ?_ _ | with_reducible refine Below.setCell ?_ ?_ _ | with_reducible refine Below.alloc ?_ ?_ _ | omega | (simp; done) | (simp; omega)))⟩
        case measure => simp [intOf]
      · clear h
        have h3 : cc = 0 ∨ cc = 1 := by omega
        rcases h3 with rfl | rfl
        all_goals
          go_wp2_with fail
          go_roundw
          case rel => exact ⟨2, 0, by omega, rfl, rfl, by omega, (fun h => rfl), (fun h => rfl), R9, by (repeat' (first | with_reducible exact Below.refl _ _ | with_reducible assumption | with_reducible refine Below.drew ?_ | with_reducible refine below_drewN ?_ _ | with_reducible refine Below.setCell ?_ ?_ _ | with_reducible refine Below.alloc ?_ ?_ _ | omega | (simp; done) | (simp; omega)))⟩
          case measure => simp [intOf]
    · obtain rfl : j = m := hj2 rfl
      clear hj1 hj2
      have cR := cellH R
      have fR := frozH R
      have neG : g < wr.heap.size := by omega
      have neR : w.heap.size ≠ g := by omega
      have c0 : wr.cell? ⟨g, off, none⟩ = some (.int .i64 x.num) := (hw0.cell (p := ⟨g, _, none⟩) hg).trans K0.out
      have c1 : wr.cell? ⟨g, off + 1, none⟩ = some (.int .i64 x.den) := (hw0.cell (p := ⟨g, _, none⟩) hg).trans K1.out
      have c2 : wr.cell? ⟨g, off + 2, none⟩ = some (.int .i64 y.num) := (hw0.cell (p := ⟨g, _, none⟩) hg).trans K2.out
      have c3 : wr.cell? ⟨g, off + 2 + 1, none⟩ = some (.int .i64 y.den) := (hw0.cell (p := ⟨g, _, none⟩) hg).trans K3.out
      have two : j = 0 ∨ j = 1 := by omega
      rcases two with rfl | rfl
      · have hc : ¬ y < x := fun h => by have h1 := HM.out; rw [if_pos h] at h1; omega
        have HR : Hid (minQ x y = x ∧ minI x y = 0) := ⟨by unfold minQ; rw [if_neg hc], by unfold minI; rw [if_neg hc]⟩
        clear hc
        go_wp2_with fail
        refine bodyPost_ret (v := .tuple #[.agg #[.int .i64 x.num, .int .i64 x.den], .int .i64 0]) (by simp [results, Tryd.results66, go_sem, cR]) rfl ⟨by rw [HR.out.1, HR.out.2], by (repeat' (first | with_reducible exact Below.refl _ _ | with_reducible assumption | with_reducible refine Below.drew ?_ | with_reducible refine below_drewN ?_ _ | with_reducible refine Below.setCell ?_ ?_ _ | with_reducible refine Below.alloc ?_ ?_ _ | omega | (simp; done) | (simp; omega)))⟩
      · have hc : y < x := by rcases Classical.em (y < x) with h | h; exact h; have h1 := HM.out; rw [if_neg h] at h1; omega
        have HR : Hid (minQ x y = y ∧ minI x y = 1) := ⟨by unfold minQ; rw [if_pos hc], by unfold minI; rw [if_pos hc]⟩
        clear hc
        go_wp2_with fail
        refine bodyPost_ret (v := .tuple #[.agg #[.int .i64 y.num, .int .i64 y.den], .int .i64 1]) (by simp [results, Tryd.results66, go_sem, cR]) rfl ⟨by rw [HR.out.1, HR.out.2], by (repeat' (first | with_reducible exact Below.refl _ _ | with_reducible assumption | with_reducible refine Below.drew ?_ | with_reducible refine below_drewN ?_ _ | with_reducible refine Below.setCell ?_ ?_ _ | with_reducible refine Below.alloc ?_ ?_ _ | omega | (simp; done) | (simp; omega)))⟩

set_option maxHeartbeats 1000000 in
theorem min2_any (x y : Rat) (A : Option Addr) (c : Nat) (w : World) (hx : Good x) (hy : Good y) (hl : RowAt encF 2 w w.heap.size A [fq x, fq y]) :
    Calls Tryd.prog 53 #[.slice A 2 c] w fun e w' => e = .returned (.tuple #[.agg #[.int .i64 (minQ x y).num, .int .i64 (minQ x y).den], .int .i64 (minI x y)]) ∧ Below w.heap.size w w' := by
  have HL := Lib.hid hl
  clear hl
  go_enter Tryd.func53, Tryd.ntmps53
  go_wp2_with fail
  refine (best2_any x y A c _ hx hy ((HL.out.below (by (repeat' (first | with_reducible exact Below.refl _ _ | with_reducible assumption | with_reducible refine Below.drew ?_ | with_reducible refine below_drewN ?_ _ | with_reducible refine Below.setCell ?_ ?_ _ | with_reducible refine Below.alloc ?_ ?_ _ | omega | (simp; done) | (simp; omega)))) (Nat.le_refl _)).more (by simp))).mono ?_
  rintro e w1 ⟨rfl, hb1⟩
  have hw1 : Below w.heap.size w w1 := stepH (by (repeat' (first | with_reducible exact Below.refl _ _ | with_reducible assumption | with_reducible refine Below.drew ?_ | with_reducible refine below_drewN ?_ _ | with_reducible refine Below.setCell ?_ ?_ _ | with_reducible refine Below.alloc ?_ ?_ _ | omega | (simp; done) | (simp; omega)))) hb1
  have R := keepH hb1 (g := w.heap.size) (blk_new rfl)
  have z1 := hw1.size
  clear hb1
  have cR := cellH R
  obtain ⟨lR, lR1, lR2⟩ := ltH R
  have fzR := frozH R
  go_wp2_with fail
  refine bodyPost_ret (v := .tuple #[.agg #[.int .i64 (minQ x y).num, .int .i64 (minQ x y).den], .int .i64 (minI x y)]) (by simp [results, Tryd.results53, go_sem, cR]) rfl ⟨rfl, by (repeat' (first | with_reducible exact Below.refl _ _ | with_reducible assumption | with_reducible refine Below.drew ?_ | with_reducible refine below_drewN ?_ _ | with_reducible refine Below.setCell ?_ ?_ _ | with_reducible refine Below.alloc ?_ ?_ _ | omega | (simp; done) | (simp; omega)))⟩

end Go.Proofs.YtmankldedhgdiaaDoor
