/- The walk of FracOrder. -/
import Derived.Deep.DeepCutAuto
import Derived.Test.YtbmkbhclkaopaaaDoorFracG
namespace Go.Proofs.YtbmkbhclkaopaaaDoor
open Go.RowKit

theorem resF_cases {E : Nat → Addr} {q : Rat} {n d : Int} {err : Value} (h : ResF E (goodR q) n d err) : (Good q ∧ n = q.num ∧ d = q.den ∧ err = .nilIface) ∨ (n = 0 ∧ d = 0 ∧ err = (.iface 62 (.pointer (some (E 1))))) := by
  unfold goodR at h
  by_cases hg : Good q
  · rw [if_pos hg] at h; exact .inl ⟨hg, h⟩
  · rw [if_neg hg] at h; exact .inr h
theorem cmpQ_neg (p q : Rat) : cmpQ q p = -cmpQ p q := by
  unfold cmpQ
  by_cases h1 : p < q
  · have h2 : ¬ q < p := by grind
    rw [if_neg h2, if_pos h1, if_pos h1]; rfl
  · rw [if_neg h1, if_neg h1]
    by_cases h2 : q < p
    · rw [if_pos h2, if_pos h2]
    · rw [if_neg h2, if_neg h2]; rfl
theorem cmpQ_le (p q : Rat) : cmpQ p q ≤ 0 ↔ p ≤ q := by
  unfold cmpQ
  by_cases h1 : p < q
  · rw [if_pos h1]; constructor <;> intro _ <;> grind
  · rw [if_neg h1]
    by_cases h2 : q < p
    · rw [if_pos h2]; constructor <;> intro _ <;> grind
    · rw [if_neg h2]; constructor <;> intro _ <;> grind
theorem cmpQ_bound (p q : Rat) : -1 ≤ cmpQ p q ∧ cmpQ p q ≤ 1 := by
  unfold cmpQ
  by_cases h1 : p < q
  · rw [if_pos h1]; omega
  · rw [if_neg h1]
    by_cases h2 : q < p
    · rw [if_pos h2]; omega
    · rw [if_neg h2]; omega
theorem cmpQ_zero (p q : Rat) : cmpQ p q = 0 ↔ p = q := by
  have h1 := cmpQ_le p q
  have h2 := cmpQ_le q p
  rw [cmpQ_neg p q] at h2
  constructor
  · intro h
    exact Rat.le_antisymm (h1.1 (by omega)) (h2.1 (by omega))
  · rintro rfl
    have := h1.2 Rat.le_refl
    have := h2.2 Rat.le_refl
    omega
theorem cmpQ_same {p q p' q' : Rat} (h1 : p ≤ q ↔ p' ≤ q') (h2 : q ≤ p ↔ q' ≤ p') : cmpQ p' q' = cmpQ p q := by
  unfold cmpQ
  have e1 : p' < q' ↔ p < q := by rw [← Rat.not_le, ← Rat.not_le, h2]
  have e2 : q' < p' ↔ q < p := by rw [← Rat.not_le, ← Rat.not_le, h1]
  simp only [e1, e2]
theorem cmpQ_add (p q r : Rat) : cmpQ (p + r) (q + r) = cmpQ p q := cmpQ_same (by constructor <;> intro h <;> grind) (by constructor <;> intro h <;> grind)
theorem cmpQ_mul (p q r : Rat) (h : 0 < r) : cmpQ (p * r) (q * r) = cmpQ p q :=
  cmpQ_same ⟨fun hh => Rat.mul_le_mul_of_nonneg_right hh (Rat.le_of_lt h), fun hh => Rat.le_of_mul_le_mul_right hh h⟩ ⟨fun hh => Rat.mul_le_mul_of_nonneg_right hh (Rat.le_of_lt h), fun hh => Rat.le_of_mul_le_mul_right hh h⟩
theorem same_cmp (p q : Rat) : (p.num == q.num && (p.den : Int) == (q.den : Int)) = (cmpQ p q == 0) := by
  rw [Bool.eq_iff_iff, Bool.and_eq_true, beq_iff_eq, beq_iff_eq, beq_iff_eq, cmpQ_zero]
  exact ⟨fun h => fv_inj h.1 h.2, fun h => by rw [h]; exact ⟨rfl, rfl⟩⟩
theorem num_pos (r : Rat) : 0 < r.num ↔ 0 < r := by
  have h0 := @Rat.num_nonneg r
  have h1 := @Rat.num_eq_zero r
  rw [Rat.lt_iff_le_and_ne]
  constructor
  · intro h; exact ⟨h0.1 (by omega), fun e => by rw [← e] at h; simp at h⟩
  · rintro ⟨h, hne⟩
    have := h0.2 h
    have : r.num ≠ 0 := fun e => hne (h1.1 e).symm
    omega

set_option maxRecDepth 100000 in
set_option maxHeartbeats 8000000 in
theorem fracOrder_walk (n1 d1 n2 d2 n3 d3 : Int) (E : Nat → Addr) (w : World) (ln1 : -9223372036854775808 ≤ n1) (un1 : n1 ≤ 9223372036854775807) (ld1 : -9223372036854775808 ≤ d1) (ud1 : d1 ≤ 9223372036854775807) (ln2 : -9223372036854775808 ≤ n2) (un2 : n2 ≤ 9223372036854775807) (ld2 : -9223372036854775808 ≤ d2) (ud2 : d2 ≤ 9223372036854775807) (ln3 : -9223372036854775808 ≤ n3) (un3 : n3 ≤ 9223372036854775807) (ld3 : -9223372036854775808 ≤ d3) (ud3 : d3 ≤ 9223372036854775807) (hE : Env LF E w) :
    Calls Tryd.prog 5 #[.agg #[.int .i64 n1, .int .i64 d1], .agg #[.int .i64 n2, .int .i64 d2], .agg #[.int .i64 n3, .int .i64 d3]] w fun e w' => e = .returned (.bool true) ∧ Below w.heap.size w w' := by
  have HE : Hid (Env LF E w) := hE
  clear hE
  have V := three_any n1 d1 n2 d2 n3 d3
  cases hv : (validB n1 d1 && validB n2 d2 && validB n3 d3)
  · rw [hv] at V
    clear hv
    have HV := Lib.hid V
    clear V
    go_enter Tryd.func5, Tryd.ntmps5
    go_wp2_with fail
    refine (first_any E _ (HE.out.below (by (repeat (first | exact Below.refl _ _ | assumption | refine Below.drew ?_ | refine below_drewN ?_ _ | refine Below.setCell ?_ (by first | omega | (simp; done) | (simp; omega)) _ | refine Below.alloc ?_ (by first | omega | (simp; done) | (simp; omega)) _))))).mono ?_
    rintro e w1 ⟨rfl, hb1⟩
    have hw1 : Below w.heap.size w w1 := stepH (by (repeat (first | exact Below.refl _ _ | assumption | refine Below.drew ?_ | refine below_drewN ?_ _ | refine Below.setCell ?_ (by first | omega | (simp; done) | (simp; omega)) _ | refine Below.alloc ?_ (by first | omega | (simp; done) | (simp; omega)) _))) hb1
    have A := keepH hb1 (g := w.heap.size) (blk_old (blk_old (blk_new rfl)))
    have B := keepH hb1 (g := w.heap.size + 1) (blk_old (blk_new (by simp)))
    have C := keepH hb1 (g := w.heap.size + 1 + 1) (blk_new (by simp))
    have z1 := hw1.size
    clear hb1
    have cA := cellH A
    obtain ⟨lA, lA1, lA2⟩ := ltH A
    have cB := cellH B
    obtain ⟨lB, lB1, lB2⟩ := ltH B
    have cC := cellH C
    obtain ⟨lC, lC1, lC2⟩ := ltH C
    go_wp2_with fail
    refine (HV.out _ (by omega) (by omega) (by omega) (by omega) (by omega) (by omega) (by omega) (by omega) (by omega) (by omega) (by omega) (by omega)).mono ?_
    rintro e w2 ⟨rfl, hb2⟩
    have hw2 : Below w.heap.size w w2 := stepH (by (repeat (first | exact Below.refl _ _ | assumption | refine Below.drew ?_ | refine below_drewN ?_ _ | refine Below.setCell ?_ (by first | omega | (simp; done) | (simp; omega)) _ | refine Below.alloc ?_ (by first | omega | (simp; done) | (simp; omega)) _))) hb2
    replace A := keepH hb2 A.out
    replace B := keepH hb2 B.out
    replace C := keepH hb2 C.out
    have z2 := hw2.size
    clear hb2 hw1 z1
    clear cA lA lA1 lA2 cB lB lB1 lB2 cC lC lC1 lC2
    have cA := cellH A
    obtain ⟨lA, lA1, lA2⟩ := ltH A
    have cB := cellH B
    obtain ⟨lB, lB1, lB2⟩ := ltH B
    have cC := cellH C
    obtain ⟨lC, lC1, lC2⟩ := ltH C
    go_wp2_with fail
    go_ret
    exact ⟨rfl, hw2⟩
  · rw [hv] at V
    simp only [Bool.and_eq_true] at hv
    obtain ⟨⟨h1, h2⟩, h3⟩ := hv
    obtain ⟨p, hp, rfl, rfl⟩ := good_of_validB h1
    obtain ⟨q, hq, rfl, rfl⟩ := good_of_validB h2
    obtain ⟨r, hr, rfl, rfl⟩ := good_of_validB h3
    clear h1 h2 h3
    obtain ⟨a1, a2, a3, a4⟩ := num_le hp
    obtain ⟨b1, b2, b3, b4⟩ := num_le hq
    have C1 := Lib.hid fun w => cmp_any p q w hp hq
    have C2 : Hid (∀ w, Calls Tryd.prog 14 #[.agg #[.int .i64 q.num, .int .i64 q.den], .agg #[.int .i64 p.num, .int .i64 p.den]] w fun e w' => e = .returned (.int .i64 (-cmpQ p q)) ∧ Below w.heap.size w w') := by
      rw [← cmpQ_neg]; exact fun w => cmp_any q p w hq hp
    have C3 := Lib.hid fun w => cmp_any q r w hq hr
    have C4 := Lib.hid fun w => cmp_any p r w hp hr
    have S1 : Hid (∀ w, Calls Tryd.prog 11 #[.agg #[.int .i64 p.num, .int .i64 p.den], .agg #[.int .i64 q.num, .int .i64 q.den]] w fun e w' => e = .returned (.bool (cmpQ p q == 0)) ∧ Below w.heap.size w w') := by
      rw [← same_cmp]; exact fun w => same_any _ _ _ _ w
    have NP : Good (-p) := by unfold Good; rw [Rat.neg_num, Rat.neg_den]; omega
    have NQ : Good (-q) := by unfold Good; rw [Rat.neg_num, Rat.neg_den]; omega
    have en : cmpQ (-p) (-q) = -cmpQ p q := by rw [← cmpQ_neg]; exact cmpQ_same (by constructor <;> intro h <;> grind) (by constructor <;> intro h <;> grind)
    have C5 : Hid (∀ w, Calls Tryd.prog 14 #[.agg #[.int .i64 (-p.num), .int .i64 p.den], .agg #[.int .i64 (-q.num), .int .i64 q.den]] w fun e w' => e = .returned (.int .i64 (-cmpQ p q)) ∧ Below w.heap.size w w') := by
      rw [← en]; exact fun w => cmp_any (-p) (-q) w NP NQ
    have N1 := Lib.hid fun w => neg_good p.num p.den w (by omega) (by omega)
    have N2 := Lib.hid fun w => neg_good q.num q.den w (by omega) (by omega)
    have X1 : Hid (∀ hx : Good (p + r), ∀ hy : Good (q + r), ∀ w, Calls Tryd.prog 14 #[.agg #[.int .i64 (p + r).num, .int .i64 (p + r).den], .agg #[.int .i64 (q + r).num, .int .i64 (q + r).den]] w fun e w' => e = .returned (.int .i64 (cmpQ p q)) ∧ Below w.heap.size w w') := by
      rw [← cmpQ_add p q r]; exact fun hx hy w => cmp_any _ _ w hx hy
    have X2 : Hid (∀ hx : Good (p * r), ∀ hy : Good (q * r), 0 < r.num → ∀ w, Calls Tryd.prog 14 #[.agg #[.int .i64 (p * r).num, .int .i64 (p * r).den], .agg #[.int .i64 (q * r).num, .int .i64 (q * r).den]] w fun e w' => e = .returned (.int .i64 (cmpQ p q)) ∧ Below w.heap.size w w') := by
      intro hx hy h0
      rw [← cmpQ_mul p q r ((num_pos r).1 h0)]; exact fun w => cmp_any _ _ w hx hy
    have A1 : Hid (∀ w, Env LF E w → Calls Tryd.prog 24 #[.agg #[.int .i64 p.num, .int .i64 p.den], .agg #[.int .i64 r.num, .int .i64 r.den]] w fun e w' => (∃ n d err, e = .returned (.tuple #[.agg #[.int .i64 n, .int .i64 d], err]) ∧ ResF E (goodR (p + r)) n d err) ∧ Below w.heap.size w w') := by
      have := fun w => add_any p.num p.den r.num r.den E w (by omega) (by omega) (by omega) (by omega) (by omega) (by omega) (by omega) (by omega)
      rw [opI_good _ hp hr] at this; exact this
    have A2 : Hid (∀ w, Env LF E w → Calls Tryd.prog 24 #[.agg #[.int .i64 q.num, .int .i64 q.den], .agg #[.int .i64 r.num, .int .i64 r.den]] w fun e w' => (∃ n d err, e = .returned (.tuple #[.agg #[.int .i64 n, .int .i64 d], err]) ∧ ResF E (goodR (q + r)) n d err) ∧ Below w.heap.size w w') := by
      have := fun w => add_any q.num q.den r.num r.den E w (by omega) (by omega) (by omega) (by omega) (by omega) (by omega) (by omega) (by omega)
      rw [opI_good _ hq hr] at this; exact this
    have M1 : Hid (∀ w, Env LF E w → Calls Tryd.prog 25 #[.agg #[.int .i64 p.num, .int .i64 p.den], .agg #[.int .i64 r.num, .int .i64 r.den]] w fun e w' => (∃ n d err, e = .returned (.tuple #[.agg #[.int .i64 n, .int .i64 d], err]) ∧ ResF E (goodR (p * r)) n d err) ∧ Below w.heap.size w w') := by
      have := fun w => mul_any p.num p.den r.num r.den E w (by omega) (by omega) (by omega) (by omega) (by omega) (by omega) (by omega) (by omega)
      rw [opI_good _ hp hr] at this; exact this
    have M2 : Hid (∀ w, Env LF E w → Calls Tryd.prog 25 #[.agg #[.int .i64 q.num, .int .i64 q.den], .agg #[.int .i64 r.num, .int .i64 r.den]] w fun e w' => (∃ n d err, e = .returned (.tuple #[.agg #[.int .i64 n, .int .i64 d], err]) ∧ ResF E (goodR (q * r)) n d err) ∧ Below w.heap.size w w') := by
      have := fun w => mul_any q.num q.den r.num r.den E w (by omega) (by omega) (by omega) (by omega) (by omega) (by omega) (by omega) (by omega)
      rw [opI_good _ hq hr] at this; exact this
    have TR : Hid (cmpQ p q ≤ 0 → cmpQ q r ≤ 0 → cmpQ p r ≤ 0) := fun h1 h2 => (cmpQ_le p r).2 (Rat.le_trans ((cmpQ_le p q).1 h1) ((cmpQ_le q r).1 h2))
    obtain ⟨cb1, cb2⟩ := cmpQ_bound p q
    have cb3 := cmpQ_bound q r
    have cb4 := cmpQ_bound p r
    clear en
    generalize cmpQ p q = cm at *
    generalize cmpQ q r = cm2 at *
    generalize cmpQ p r = cm3 at *
    have HV := Lib.hid V
    clear V
    go_enter Tryd.func5, Tryd.ntmps5
    go_wp2_with fail
    refine (first_any E _ (HE.out.below (by (repeat (first | exact Below.refl _ _ | assumption | refine Below.drew ?_ | refine below_drewN ?_ _ | refine Below.setCell ?_ (by first | omega | (simp; done) | (simp; omega)) _ | refine Below.alloc ?_ (by first | omega | (simp; done) | (simp; omega)) _))))).mono ?_
    rintro e w1 ⟨rfl, hb1⟩
    have hw1 : Below w.heap.size w w1 := stepH (by (repeat (first | exact Below.refl _ _ | assumption | refine Below.drew ?_ | refine below_drewN ?_ _ | refine Below.setCell ?_ (by first | omega | (simp; done) | (simp; omega)) _ | refine Below.alloc ?_ (by first | omega | (simp; done) | (simp; omega)) _))) hb1
    have A := keepH hb1 (g := w.heap.size) (blk_old (blk_old (blk_new rfl)))
    have B := keepH hb1 (g := w.heap.size + 1) (blk_old (blk_new (by simp)))
    have C := keepH hb1 (g := w.heap.size + 1 + 1) (blk_new (by simp))
    have z1 := hw1.size
    clear hb1
    have cA := cellH A
    obtain ⟨lA, lA1, lA2⟩ := ltH A
    have cB := cellH B
    obtain ⟨lB, lB1, lB2⟩ := ltH B
    have cC := cellH C
    obtain ⟨lC, lC1, lC2⟩ := ltH C
    go_wp2_with fail
    refine (HV.out _ (by omega) (by omega) (by omega) (by omega) (by omega) (by omega) (by omega) (by omega) (by omega) (by omega) (by omega) (by omega)).mono ?_
    rintro e w2 ⟨rfl, hb2⟩
    have hw2 : Below w.heap.size w w2 := stepH (by (repeat (first | exact Below.refl _ _ | assumption | refine Below.drew ?_ | refine below_drewN ?_ _ | refine Below.setCell ?_ (by first | omega | (simp; done) | (simp; omega)) _ | refine Below.alloc ?_ (by first | omega | (simp; done) | (simp; omega)) _))) hb2
    replace A := keepH hb2 A.out
    replace B := keepH hb2 B.out
    replace C := keepH hb2 C.out
    have z2 := hw2.size
    clear hb2 hw1 z1
    clear cA lA lA1 lA2 cB lB lB1 lB2 cC lC lC1 lC2
    have cA := cellH A
    obtain ⟨lA, lA1, lA2⟩ := ltH A
    have cB := cellH B
    obtain ⟨lB, lB1, lB2⟩ := ltH B
    have cC := cellH C
    obtain ⟨lC, lC1, lC2⟩ := ltH C
    go_wp2_with fail
    refine (C1.out _).mono ?_
    rintro e w3 ⟨rfl, hb3⟩
    have hw3 : Below w.heap.size w w3 := stepH (by (repeat (first | exact Below.refl _ _ | assumption | refine Below.drew ?_ | refine below_drewN ?_ _ | refine Below.setCell ?_ (by first | omega | (simp; done) | (simp; omega)) _ | refine Below.alloc ?_ (by first | omega | (simp; done) | (simp; omega)) _))) hb3
    replace A := keepH hb3 A.out
    replace B := keepH hb3 B.out
    replace C := keepH hb3 C.out
    have z3 := hw3.size
    clear hb3 hw2 z2
    clear cA lA lA1 lA2 cB lB lB1 lB2 cC lC lC1 lC2
    have cA := cellH A
    obtain ⟨lA, lA1, lA2⟩ := ltH A
    have cB := cellH B
    obtain ⟨lB, lB1, lB2⟩ := ltH B
    have cC := cellH C
    obtain ⟨lC, lC1, lC2⟩ := ltH C
    go_wp2_with fail
    refine (C2.out _).mono ?_
    rintro e w4 ⟨rfl, hb4⟩
    have hw4 : Below w.heap.size w w4 := stepH (by (repeat (first | exact Below.refl _ _ | assumption | refine Below.drew ?_ | refine below_drewN ?_ _ | refine Below.setCell ?_ (by first | omega | (simp; done) | (simp; omega)) _ | refine Below.alloc ?_ (by first | omega | (simp; done) | (simp; omega)) _))) hb4
    replace A := keepH hb4 A.out
    replace B := keepH hb4 B.out
    replace C := keepH hb4 C.out
    have z4 := hw4.size
    clear hb4 hw3 z3
    clear cA lA lA1 lA2 cB lB lB1 lB2 cC lC lC1 lC2
    have cA := cellH A
    obtain ⟨lA, lA1, lA2⟩ := ltH A
    have cB := cellH B
    obtain ⟨lB, lB1, lB2⟩ := ltH B
    have cC := cellH C
    obtain ⟨lC, lC1, lC2⟩ := ltH C
    go_wp2_with fail
    refine (S1.out _).mono ?_
    rintro e w5 ⟨rfl, hb5⟩
    have hw5 : Below w.heap.size w w5 := stepH (by (repeat (first | exact Below.refl _ _ | assumption | refine Below.drew ?_ | refine below_drewN ?_ _ | refine Below.setCell ?_ (by first | omega | (simp; done) | (simp; omega)) _ | refine Below.alloc ?_ (by first | omega | (simp; done) | (simp; omega)) _))) hb5
    replace A := keepH hb5 A.out
    replace B := keepH hb5 B.out
    replace C := keepH hb5 C.out
    have z5 := hw5.size
    clear hb5 hw4 z4
    clear cA lA lA1 lA2 cB lB lB1 lB2 cC lC lC1 lC2
    have cA := cellH A
    obtain ⟨lA, lA1, lA2⟩ := ltH A
    have cB := cellH B
    obtain ⟨lB, lB1, lB2⟩ := ltH B
    have cC := cellH C
    obtain ⟨lC, lC1, lC2⟩ := ltH C
    go_upto_region 8 with fail
    go_cut [68] (fun s68 wx => s68 = .bool false ∧ Below w.heap.size w wx ∧ Hid (wx.heap[w.heap.size]? = some (.cells #[.int .i64 p.num, .int .i64 p.den] 23 (0, 0))) ∧ Hid (wx.heap[w.heap.size + 1]? = some (.cells #[.int .i64 q.num, .int .i64 q.den] 23 (0, 0))) ∧ Hid (wx.heap[w.heap.size + 1 + 1]? = some (.cells #[.int .i64 r.num, .int .i64 r.den] 23 (0, 0))))
    case first =>
      by_cases t1 : cm ≤ 0
      · by_cases t2 : cm2 ≤ 0
        · have t3 := TR.out t1 t2
          go_wp2_with fail
          refine (C3.out _).mono ?_
          rintro e w6 ⟨rfl, hb6⟩
          have hw6 : Below w.heap.size w w6 := stepH (by (repeat (first | exact Below.refl _ _ | assumption | refine Below.drew ?_ | refine below_drewN ?_ _ | refine Below.setCell ?_ (by first | omega | (simp; done) | (simp; omega)) _ | refine Below.alloc ?_ (by first | omega | (simp; done) | (simp; omega)) _))) hb6
          replace A := keepH hb6 A.out
          replace B := keepH hb6 B.out
          replace C := keepH hb6 C.out
          have z6 := hw6.size
          clear hb6 hw5 z5
          clear cA lA lA1 lA2 cB lB lB1 lB2 cC lC lC1 lC2
          have cA := cellH A
          obtain ⟨lA, lA1, lA2⟩ := ltH A
          have cB := cellH B
          obtain ⟨lB, lB1, lB2⟩ := ltH B
          have cC := cellH C
          obtain ⟨lC, lC1, lC2⟩ := ltH C
          go_wp2_with fail
          refine (C4.out _).mono ?_
          rintro e w7 ⟨rfl, hb7⟩
          have hw7 : Below w.heap.size w w7 := stepH (by (repeat (first | exact Below.refl _ _ | assumption | refine Below.drew ?_ | refine below_drewN ?_ _ | refine Below.setCell ?_ (by first | omega | (simp; done) | (simp; omega)) _ | refine Below.alloc ?_ (by first | omega | (simp; done) | (simp; omega)) _))) hb7
          replace A := keepH hb7 A.out
          replace B := keepH hb7 B.out
          replace C := keepH hb7 C.out
          have z7 := hw7.size
          clear hb7 hw6 z6
          clear cA lA lA1 lA2 cB lB lB1 lB2 cC lC lC1 lC2
          have cA := cellH A
          obtain ⟨lA, lA1, lA2⟩ := ltH A
          have cB := cellH B
          obtain ⟨lB, lB1, lB2⟩ := ltH B
          have cC := cellH C
          obtain ⟨lC, lC1, lC2⟩ := ltH C
          go_wp2_with fail
          go_meet
          exact ⟨(congrArg Value.bool (by first | rfl | (simp; done) | (simp; omega))), (by (repeat (first | exact Below.refl _ _ | assumption | refine Below.drew ?_ | refine below_drewN ?_ _ | refine Below.setCell ?_ (by first | omega | (simp; done) | (simp; omega)) _ | refine Below.alloc ?_ (by first | omega | (simp; done) | (simp; omega)) _))), A, B, C⟩
        · go_wp2_with fail
          refine (C3.out _).mono ?_
          rintro e w8 ⟨rfl, hb8⟩
          have hw8 : Below w.heap.size w w8 := stepH (by (repeat (first | exact Below.refl _ _ | assumption | refine Below.drew ?_ | refine below_drewN ?_ _ | refine Below.setCell ?_ (by first | omega | (simp; done) | (simp; omega)) _ | refine Below.alloc ?_ (by first | omega | (simp; done) | (simp; omega)) _))) hb8
          replace A := keepH hb8 A.out
          replace B := keepH hb8 B.out
          replace C := keepH hb8 C.out
          have z8 := hw8.size
          clear hb8 hw5 z5
          clear cA lA lA1 lA2 cB lB lB1 lB2 cC lC lC1 lC2
          have cA := cellH A
          obtain ⟨lA, lA1, lA2⟩ := ltH A
          have cB := cellH B
          obtain ⟨lB, lB1, lB2⟩ := ltH B
          have cC := cellH C
          obtain ⟨lC, lC1, lC2⟩ := ltH C
          go_wp2_with fail
          go_meet
          exact ⟨rfl, (by (repeat (first | exact Below.refl _ _ | assumption | refine Below.drew ?_ | refine below_drewN ?_ _ | refine Below.setCell ?_ (by first | omega | (simp; done) | (simp; omega)) _ | refine Below.alloc ?_ (by first | omega | (simp; done) | (simp; omega)) _))), A, B, C⟩
      · go_wp2_with fail
        go_meet
        exact ⟨rfl, (by (repeat (first | exact Below.refl _ _ | assumption | refine Below.drew ?_ | refine below_drewN ?_ _ | refine Below.setCell ?_ (by first | omega | (simp; done) | (simp; omega)) _ | refine Below.alloc ?_ (by first | omega | (simp; done) | (simp; omega)) _))), A, B, C⟩
    case rest =>
      as_aux_lemma =>
        clear cA lA lA1 lA2 cB lB lB1 lB2 cC lC lC1 lC2
        clear A B C
        obtain ⟨rfl, hw9, A, B, C⟩ := hcut
        obtain ⟨w9, rfl⟩ : ∃ x : World, x = wc := ⟨_, rfl⟩
        have z9 := hw9.size
        have cA := cellH A
        obtain ⟨lA, lA1, lA2⟩ := ltH A
        have cB := cellH B
        obtain ⟨lB, lB1, lB2⟩ := ltH B
        have cC := cellH C
        obtain ⟨lC, lC1, lC2⟩ := ltH C
        go_wp2_with fail
        refine (A1.out _ (HE.out.below (by (repeat (first | exact Below.refl _ _ | assumption | refine Below.drew ?_ | refine below_drewN ?_ _ | refine Below.setCell ?_ (by first | omega | (simp; done) | (simp; omega)) _ | refine Below.alloc ?_ (by first | omega | (simp; done) | (simp; omega)) _))))).mono ?_
        rintro e w10 ⟨⟨x1, y1, err1, rfl, hr1⟩, hb10⟩
        have hw10 : Below w.heap.size w w10 := stepH (by (repeat (first | exact Below.refl _ _ | assumption | refine Below.drew ?_ | refine below_drewN ?_ _ | refine Below.setCell ?_ (by first | omega | (simp; done) | (simp; omega)) _ | refine Below.alloc ?_ (by first | omega | (simp; done) | (simp; omega)) _))) hb10
        replace A := keepH hb10 A.out
        replace B := keepH hb10 B.out
        replace C := keepH hb10 C.out
        have z10 := hw10.size
        clear hb10 hw9 z9
        clear cA lA lA1 lA2 cB lB lB1 lB2 cC lC lC1 lC2
        have cA := cellH A
        obtain ⟨lA, lA1, lA2⟩ := ltH A
        have cB := cellH B
        obtain ⟨lB, lB1, lB2⟩ := ltH B
        have cC := cellH C
        obtain ⟨lC, lC1, lC2⟩ := ltH C
        go_wp2_with fail
        refine (A2.out _ (HE.out.below (by (repeat (first | exact Below.refl _ _ | assumption | refine Below.drew ?_ | refine below_drewN ?_ _ | refine Below.setCell ?_ (by first | omega | (simp; done) | (simp; omega)) _ | refine Below.alloc ?_ (by first | omega | (simp; done) | (simp; omega)) _))))).mono ?_
        rintro e w11 ⟨⟨x2, y2, err2, rfl, hr2⟩, hb11⟩
        have hw11 : Below w.heap.size w w11 := stepH (by (repeat (first | exact Below.refl _ _ | assumption | refine Below.drew ?_ | refine below_drewN ?_ _ | refine Below.setCell ?_ (by first | omega | (simp; done) | (simp; omega)) _ | refine Below.alloc ?_ (by first | omega | (simp; done) | (simp; omega)) _))) hb11
        replace A := keepH hb11 (blk_old A.out)
        replace B := keepH hb11 (blk_old B.out)
        replace C := keepH hb11 (blk_old C.out)
        have X := keepH hb11 (g := w10.heap.size) (blk_new rfl)
        have z11 := hw11.size
        clear hb11 hw10 z10
        clear cA lA lA1 lA2 cB lB lB1 lB2 cC lC lC1 lC2
        have cA := cellH A
        obtain ⟨lA, lA1, lA2⟩ := ltH A
        have cB := cellH B
        obtain ⟨lB, lB1, lB2⟩ := ltH B
        have cC := cellH C
        obtain ⟨lC, lC1, lC2⟩ := ltH C
        have cX := cellH X
        obtain ⟨lX, lX1, lX2⟩ := ltH X
        have R1 := Lib.hid hr1
        have R2 := Lib.hid hr2
        clear hr1 hr2
        go_upto_region 12 with fail
        go_cut [93] (fun s93 wx => s93 = .bool false ∧ Below w.heap.size w wx ∧ Hid (wx.heap[w.heap.size]? = some (.cells #[.int .i64 p.num, .int .i64 p.den] 23 (0, 0))) ∧ Hid (wx.heap[w.heap.size + 1]? = some (.cells #[.int .i64 q.num, .int .i64 q.den] 23 (0, 0))) ∧ Hid (wx.heap[w.heap.size + 1 + 1]? = some (.cells #[.int .i64 r.num, .int .i64 r.den] 23 (0, 0))) ∧ Hid (wx.heap[w10.heap.size]? = some (.cells #[.int .i64 x1, .int .i64 y1] 23 (0, 0))) ∧ Hid (wx.heap[w11.heap.size]? = some (.cells #[.int .i64 x2, .int .i64 y2] 23 (0, 0))))
        case first =>
          rcases resF_cases R1.out with ⟨g1, rfl, rfl, rfl⟩ | ⟨rfl, rfl, rfl⟩
          · rcases resF_cases R2.out with ⟨g2, rfl, rfl, rfl⟩ | ⟨rfl, rfl, rfl⟩
            · go_wp2_with fail
              refine (X1.out g1 g2 _).mono ?_
              rintro e w12 ⟨rfl, hb12⟩
              have hw12 : Below w.heap.size w w12 := stepH (by (repeat (first | exact Below.refl _ _ | assumption | refine Below.drew ?_ | refine below_drewN ?_ _ | refine Below.setCell ?_ (by first | omega | (simp; done) | (simp; omega)) _ | refine Below.alloc ?_ (by first | omega | (simp; done) | (simp; omega)) _))) hb12
              replace A := keepH hb12 (blk_old A.out)
              replace B := keepH hb12 (blk_old B.out)
              replace C := keepH hb12 (blk_old C.out)
              replace X := keepH hb12 (blk_old X.out)
              have Y := keepH hb12 (g := w11.heap.size) (blk_new rfl)
              have z12 := hw12.size
              clear hb12 hw11 z11
              clear cA lA lA1 lA2 cB lB lB1 lB2 cC lC lC1 lC2 cX lX lX1 lX2
              have cA := cellH A
              obtain ⟨lA, lA1, lA2⟩ := ltH A
              have cB := cellH B
              obtain ⟨lB, lB1, lB2⟩ := ltH B
              have cC := cellH C
              obtain ⟨lC, lC1, lC2⟩ := ltH C
              have cX := cellH X
              obtain ⟨lX, lX1, lX2⟩ := ltH X
              have cY := cellH Y
              obtain ⟨lY, lY1, lY2⟩ := ltH Y
              go_wp2_with fail
              go_meet
              exact ⟨rfl, (by (repeat (first | exact Below.refl _ _ | assumption | refine Below.drew ?_ | refine below_drewN ?_ _ | refine Below.setCell ?_ (by first | omega | (simp; done) | (simp; omega)) _ | refine Below.alloc ?_ (by first | omega | (simp; done) | (simp; omega)) _))), A, B, C, X, Y⟩
            · go_wp2_with fail
              go_meet
              exact ⟨rfl, (by (repeat (first | exact Below.refl _ _ | assumption | refine Below.drew ?_ | refine below_drewN ?_ _ | refine Below.setCell ?_ (by first | omega | (simp; done) | (simp; omega)) _ | refine Below.alloc ?_ (by first | omega | (simp; done) | (simp; omega)) _))), (blk_old A.out), (blk_old B.out), (blk_old C.out), (blk_old X.out), (blk_new rfl)⟩
          · go_wp2_with fail
            go_meet
            exact ⟨rfl, (by (repeat (first | exact Below.refl _ _ | assumption | refine Below.drew ?_ | refine below_drewN ?_ _ | refine Below.setCell ?_ (by first | omega | (simp; done) | (simp; omega)) _ | refine Below.alloc ?_ (by first | omega | (simp; done) | (simp; omega)) _))), (blk_old A.out), (blk_old B.out), (blk_old C.out), (blk_old X.out), (blk_new rfl)⟩
        case rest =>
          as_aux_lemma =>
            clear cA lA lA1 lA2 cB lB lB1 lB2 cC lC lC1 lC2 cX lX lX1 lX2
            clear A B C X
            obtain ⟨rfl, hw13, A, B, C, X, Y⟩ := hcut
            obtain ⟨w13, rfl⟩ : ∃ x : World, x = wc := ⟨_, rfl⟩
            have z13 := hw13.size
            have cA := cellH A
            obtain ⟨lA, lA1, lA2⟩ := ltH A
            have cB := cellH B
            obtain ⟨lB, lB1, lB2⟩ := ltH B
            have cC := cellH C
            obtain ⟨lC, lC1, lC2⟩ := ltH C
            have cX := cellH X
            obtain ⟨lX, lX1, lX2⟩ := ltH X
            have cY := cellH Y
            obtain ⟨lY, lY1, lY2⟩ := ltH Y
            clear R1 R2
            go_wp2_with fail
            refine (M1.out _ (HE.out.below (by (repeat (first | exact Below.refl _ _ | assumption | refine Below.drew ?_ | refine below_drewN ?_ _ | refine Below.setCell ?_ (by first | omega | (simp; done) | (simp; omega)) _ | refine Below.alloc ?_ (by first | omega | (simp; done) | (simp; omega)) _))))).mono ?_
            rintro e w14 ⟨⟨x3, y3, err3, rfl, hr3⟩, hb14⟩
            have hw14 : Below w.heap.size w w14 := stepH (by (repeat (first | exact Below.refl _ _ | assumption | refine Below.drew ?_ | refine below_drewN ?_ _ | refine Below.setCell ?_ (by first | omega | (simp; done) | (simp; omega)) _ | refine Below.alloc ?_ (by first | omega | (simp; done) | (simp; omega)) _))) hb14
            replace A := keepH hb14 A.out
            replace B := keepH hb14 B.out
            replace C := keepH hb14 C.out
            have z14 := hw14.size
            clear hb14 hw13 z13
            clear cA lA lA1 lA2 cB lB lB1 lB2 cC lC lC1 lC2 cX lX lX1 lX2 cY lY lY1 lY2
            have cA := cellH A
            obtain ⟨lA, lA1, lA2⟩ := ltH A
            have cB := cellH B
            obtain ⟨lB, lB1, lB2⟩ := ltH B
            have cC := cellH C
            obtain ⟨lC, lC1, lC2⟩ := ltH C
            go_wp2_with fail
            refine (M2.out _ (HE.out.below (by (repeat (first | exact Below.refl _ _ | assumption | refine Below.drew ?_ | refine below_drewN ?_ _ | refine Below.setCell ?_ (by first | omega | (simp; done) | (simp; omega)) _ | refine Below.alloc ?_ (by first | omega | (simp; done) | (simp; omega)) _))))).mono ?_
            rintro e w15 ⟨⟨x4, y4, err4, rfl, hr4⟩, hb15⟩
            have hw15 : Below w.heap.size w w15 := stepH (by (repeat (first | exact Below.refl _ _ | assumption | refine Below.drew ?_ | refine below_drewN ?_ _ | refine Below.setCell ?_ (by first | omega | (simp; done) | (simp; omega)) _ | refine Below.alloc ?_ (by first | omega | (simp; done) | (simp; omega)) _))) hb15
            replace A := keepH hb15 (blk_old A.out)
            replace B := keepH hb15 (blk_old B.out)
            replace C := keepH hb15 (blk_old C.out)
            have X := keepH hb15 (g := w14.heap.size) (blk_new rfl)
            have z15 := hw15.size
            clear hb15 hw14 z14
            clear cA lA lA1 lA2 cB lB lB1 lB2 cC lC lC1 lC2
            have cA := cellH A
            obtain ⟨lA, lA1, lA2⟩ := ltH A
            have cB := cellH B
            obtain ⟨lB, lB1, lB2⟩ := ltH B
            have cC := cellH C
            obtain ⟨lC, lC1, lC2⟩ := ltH C
            have cX := cellH X
            obtain ⟨lX, lX1, lX2⟩ := ltH X
            have R1 := Lib.hid hr3
            have R2 := Lib.hid hr4
            clear hr3 hr4
            go_upto_region 16 with fail
            go_cut [123] (fun s123 wx => s123 = .bool false ∧ Below w.heap.size w wx ∧ Hid (wx.heap[w.heap.size]? = some (.cells #[.int .i64 p.num, .int .i64 p.den] 23 (0, 0))) ∧ Hid (wx.heap[w.heap.size + 1]? = some (.cells #[.int .i64 q.num, .int .i64 q.den] 23 (0, 0))) ∧ Hid (wx.heap[w.heap.size + 1 + 1]? = some (.cells #[.int .i64 r.num, .int .i64 r.den] 23 (0, 0))) ∧ Hid (wx.heap[w14.heap.size]? = some (.cells #[.int .i64 x3, .int .i64 y3] 23 (0, 0))) ∧ Hid (wx.heap[w15.heap.size]? = some (.cells #[.int .i64 x4, .int .i64 y4] 23 (0, 0))))
            case first =>
              rcases resF_cases R1.out with ⟨g1, rfl, rfl, rfl⟩ | ⟨rfl, rfl, rfl⟩
              · rcases resF_cases R2.out with ⟨g2, rfl, rfl, rfl⟩ | ⟨rfl, rfl, rfl⟩
                · by_cases h0 : 0 < r.num
                  · go_wp2_with fail
                    refine (X2.out g1 g2 h0 _).mono ?_
                    rintro e w16 ⟨rfl, hb16⟩
                    have hw16 : Below w.heap.size w w16 := stepH (by (repeat (first | exact Below.refl _ _ | assumption | refine Below.drew ?_ | refine below_drewN ?_ _ | refine Below.setCell ?_ (by first | omega | (simp; done) | (simp; omega)) _ | refine Below.alloc ?_ (by first | omega | (simp; done) | (simp; omega)) _))) hb16
                    replace A := keepH hb16 (blk_old A.out)
                    replace B := keepH hb16 (blk_old B.out)
                    replace C := keepH hb16 (blk_old C.out)
                    replace X := keepH hb16 (blk_old X.out)
                    have Y := keepH hb16 (g := w15.heap.size) (blk_new rfl)
                    have z16 := hw16.size
                    clear hb16 hw15 z15
                    clear cA lA lA1 lA2 cB lB lB1 lB2 cC lC lC1 lC2 cX lX lX1 lX2
                    have cA := cellH A
                    obtain ⟨lA, lA1, lA2⟩ := ltH A
                    have cB := cellH B
                    obtain ⟨lB, lB1, lB2⟩ := ltH B
                    have cC := cellH C
                    obtain ⟨lC, lC1, lC2⟩ := ltH C
                    have cX := cellH X
                    obtain ⟨lX, lX1, lX2⟩ := ltH X
                    have cY := cellH Y
                    obtain ⟨lY, lY1, lY2⟩ := ltH Y
                    go_wp2_with fail
                    go_meet
                    exact ⟨rfl, (by (repeat (first | exact Below.refl _ _ | assumption | refine Below.drew ?_ | refine below_drewN ?_ _ | refine Below.setCell ?_ (by first | omega | (simp; done) | (simp; omega)) _ | refine Below.alloc ?_ (by first | omega | (simp; done) | (simp; omega)) _))), A, B, C, X, Y⟩
                  · go_wp2_with fail
                    go_meet
                    exact ⟨rfl, (by (repeat (first | exact Below.refl _ _ | assumption | refine Below.drew ?_ | refine below_drewN ?_ _ | refine Below.setCell ?_ (by first | omega | (simp; done) | (simp; omega)) _ | refine Below.alloc ?_ (by first | omega | (simp; done) | (simp; omega)) _))), (blk_old A.out), (blk_old B.out), (blk_old C.out), (blk_old X.out), (blk_new rfl)⟩
                · go_wp2_with fail
                  go_meet
                  exact ⟨rfl, (by (repeat (first | exact Below.refl _ _ | assumption | refine Below.drew ?_ | refine below_drewN ?_ _ | refine Below.setCell ?_ (by first | omega | (simp; done) | (simp; omega)) _ | refine Below.alloc ?_ (by first | omega | (simp; done) | (simp; omega)) _))), (blk_old A.out), (blk_old B.out), (blk_old C.out), (blk_old X.out), (blk_new rfl)⟩
              · go_wp2_with fail
                go_meet
                exact ⟨rfl, (by (repeat (first | exact Below.refl _ _ | assumption | refine Below.drew ?_ | refine below_drewN ?_ _ | refine Below.setCell ?_ (by first | omega | (simp; done) | (simp; omega)) _ | refine Below.alloc ?_ (by first | omega | (simp; done) | (simp; omega)) _))), (blk_old A.out), (blk_old B.out), (blk_old C.out), (blk_old X.out), (blk_new rfl)⟩
            case rest =>
              as_aux_lemma =>
                clear cA lA lA1 lA2 cB lB lB1 lB2 cC lC lC1 lC2 cX lX lX1 lX2
                clear A B C X
                obtain ⟨rfl, hw17, A, B, C, X, Y⟩ := hcut
                obtain ⟨w17, rfl⟩ : ∃ x : World, x = wc := ⟨_, rfl⟩
                have z17 := hw17.size
                have cA := cellH A
                obtain ⟨lA, lA1, lA2⟩ := ltH A
                have cB := cellH B
                obtain ⟨lB, lB1, lB2⟩ := ltH B
                have cC := cellH C
                obtain ⟨lC, lC1, lC2⟩ := ltH C
                have cX := cellH X
                obtain ⟨lX, lX1, lX2⟩ := ltH X
                have cY := cellH Y
                obtain ⟨lY, lY1, lY2⟩ := ltH Y
                go_wp2_with fail
                have HWR : IntKind.i64.wrap (-cm) = -cm := IntWalk.i64_in _ (by omega)
                go_region_held3 (fun w' => w'.cell? ⟨w.heap.size, 0, none⟩ = some (.int .i64 p.num) ∧ w'.cell? ⟨w.heap.size, 1, none⟩ = some (.int .i64 p.den) ∧ w'.cell? ⟨w.heap.size + 1, 0, none⟩ = some (.int .i64 q.num) ∧ w'.cell? ⟨w.heap.size + 1, 1, none⟩ = some (.int .i64 q.den)) (first | exact ⟨cellH A 0, cellH A 1, cellH B 0, cellH B 1⟩ | go_keep)
                  (first | (go_at_call 12; refine (N1.out _).mono ?_; rintro e w18 ⟨rfl, hb18⟩; have hw18 : Below w.heap.size w w18 := stepH (by (repeat (first | exact Below.refl _ _ | assumption | refine Below.drew ?_ | refine below_drewN ?_ _ | refine Below.setCell ?_ (by first | omega | (simp; done) | (simp; omega)) _ | refine Below.alloc ?_ (by first | omega | (simp; done) | (simp; omega)) _))) hb18; replace A := keepH hb18 A.out; replace B := keepH hb18 B.out) | (go_at_call 12; refine (N2.out _).mono ?_; rintro e w18 ⟨rfl, hb18⟩; have hw18 : Below w.heap.size w w18 := stepH (by (repeat (first | exact Below.refl _ _ | assumption | refine Below.drew ?_ | refine below_drewN ?_ _ | refine Below.setCell ?_ (by first | omega | (simp; done) | (simp; omega)) _ | refine Below.alloc ?_ (by first | omega | (simp; done) | (simp; omega)) _))) hb18; replace A := keepH hb18 A.out; replace B := keepH hb18 B.out) | (go_at_call 14; refine (C5.out _).mono ?_; rintro e w18 ⟨rfl, hb18⟩; have hw18 : Below w.heap.size w w18 := stepH (by (repeat (first | exact Below.refl _ _ | assumption | refine Below.drew ?_ | refine below_drewN ?_ _ | refine Below.setCell ?_ (by first | omega | (simp; done) | (simp; omega)) _ | refine Below.alloc ?_ (by first | omega | (simp; done) | (simp; omega)) _))) hb18; replace A := keepH hb18 A.out; replace B := keepH hb18 B.out))
                clear cA lA lA1 lA2 cB lB lB1 lB2 cC lC lC1 lC2 cX lX lX1 lX2 cY lY lY1 lY2
                have z18 := hw18.size
                go_wp2_with fail
                go_ret
                exact ⟨ret_bool (by first | rfl | (simp; done)), hw18⟩
end Go.Proofs.YtbmkbhclkaopaaaDoor
