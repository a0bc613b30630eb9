/- The rate from an amount on: walks. -/
import Derived.Test.YtmankldedhgdiaaDoorSoA
namespace Go.Proofs.YtmankldedhgdiaaDoor
open Go.RowKit

theorem rateF_snoc (x r : Rat) (l : List (Rat × Rat)) (b : Rat × Rat) : rateF x r (l ++ [b]) = if b.1 ≤ x then b.2 else rateF x r l := by
  rw [rateF_append]; rfl
theorem rateF_good {x r : Rat} {l : List (Rat × Rat)} (hr : Good r) (h : ∀ b ∈ l, GoodB b) : Good (rateF x r l) := by
  induction l generalizing r with
  | nil => exact hr
  | cons b l ih =>
    refine ih ?_ fun c hc => h c (List.mem_cons_of_mem _ hc)
    split
    · exact (h b (List.mem_cons_self ..)).2
    · exact hr
theorem cmp_le {p q : Rat} : cmpQ p q ≤ 0 ↔ p ≤ q := by
  unfold cmpQ
  split
  · rename_i h; exact ⟨fun _ => by grind, fun _ => by omega⟩
  · split
    · rename_i h1 h2; exact ⟨fun h => by omega, fun h => by grind⟩
    · rename_i h1 h2; exact ⟨fun _ => by grind, fun _ => by omega⟩

set_option maxRecDepth 100000 in
set_option maxHeartbeats 4000000 in
theorem from_any (gs : List (Rat × Rat)) (A : Option Addr) (c : Nat) (x : Rat) (w : World) (hl : RowAt encR 4 w w.heap.size A (gs.map bR)) (hm : gs.length ≤ 1000) (hg : ∀ b ∈ gs, GoodB b) (hx : Good x) :
    Calls Tryd.prog 50 #[.slice A gs.length c, .agg #[.int .i64 x.num, .int .i64 x.den]] w fun e w' => e = .returned (.agg #[.int .i64 (rateF x 0 gs).num, .int .i64 (rateF x 0 gs).den]) ∧ Below w.heap.size w w' := by
  have HG := Lib.hid hg
  have HL := Lib.hid hl
  have HX := Lib.hid hx
  clear hg hl hx
  go_enter Tryd.func50, Tryd.ntmps50
  go_wp2_with fail
  refine (zero15_any _).mono ?_
  rintro e w1 ⟨rfl, hb1⟩
  have hw1 : Below w.heap.size w w1 := stepH (by (repeat' (first | with_reducible exact Below.refl _ _ | with_reducible assumption | with_reducible refine Below.drew ?_ | with_reducible refine below_drewN ?_ _ | with_reducible refine Below.setCell ?_ ?_ _ | with_reducible refine Below.alloc ?_ ?_ _ | omega | (simp; done) | (simp; omega)))) hb1
  have X := keepH hb1 (g := w.heap.size) (blk_old (blk_new rfl))
  have R4 := keepH hb1 (g := w.heap.size + 1) (blk_new (by simp))
  have z1 := hw1.size
  clear hb1
  have cX := cellH X
  obtain ⟨lX, lX1, lX2⟩ := ltH X
  have cR4 := cellH R4
  obtain ⟨lR4, lR41, lR42⟩ := ltH R4
  have hz2 : w.heap.size + 1 < w1.heap.size := lt_of_H R4
  go_wp2_with fail
  have hw2 : Below w.heap.size w (w1.alloc (.cells #[.int .i64 0, .int .i64 1] 24)) := by (repeat' (first | with_reducible exact Below.refl _ _ | with_reducible assumption | with_reducible refine Below.drew ?_ | with_reducible refine below_drewN ?_ _ | with_reducible refine Below.setCell ?_ ?_ _ | with_reducible refine Below.alloc ?_ ?_ _ | omega | (simp; done) | (simp; omega)))
  replace X : Hid ((w1.alloc (.cells #[.int .i64 0, .int .i64 1] 24)).heap[w.heap.size]? = some (.cells #[.int .i64 x.num, .int .i64 x.den] 24 (0, 0))) := (blk_old X.out)
  replace R4 : Hid ((w1.alloc (.cells #[.int .i64 0, .int .i64 1] 24)).heap[w.heap.size + 1]? = some (.cells #[.int .i64 0, .int .i64 0] 24 (0, 0))) := (blk_old R4.out)
  have R : Hid ((w1.alloc (.cells #[.int .i64 0, .int .i64 1] 24)).heap[w1.heap.size]? = some (.cells #[.int .i64 0, .int .i64 1] 24 (0, 0))) := (blk_new rfl)
  clear cX lX lX1 lX2 cR4 lR4 lR41 lR42
  generalize (w1.alloc (.cells #[.int .i64 0, .int .i64 1] 24)) = w2 at *
  have z2 := hw2.size
  have cX := cellH X
  obtain ⟨lX, lX1, lX2⟩ := ltH X
  have cR4 := cellH R4
  obtain ⟨lR4, lR41, lR42⟩ := ltH R4
  have cR := cellH R
  obtain ⟨lR, lR1, lR2⟩ := ltH R
  clear cX lX lX1 lX2 cR4 lR4 lR41 lR42 cR lR lR1 lR2
  go_loopw [11] (fun i wr => ∃ (k : Nat) (r : Rat), k ≤ gs.length ∧ i = .int .i64 k ∧ Hid (rateF x 0 (gs.take k) = r) ∧ Good r ∧ Hid (wr.heap[w1.heap.size]? = some (.cells #[.int .i64 r.num, .int .i64 r.den] 24 (0, 0))) ∧ Hid (wr.heap[w.heap.size]? = some (.cells #[.int .i64 x.num, .int .i64 x.den] 24 (0, 0))) ∧ Hid (wr.heap[w.heap.size + 1]? = some (.cells #[.int .i64 0, .int .i64 0] 24 (0, 0))) ∧ Below w.heap.size w wr) (fun i _ => gs.length - (intOf i).toNat)
  case atStart => exact ⟨0, 0, Nat.zero_le _, rfl, rfl, good_zero, R, X, R4, hw2⟩
  case round =>
    clear R X R4
    obtain ⟨k, r, hk, rfl, hr, hgr, R, X, R4, hw0⟩ := hrel
    have z0 := hw0.size
    have HGR := Lib.hid hgr
    clear hgr
    have q1 : w1.heap.size ≠ w.heap.size := by omega
    have q2 : w1.heap.size ≠ w.heap.size + 1 := by omega
    have q3 : w.heap.size ≠ w.heap.size + 1 := by omega
    by_cases hlt : k < gs.length
    · obtain ⟨b, hb⟩ : ∃ b, gs[k]? = some b := ⟨gs[k], List.getElem?_eq_getElem hlt⟩
      have G0 := Lib.hid (HG.out b (List.mem_of_getElem? hb))
      obtain ⟨g, off, hA, hgB, k0, k1, k2, k3⟩ := cells4 (HL.out.below hw0 (Nat.le_refl _)) (show (gs.map bR)[k]? = some (bR b) by rw [List.getElem?_map, hb]; rfl)
      subst hA
      replace k0 : wr.cell? ⟨g, off + k * 4, none⟩ = some (.int .i64 b.1.num) := k0
      replace k1 : wr.cell? ⟨g, off + k * 4 + 1, none⟩ = some (.int .i64 b.1.den) := k1
      replace k2 : wr.cell? ⟨g, off + k * 4 + 2, none⟩ = some (.int .i64 b.2.num) := k2
      replace k3 : wr.cell? ⟨g, off + k * 4 + 3, none⟩ = some (.int .i64 b.2.den) := k3
      have HRS := Lib.hid (rateF_snoc x 0 (gs.take k) b)
      have HTK := Lib.hid (take_snoc hb)
      clear hb
      obtain ⟨cc, hcc⟩ : ∃ cc, cmpQ b.1 x = cc := ⟨_, rfl⟩
      have HC := Lib.hid hcc
      clear hcc
      by_cases hlx : b.1 ≤ x
      · have hc2 : decide (cc ≤ 0) = true := by rw [← HC.out]; exact decide_eq_true (cmp_le.2 hlx)
        have HR : Hid (rateF x 0 (gs.take (k + 1)) = b.2) := by show _ = _; rw [HTK.out, HRS.out, if_pos hlx]
        clear hlx
        have cR := cellH R
        obtain ⟨lR, lR1, lR2⟩ := ltH R
        have fzR := frozH R
        have cX := cellH X
        obtain ⟨lX, lX1, lX2⟩ := ltH X
        have cR4 := cellH R4
        obtain ⟨lR4, lR41, lR42⟩ := ltH R4
        have fzR4 := frozH R4
        go_wp2_with fail
        refine (cmpS b.1 x _ _ G0.out.1 HX.out HC.out).mono ?_
        rintro e w11 ⟨rfl, hb11⟩
        have hw11 : Below w.heap.size w w11 := stepH (by (repeat' (first | with_reducible exact Below.refl _ _ | with_reducible assumption | with_reducible refine Below.drew ?_ | with_reducible refine below_drewN ?_ _ | with_reducible refine Below.setCell ?_ ?_ _ | with_reducible refine Below.alloc ?_ ?_ _ | omega | (simp; done) | (simp; omega)))) hb11
        replace R := keepH hb11 (blk_old R.out)
        replace X := keepH hb11 (blk_old X.out)
        replace R4 := keepH hb11 (blk_old R4.out)
        have B := keepH hb11 (g := wr.heap.size) (blk_new rfl)
        have z11 := hw11.size
        clear hb11 hw0 z0
        clear cR lR lR1 lR2 fzR cX lX lX1 lX2 cR4 lR4 lR41 lR42 fzR4
        have cR := cellH R
        obtain ⟨lR, lR1, lR2⟩ := ltH R
        have fzR := frozH R
        have cX := cellH X
        obtain ⟨lX, lX1, lX2⟩ := ltH X
        have cR4 := cellH R4
        obtain ⟨lR4, lR41, lR42⟩ := ltH R4
        have fzR4 := frozH R4
        have cB := cellH B
        obtain ⟨lB, lB1, lB2⟩ := ltH B
        go_wp2_with fail
        go_roundw
        case rel => exact ⟨k + 1, b.2, by omega, by go_num, HR, G0.out.2, setH2 R.out, setH2o X (by omega), setH2o R4 (by omega), by (repeat' (first | with_reducible exact Below.refl _ _ | with_reducible assumption | with_reducible refine Below.drew ?_ | with_reducible refine below_drewN ?_ _ | with_reducible refine Below.setCell ?_ ?_ _ | with_reducible refine Below.alloc ?_ ?_ _ | omega | (simp; done) | (simp; omega)))⟩
        case measure => simp [intOf]; omega
      · have hc2 : decide (cc ≤ 0) = false := by rw [← HC.out]; exact decide_eq_false (fun h => hlx (cmp_le.1 h))
        have HR : Hid (rateF x 0 (gs.take (k + 1)) = r) := by show _ = _; rw [HTK.out, HRS.out, if_neg hlx]; exact hr.out
        clear hlx
        have cR := cellH R
        obtain ⟨lR, lR1, lR2⟩ := ltH R
        have fzR := frozH R
        have cX := cellH X
        obtain ⟨lX, lX1, lX2⟩ := ltH X
        have cR4 := cellH R4
        obtain ⟨lR4, lR41, lR42⟩ := ltH R4
        have fzR4 := frozH R4
        go_wp2_with fail
        refine (cmpS b.1 x _ _ G0.out.1 HX.out HC.out).mono ?_
        rintro e w12 ⟨rfl, hb12⟩
        have hw12 : Below w.heap.size w w12 := stepH (by (repeat' (first | with_reducible exact Below.refl _ _ | with_reducible assumption | with_reducible refine Below.drew ?_ | with_reducible refine below_drewN ?_ _ | with_reducible refine Below.setCell ?_ ?_ _ | with_reducible refine Below.alloc ?_ ?_ _ | omega | (simp; done) | (simp; omega)))) hb12
        replace R := keepH hb12 (blk_old R.out)
        replace X := keepH hb12 (blk_old X.out)
        replace R4 := keepH hb12 (blk_old R4.out)
        have B := keepH hb12 (g := wr.heap.size) (blk_new rfl)
        have z12 := hw12.size
        clear hb12 hw0 z0
        clear cR lR lR1 lR2 fzR cX lX lX1 lX2 cR4 lR4 lR41 lR42 fzR4
        have cR := cellH R
        obtain ⟨lR, lR1, lR2⟩ := ltH R
        have fzR := frozH R
        have cX := cellH X
        obtain ⟨lX, lX1, lX2⟩ := ltH X
        have cR4 := cellH R4
        obtain ⟨lR4, lR41, lR42⟩ := ltH R4
        have fzR4 := frozH R4
        have cB := cellH B
        obtain ⟨lB, lB1, lB2⟩ := ltH B
        go_wp2_with fail
        go_roundw
        case rel => exact ⟨k + 1, r, by omega, by go_num, HR, HGR.out, R, X, R4, by (repeat' (first | with_reducible exact Below.refl _ _ | with_reducible assumption | with_reducible refine Below.drew ?_ | with_reducible refine below_drewN ?_ _ | with_reducible refine Below.setCell ?_ ?_ _ | with_reducible refine Below.alloc ?_ ?_ _ | omega | (simp; done) | (simp; omega)))⟩
        case measure => simp [intOf]; omega
    · obtain rfl : k = gs.length := by omega
      have HR : Hid (rateF x 0 gs = r) := by have h := hr.out; rw [List.take_length] at h; exact h
      have cR := cellH R
      obtain ⟨lR, lR1, lR2⟩ := ltH R
      have fzR := frozH R
      have cX := cellH X
      obtain ⟨lX, lX1, lX2⟩ := ltH X
      have cR4 := cellH R4
      obtain ⟨lR4, lR41, lR42⟩ := ltH R4
      have fzR4 := frozH R4
      go_wp2_with fail
      refine bodyPost_ret (v := .agg #[.int .i64 r.num, .int .i64 r.den]) (by simp [results, Tryd.results50, go_sem, cR4]) rfl ⟨by rw [HR.out], by (repeat' (first | with_reducible exact Below.refl _ _ | with_reducible assumption | with_reducible refine Below.drew ?_ | with_reducible refine below_drewN ?_ _ | with_reducible refine Below.setCell ?_ ?_ _ | with_reducible refine Below.alloc ?_ ?_ _ | omega | (simp; done) | (simp; omega)))⟩

theorem rateS_stop {x r : Rat} {b : Rat × Rat} {l : List (Rat × Rat)} (h : ¬ b.1 ≤ x) : rateS x r (b :: l) = r := if_neg h
theorem rateS_on {x r : Rat} {b : Rat × Rat} {l : List (Rat × Rat)} (h : b.1 ≤ x) : rateS x r (b :: l) = rateS x b.2 l := if_pos h

set_option maxRecDepth 100000 in
set_option maxHeartbeats 4000000 in
theorem rateAt_any (gs : List (Rat × Rat)) (A : Option Addr) (c : Nat) (x : Rat) (w : World) (hl : RowAt encR 4 w w.heap.size A (gs.map bR)) (hm : gs.length ≤ 1000) (hg : ∀ b ∈ gs, GoodB b) (hx : Good x) :
    Calls Tryd.prog 39 #[.slice A gs.length c, .agg #[.int .i64 x.num, .int .i64 x.den]] w fun e w' => e = .returned (.agg #[.int .i64 (rateS x 0 gs).num, .int .i64 (rateS x 0 gs).den]) ∧ Below w.heap.size w w' := by
  have HG := Lib.hid hg
  have HL := Lib.hid hl
  have HX := Lib.hid hx
  clear hg hl hx
  go_enter Tryd.func39, Tryd.ntmps39
  go_wp2_with fail
  refine (refZero_any _).mono ?_
  rintro e w1 ⟨rfl, hb1⟩
  have hw1 : Below w.heap.size w w1 := stepH (by (repeat' (first | with_reducible exact Below.refl _ _ | with_reducible assumption | with_reducible refine Below.drew ?_ | with_reducible refine below_drewN ?_ _ | with_reducible refine Below.setCell ?_ ?_ _ | with_reducible refine Below.alloc ?_ ?_ _ | omega | (simp; done) | (simp; omega)))) hb1
  have X := keepH hb1 (g := w.heap.size) (blk_old (blk_new rfl))
  have R4 := keepH hb1 (g := w.heap.size + 1) (blk_new (by simp))
  have z1 := hw1.size
  clear hb1
  have cX := cellH X
  obtain ⟨lX, lX1, lX2⟩ := ltH X
  have cR4 := cellH R4
  obtain ⟨lR4, lR41, lR42⟩ := ltH R4
  have hz2 : w.heap.size + 1 < w1.heap.size := lt_of_H R4
  go_wp2_with fail
  have hw2 : Below w.heap.size w (w1.alloc (.cells #[.int .i64 0, .int .i64 1] 24)) := by (repeat' (first | with_reducible exact Below.refl _ _ | with_reducible assumption | with_reducible refine Below.drew ?_ | with_reducible refine below_drewN ?_ _ | with_reducible refine Below.setCell ?_ ?_ _ | with_reducible refine Below.alloc ?_ ?_ _ | omega | (simp; done) | (simp; omega)))
  replace X : Hid ((w1.alloc (.cells #[.int .i64 0, .int .i64 1] 24)).heap[w.heap.size]? = some (.cells #[.int .i64 x.num, .int .i64 x.den] 24 (0, 0))) := (blk_old X.out)
  replace R4 : Hid ((w1.alloc (.cells #[.int .i64 0, .int .i64 1] 24)).heap[w.heap.size + 1]? = some (.cells #[.int .i64 0, .int .i64 0] 24 (0, 0))) := (blk_old R4.out)
  have R : Hid ((w1.alloc (.cells #[.int .i64 0, .int .i64 1] 24)).heap[w1.heap.size]? = some (.cells #[.int .i64 0, .int .i64 1] 24 (0, 0))) := (blk_new rfl)
  clear cX lX lX1 lX2 cR4 lR4 lR41 lR42
  generalize (w1.alloc (.cells #[.int .i64 0, .int .i64 1] 24)) = w2 at *
  have z2 := hw2.size
  have cX := cellH X
  obtain ⟨lX, lX1, lX2⟩ := ltH X
  have cR4 := cellH R4
  obtain ⟨lR4, lR41, lR42⟩ := ltH R4
  have cR := cellH R
  obtain ⟨lR, lR1, lR2⟩ := ltH R
  clear cX lX lX1 lX2 cR4 lR4 lR41 lR42 cR lR lR1 lR2
  go_loopw [6] (fun i wr => ∃ (k : Nat) (r : Rat), k ≤ gs.length ∧ i = .int .i64 k ∧ Hid (rateS x 0 gs = rateS x r (gs.drop k)) ∧ Good r ∧ Hid (wr.heap[w1.heap.size]? = some (.cells #[.int .i64 r.num, .int .i64 r.den] 24 (0, 0))) ∧ Hid (wr.heap[w.heap.size]? = some (.cells #[.int .i64 x.num, .int .i64 x.den] 24 (0, 0))) ∧ Hid (wr.heap[w.heap.size + 1]? = some (.cells #[.int .i64 0, .int .i64 0] 24 (0, 0))) ∧ Below w.heap.size w wr) (fun i _ => gs.length - (intOf i).toNat)
  case atStart => exact ⟨0, 0, Nat.zero_le _, rfl, rfl, good_zero, R, X, R4, hw2⟩
  case round =>
    clear R X R4
    obtain ⟨k, r, hk, rfl, hr, hgr, R, X, R4, hw0⟩ := hrel
    have z0 := hw0.size
    have HGR := Lib.hid hgr
    clear hgr
    have q1 : w1.heap.size ≠ w.heap.size := by omega
    have q2 : w1.heap.size ≠ w.heap.size + 1 := by omega
    have q3 : w.heap.size ≠ w.heap.size + 1 := by omega
    by_cases hlt : k < gs.length
    · obtain ⟨b, hb⟩ : ∃ b, gs[k]? = some b := ⟨gs[k], List.getElem?_eq_getElem hlt⟩
      have G0 := Lib.hid (HG.out b (List.mem_of_getElem? hb))
      obtain ⟨g, off, hA, hgB, k0, k1, k2, k3⟩ := cells4 (HL.out.below hw0 (Nat.le_refl _)) (show (gs.map bR)[k]? = some (bR b) by rw [List.getElem?_map, hb]; rfl)
      subst hA
      replace k0 : wr.cell? ⟨g, off + k * 4, none⟩ = some (.int .i64 b.1.num) := k0
      replace k1 : wr.cell? ⟨g, off + k * 4 + 1, none⟩ = some (.int .i64 b.1.den) := k1
      replace k2 : wr.cell? ⟨g, off + k * 4 + 2, none⟩ = some (.int .i64 b.2.num) := k2
      replace k3 : wr.cell? ⟨g, off + k * 4 + 3, none⟩ = some (.int .i64 b.2.den) := k3
      have HD := Lib.hid (drop_cons hb)
      clear hb
      obtain ⟨cc, hcc⟩ : ∃ cc, cmpQ b.1 x = cc := ⟨_, rfl⟩
      have HC := Lib.hid hcc
      clear hcc
      have i1 : (k : Int) < (gs.length : Int) := by omega
      have x0 : wr.cell? ⟨w.heap.size, 0, none⟩ = some (.int .i64 x.num) := cellH X 0
      have x1 : wr.cell? ⟨w.heap.size, 1, none⟩ = some (.int .i64 x.den) := cellH X 1
      by_cases hlx : b.1 ≤ x
      · have hc2 : decide (cc ≤ 0) = true := by rw [← HC.out]; exact decide_eq_true (cmp_le.2 hlx)
        have HR : Hid (rateS x 0 gs = rateS x b.2 (gs.drop (k + 1))) := by show _ = _; rw [hr.out, HD.out, rateS_on hlx]
        clear hlx
        go_wp2_with fail
        go_region_held3 (fun w' => w'.cell? ⟨w.heap.size, 0, none⟩ = some (.int .i64 x.num) ∧ w'.cell? ⟨w.heap.size, 1, none⟩ = some (.int .i64 x.den) ∧ w'.cell? ⟨g, off + k * 4, none⟩ = some (.int .i64 b.1.num) ∧ w'.cell? ⟨g, off + k * 4 + 1, none⟩ = some (.int .i64 b.1.den)) (first | with_reducible exact ⟨x0, x1, k0, k1⟩ | go_keep)
          (first | (go_at_call 25; refine (refCmp_is b.1 x cc _ G0.out.1 HX.out HC.out).mono ?_; rintro e w9 ⟨rfl, hb9⟩; have hw9 : Below w.heap.size w w9 := stepH (by (repeat' (first | with_reducible exact Below.refl _ _ | with_reducible assumption | with_reducible refine Below.drew ?_ | with_reducible refine below_drewN ?_ _ | with_reducible refine Below.setCell ?_ ?_ _ | with_reducible refine Below.alloc ?_ ?_ _ | omega | (simp; done) | (simp; omega)))) hb9; have R9 := keepH hb9 (by first | exact R.out | exact drew_old R.out); have X9 := keepH hb9 (by first | exact X.out | exact drew_old X.out); have R49 := keepH hb9 (by first | exact R4.out | exact drew_old R4.out); have x0 := cellOf hb9 (by first | exact x0 | exact cell_drew x0); have x1 := cellOf hb9 (by first | exact x1 | exact cell_drew x1); have k0 := cellOf hb9 (by first | exact k0 | exact cell_drew k0); have k1 := cellOf hb9 (by first | exact k1 | exact cell_drew k1); have k2 := cellOf hb9 (by first | exact k2 | exact cell_drew k2); have k3 := cellOf hb9 (by first | exact k3 | exact cell_drew k3)))
        have z9 := hw9.size
        have cR := cellH R9
        obtain ⟨lR, lR1, lR2⟩ := ltH R9
        have fzR := frozH R9
        have cR4 := cellH R49
        obtain ⟨lR4, lR41, lR42⟩ := ltH R49
        have fzR4 := frozH R49
        go_wp2_with fail
        go_roundw
        case rel => exact ⟨k + 1, b.2, by omega, by go_num, HR, G0.out.2, setH2 R9.out, setH2o X9 (by omega), setH2o R49 (by omega), by (repeat' (first | with_reducible exact Below.refl _ _ | with_reducible assumption | with_reducible refine Below.drew ?_ | with_reducible refine below_drewN ?_ _ | with_reducible refine Below.setCell ?_ ?_ _ | with_reducible refine Below.alloc ?_ ?_ _ | omega | (simp; done) | (simp; omega)))⟩
        case measure => simp [intOf]; omega
      · have hc2 : decide (cc ≤ 0) = false := by rw [← HC.out]; exact decide_eq_false (fun h => hlx (cmp_le.1 h))
        have HR : Hid (rateS x 0 gs = r) := by show _ = _; rw [hr.out, HD.out, rateS_stop hlx]
        clear hlx
        go_wp2_with fail
        go_region_held3 (fun w' => w'.cell? ⟨w.heap.size, 0, none⟩ = some (.int .i64 x.num) ∧ w'.cell? ⟨w.heap.size, 1, none⟩ = some (.int .i64 x.den) ∧ w'.cell? ⟨g, off + k * 4, none⟩ = some (.int .i64 b.1.num) ∧ w'.cell? ⟨g, off + k * 4 + 1, none⟩ = some (.int .i64 b.1.den)) (first | with_reducible exact ⟨x0, x1, k0, k1⟩ | go_keep)
          (first | (go_at_call 25; refine (refCmp_is b.1 x cc _ G0.out.1 HX.out HC.out).mono ?_; rintro e w9 ⟨rfl, hb9⟩; have hw9 : Below w.heap.size w w9 := stepH (by (repeat' (first | with_reducible exact Below.refl _ _ | with_reducible assumption | with_reducible refine Below.drew ?_ | with_reducible refine below_drewN ?_ _ | with_reducible refine Below.setCell ?_ ?_ _ | with_reducible refine Below.alloc ?_ ?_ _ | omega | (simp; done) | (simp; omega)))) hb9; have R9 := keepH hb9 (by first | exact R.out | exact drew_old R.out); have X9 := keepH hb9 (by first | exact X.out | exact drew_old X.out); have R49 := keepH hb9 (by first | exact R4.out | exact drew_old R4.out); have x0 := cellOf hb9 (by first | exact x0 | exact cell_drew x0); have x1 := cellOf hb9 (by first | exact x1 | exact cell_drew x1); have k0 := cellOf hb9 (by first | exact k0 | exact cell_drew k0); have k1 := cellOf hb9 (by first | exact k1 | exact cell_drew k1); have k2 := cellOf hb9 (by first | exact k2 | exact cell_drew k2); have k3 := cellOf hb9 (by first | exact k3 | exact cell_drew k3)))
        have z9 := hw9.size
        have cR := cellH R9
        obtain ⟨lR, lR1, lR2⟩ := ltH R9
        have fzR := frozH R9
        have cR4 := cellH R49
        obtain ⟨lR4, lR41, lR42⟩ := ltH R49
        have fzR4 := frozH R49
        go_wp2_with fail
        refine bodyPost_ret (v := .agg #[.int .i64 r.num, .int .i64 r.den]) (by simp [results, Tryd.results39, go_sem, cR4]) rfl ⟨by rw [HR.out], by (repeat' (first | with_reducible exact Below.refl _ _ | with_reducible assumption | with_reducible refine Below.drew ?_ | with_reducible refine below_drewN ?_ _ | with_reducible refine Below.setCell ?_ ?_ _ | with_reducible refine Below.alloc ?_ ?_ _ | omega | (simp; done) | (simp; omega)))⟩
    · obtain rfl : k = gs.length := by omega
      have HR : Hid (rateS x 0 gs = r) := by have h := hr.out; rw [List.drop_length] at h; exact h
      have x0 : wr.cell? ⟨w.heap.size, 0, none⟩ = some (.int .i64 x.num) := cellH X 0
      go_wp2_with fail
      refine wp_region_held_drew (S := fun w' => w'.cell? ⟨w.heap.size, 0, none⟩ = some (.int .i64 x.num)) (by kernel_rfl) ?_ (fun hH0 => ?_)
      · exact x0
      refine wpAnyH_take (i := 0) (oi := { dst := some 8, op := Go.Op.move (Go.Operand.tmp 6), type := 3, pos := "scale.go:109", after := #[], guard := none }) (v := ?_) rfl (by kernel_rfl) (by kernel_rfl) (by kernel_rfl) (fun _ _ _ h => h) (Or.inl ⟨by rfl, ?_⟩) (by assumption) ?_
      rotate_left
      · intro wq hSw; (try dsimp only at hSw); go_simp; (try with_reducible rfl)
      try simp only [Act.put, List.setIfInBounds_toArray, List.set_cons_zero, List.set_cons_succ]
      refine wpAnyH_take (i := 1) (oi := { dst := some 9, op := Go.Op.move (Go.Operand.tmp 0), type := 22, pos := "scale.go:109", after := #[], guard := none }) (v := ?_) rfl (by kernel_rfl) (by kernel_rfl) (by kernel_rfl) (fun _ _ _ h => h) (Or.inl ⟨by rfl, ?_⟩) (by assumption) ?_
      rotate_left
      · intro wq hSw; (try dsimp only at hSw); go_simp; (try with_reducible rfl)
      try simp only [Act.put, List.setIfInBounds_toArray, List.set_cons_zero, List.set_cons_succ]
      refine wpAnyH_take (i := 2) (oi := { dst := some 10, op := Go.Op.call { callee := Go.Callee.builtin Go.Builtin.len, args := #[Go.Operand.tmp 9], argTypes := #[22] }, type := 3, pos := "scale.go:109", after := #[{ on := 1, ground := Go.Ground.data }], guard := none }) (v := ?_) rfl (by kernel_rfl) (by kernel_rfl) (by kernel_rfl) (fun _ _ _ h => h) (Or.inl ⟨by rfl, ?_⟩) (by assumption) ?_
      rotate_left
      · intro wq hSw; (try dsimp only at hSw); go_simp; (try with_reducible rfl)
      try simp only [Act.put, List.setIfInBounds_toArray, List.set_cons_zero, List.set_cons_succ]
      refine wpAnyH_take (i := 3) (oi := { dst := some 11, op := Go.Op.binOp Go.BinOp.lss 3 (Go.Operand.tmp 8) (Go.Operand.tmp 10) 3, type := 4, pos := "scale.go:109", after := #[{ on := 0, ground := Go.Ground.data }, { on := 2, ground := Go.Ground.data }], guard := none }) (v := ?_) rfl (by kernel_rfl) (by kernel_rfl) (by kernel_rfl) (fun _ _ _ h => h) (Or.inl ⟨by rfl, ?_⟩) (by assumption) ?_
      rotate_left
      · intro wq hSw; (try dsimp only at hSw); go_simp; (try with_reducible rfl)
      try simp only [Act.put, List.setIfInBounds_toArray, List.set_cons_zero, List.set_cons_succ]
      refine wpAnyH_take (i := 4) (oi := { dst := some 12, op := Go.Op.move (Go.Operand.tmp 11), type := 4, pos := "scale.go:109", after := #[{ on := 3, ground := Go.Ground.data }], guard := none }) (v := ?_) rfl (by kernel_rfl) (by kernel_rfl) (by kernel_rfl) (fun _ _ _ h => h) (Or.inl ⟨by rfl, ?_⟩) (by assumption) ?_
      rotate_left
      · intro wq hSw; (try dsimp only at hSw); go_simp; (try with_reducible rfl)
      try simp only [Act.put, List.setIfInBounds_toArray, List.set_cons_zero, List.set_cons_succ]
      refine wpAnyH_take (i := 5) (oi := { dst := some 13, op := Go.Op.move (Go.Operand.tmp 0), type := 22, pos := "scale.go:109", after := #[{ on := 4, ground := Go.Ground.guard }], guard := some (4, true) }) (v := undef) rfl (by kernel_rfl) (by kernel_rfl) (by kernel_rfl) (fun _ _ _ h => h) (Or.inr ⟨by rfl, rfl⟩) (by assumption) ?_
      try simp only [Act.put, List.setIfInBounds_toArray, List.set_cons_zero, List.set_cons_succ]
      refine wpAnyH_take (i := 6) (oi := { dst := some 14, op := Go.Op.move (Go.Operand.tmp 6), type := 3, pos := "scale.go:109", after := #[{ on := 4, ground := Go.Ground.guard }], guard := some (4, true) }) (v := undef) rfl (by kernel_rfl) (by kernel_rfl) (by kernel_rfl) (fun _ _ _ h => h) (Or.inr ⟨by rfl, rfl⟩) (by assumption) ?_
      try simp only [Act.put, List.setIfInBounds_toArray, List.set_cons_zero, List.set_cons_succ]
      refine wpAnyH_take (i := 7) (oi := { dst := some 15, op := Go.Op.indexAddr 22 (Go.Operand.tmp 13) (Go.Operand.tmp 14), type := 0, pos := "scale.go:109", after := #[{ on := 5, ground := Go.Ground.data }, { on := 6, ground := Go.Ground.data }, { on := 4, ground := Go.Ground.guard }], guard := some (4, true) }) (v := undef) rfl (by kernel_rfl) (by kernel_rfl) (by kernel_rfl) (fun _ _ _ h => h) (Or.inr ⟨by rfl, rfl⟩) (by assumption) ?_
      try simp only [Act.put, List.setIfInBounds_toArray, List.set_cons_zero, List.set_cons_succ]
      refine wpAnyH_take (i := 8) (oi := { dst := some 16, op := Go.Op.fieldAddr 31 (Go.Operand.tmp 15) 0, type := 0, pos := "scale.go:109", after := #[{ on := 7, ground := Go.Ground.data }, { on := 4, ground := Go.Ground.guard }], guard := some (4, true) }) (v := undef) rfl (by kernel_rfl) (by kernel_rfl) (by kernel_rfl) (fun _ _ _ h => h) (Or.inr ⟨by rfl, rfl⟩) (by assumption) ?_
      try simp only [Act.put, List.setIfInBounds_toArray, List.set_cons_zero, List.set_cons_succ]
      refine wpAnyH_take (i := 9) (oi := { dst := some 17, op := Go.Op.load 24 (Go.Operand.tmp 16), type := 24, pos := "scale.go:109", after := #[{ on := 8, ground := Go.Ground.data }, { on := 4, ground := Go.Ground.guard }], guard := some (4, true) }) (v := undef) rfl (by kernel_rfl) (by kernel_rfl) (by kernel_rfl) (fun _ _ _ h => h) (Or.inr ⟨by rfl, rfl⟩) (by assumption) ?_
      try simp only [Act.put, List.setIfInBounds_toArray, List.set_cons_zero, List.set_cons_succ]
      refine wpAnyH_take (i := 10) (oi := { dst := some 18, op := Go.Op.load 24 (Go.Operand.tmp 3), type := 24, pos := "scale.go:109", after := #[{ on := 4, ground := Go.Ground.guard }], guard := some (4, true) }) (v := undef) rfl (by kernel_rfl) (by kernel_rfl) (by kernel_rfl) (fun _ _ _ h => h) (Or.inr ⟨by rfl, rfl⟩) (by assumption) ?_
      try simp only [Act.put, List.setIfInBounds_toArray, List.set_cons_zero, List.set_cons_succ]
      refine wpAnyH_take (i := 11) (oi := { dst := some 19, op := Go.Op.call { callee := Go.Callee.value (Go.Operand.func 25), args := #[Go.Operand.tmp 17, Go.Operand.tmp 18], argTypes := #[24, 24] }, type := 3, pos := "scale.go:109", after := #[{ on := 9, ground := Go.Ground.data }, { on := 10, ground := Go.Ground.data }, { on := 4, ground := Go.Ground.chain }, { on := 4, ground := Go.Ground.guard }], guard := some (4, true) }) (v := undef) rfl (by kernel_rfl) (by kernel_rfl) (by kernel_rfl) (fun _ _ _ h => h) (Or.inr ⟨by rfl, rfl⟩) (by assumption) ?_
      try simp only [Act.put, List.setIfInBounds_toArray, List.set_cons_zero, List.set_cons_succ]
      refine wpAnyH_take (i := 12) (oi := { dst := some 20, op := Go.Op.binOp Go.BinOp.leq 3 (Go.Operand.tmp 19) (Go.Operand.const (Go.Value.int Go.IntKind.i64 0)) 3, type := 4, pos := "scale.go:109", after := #[{ on := 11, ground := Go.Ground.data }, { on := 4, ground := Go.Ground.guard }], guard := some (4, true) }) (v := undef) rfl (by kernel_rfl) (by kernel_rfl) (by kernel_rfl) (fun _ _ _ h => h) (Or.inr ⟨by rfl, rfl⟩) (by assumption) ?_
      try simp only [Act.put, List.setIfInBounds_toArray, List.set_cons_zero, List.set_cons_succ]
      refine wpAnyH_take (i := 13) (oi := { dst := some 21, op := Go.Op.pick (Go.Operand.tmp 12) (Go.Operand.tmp 20) (Go.Operand.const (Go.Value.bool false)), type := 4, pos := "scale.go:109", after := #[{ on := 4, ground := Go.Ground.data }, { on := 12, ground := Go.Ground.data }], guard := none }) (v := ?_) rfl (by kernel_rfl) (by kernel_rfl) (by kernel_rfl) (fun _ _ _ h => h) (Or.inl ⟨by rfl, ?_⟩) (by assumption) ?_
      rotate_left
      · intro wq hSw; (try dsimp only at hSw); go_simp; (try with_reducible rfl)
      try simp only [Act.put, List.setIfInBounds_toArray, List.set_cons_zero, List.set_cons_succ]
      refine wpAnyH_done (by kernel_rfl) ?_ _
      have cR := cellH R
      obtain ⟨lR, lR1, lR2⟩ := ltH R
      have fzR := frozH R
      have cR4 := cellH R4
      obtain ⟨lR4, lR41, lR42⟩ := ltH R4
      have fzR4 := frozH R4
      go_wp2_with fail
      refine bodyPost_ret (v := .agg #[.int .i64 r.num, .int .i64 r.den]) (by simp [results, Tryd.results39, go_sem, cR4]) rfl ⟨by rw [HR.out], by (repeat' (first | with_reducible exact Below.refl _ _ | with_reducible assumption | with_reducible refine Below.drew ?_ | with_reducible refine below_drewN ?_ _ | with_reducible refine Below.setCell ?_ ?_ _ | with_reducible refine Below.alloc ?_ ?_ _ | omega | (simp; done) | (simp; omega)))⟩

end Go.Proofs.YtmankldedhgdiaaDoor
