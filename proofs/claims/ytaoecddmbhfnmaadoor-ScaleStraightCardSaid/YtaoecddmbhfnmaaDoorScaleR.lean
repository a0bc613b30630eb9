/- The walk of ScaleRises. -/
import Derived.Test.YtaoecddmbhfnmaaDoorScaleH
import Derived.Test.YtaoecddmbhfnmaaDoorScaleL
namespace Go.Proofs.YtaoecddmbhfnmaaDoor
open Go.RowKit

theorem refv_is (n d : Int) (b : Bool) (w : World) (h : validB n d = b) (n1 : -9223372036854775808 ≤ n) (n2 : n ≤ 9223372036854775807) (d1 : -9223372036854775808 ≤ d) (d2 : d ≤ 9223372036854775807) :
    Calls Tryd.prog 10 #[.agg #[.int .i64 n, .int .i64 d]] w fun e w' => e = .returned (.bool b) ∧ Below w.heap.size w w' := by
  subst h; exact refValid_any n d w n1 n2 d1 d2

theorem refCmp_is (p q : Rat) (c : Int) (w : World) (hp : Good p) (hq : Good q) (h : cmpQ p q = c) :
    Calls Tryd.prog 11 #[.agg #[.int .i64 p.num, .int .i64 p.den], .agg #[.int .i64 q.num, .int .i64 q.den]] w fun e w' => e = .returned (.int .i64 c) ∧ Below w.heap.size w w' := by
  subst h; exact refCmp_any p q w hp hq

theorem cmp_small (p q : Rat) : -1 ≤ cmpQ p q ∧ cmpQ p q ≤ 1 := by
  unfold cmpQ
  split
  · omega
  · split <;> omega

set_option maxRecDepth 100000 in
set_option maxHeartbeats 16000000 in
theorem scaleRises_walk (s : List BI) (A : Option Addr) (c : Nat) (x1 x2 z1 z2 : Int) (E : Nat → Addr) (w : World) (hl : RowAt encR 4 w w.heap.size A s) (hm : s.length ≤ 9223372036854775807) (hI : ∀ b ∈ s, In4 b) (Bx1 : -9223372036854775808 ≤ x1 ∧ x1 ≤ 9223372036854775807) (Bx2 : -9223372036854775808 ≤ x2 ∧ x2 ≤ 9223372036854775807) (Bz1 : -9223372036854775808 ≤ z1 ∧ z1 ≤ 9223372036854775807) (Bz2 : -9223372036854775808 ≤ z2 ∧ z2 ≤ 9223372036854775807) (hE : Env LC E w) :
    Calls Tryd.prog 5 #[.slice A s.length c, .agg #[.int .i64 x1, .int .i64 x2], .agg #[.int .i64 z1, .int .i64 z2]] w fun e w' => e = .returned (.bool true) ∧ Below w.heap.size w w' := by
  obtain ⟨x1l, x1u⟩ := Bx1
  obtain ⟨x2l, x2u⟩ := Bx2
  obtain ⟨z1l, z1u⟩ := Bz1
  obtain ⟨z2l, z2u⟩ := Bz2
  have HAT := Lib.hid (fun n d w' (h : Below w.heap.size w w') b1 b2 => at15_any s A c n d E w' ((hl.below h (Nat.le_refl _)).more h.size) hm hI b1 b2 (hE.below h))
  have HL := Lib.hid hl
  have HI := Lib.hid hI
  have HE := Lib.hid hE
  clear hl hI hE
  by_cases h2 : 200 < s.length
  · go_enter Tryd.func5, Tryd.ntmps5
    go_wp2_with fail
    refine (first15_any E _ (HE.out.below (by (repeat' (first | with_reducible exact Below.refl _ _ | with_reducible assumption | with_reducible refine Below.drew ?_ | with_reducible refine below_drewN ?_ _ | with_reducible refine Below.setCell ?_ ?_ _ | with_reducible refine Below.alloc ?_ ?_ _ | omega | (simp; done) | (simp; omega)))))).mono ?_
    rintro e w1 ⟨rfl, hb1⟩
    have hw1 : Below w.heap.size w w1 := stepH (by (repeat' (first | with_reducible exact Below.refl _ _ | with_reducible assumption | with_reducible refine Below.drew ?_ | with_reducible refine below_drewN ?_ _ | with_reducible refine Below.setCell ?_ ?_ _ | with_reducible refine Below.alloc ?_ ?_ _ | omega | (simp; done) | (simp; omega)))) hb1
    have X := keepH hb1 (g := w.heap.size) (blk_old (blk_new rfl))
    have Z := keepH hb1 (g := w.heap.size + 1) (blk_new (by simp))
    have z1 := hw1.size
    clear hb1
    have cX := cellH X
    obtain ⟨lX, lX1, lX2⟩ := ltH X
    have cZ := cellH Z
    obtain ⟨lZ, lZ1, lZ2⟩ := ltH Z
    go_wp2_with fail
    go_ret
    exact ⟨rfl, by (repeat' (first | with_reducible exact Below.refl _ _ | with_reducible assumption | with_reducible refine Below.drew ?_ | with_reducible refine below_drewN ?_ _ | with_reducible refine Below.setCell ?_ ?_ _ | with_reducible refine Below.alloc ?_ ?_ _ | omega | (simp; done) | (simp; omega)))⟩
  · cases hx : validB x1 x2
    · have HV := Lib.hid hx
      clear hx
      go_enter Tryd.func5, Tryd.ntmps5
      go_wp2_with fail
      refine (first15_any E _ (HE.out.below (by (repeat' (first | with_reducible exact Below.refl _ _ | with_reducible assumption | with_reducible refine Below.drew ?_ | with_reducible refine below_drewN ?_ _ | with_reducible refine Below.setCell ?_ ?_ _ | with_reducible refine Below.alloc ?_ ?_ _ | omega | (simp; done) | (simp; omega)))))).mono ?_
      rintro e w2 ⟨rfl, hb2⟩
      have hw2 : Below w.heap.size w w2 := stepH (by (repeat' (first | with_reducible exact Below.refl _ _ | with_reducible assumption | with_reducible refine Below.drew ?_ | with_reducible refine below_drewN ?_ _ | with_reducible refine Below.setCell ?_ ?_ _ | with_reducible refine Below.alloc ?_ ?_ _ | omega | (simp; done) | (simp; omega)))) hb2
      have X := keepH hb2 (g := w.heap.size) (blk_old (blk_new rfl))
      have Z := keepH hb2 (g := w.heap.size + 1) (blk_new (by simp))
      have z2 := hw2.size
      clear hb2
      have cX := cellH X
      obtain ⟨lX, lX1, lX2⟩ := ltH X
      have cZ := cellH Z
      obtain ⟨lZ, lZ1, lZ2⟩ := ltH Z
      go_wp2_with fail
      refine (refv_is x1 x2 false _ HV.out (by omega) (by omega) (by omega) (by omega)).mono ?_
      rintro e w3 ⟨rfl, hb3⟩
      have hw3 : Below w.heap.size w w3 := stepH (by (repeat' (first | with_reducible exact Below.refl _ _ | with_reducible assumption | with_reducible refine Below.drew ?_ | with_reducible refine below_drewN ?_ _ | with_reducible refine Below.setCell ?_ ?_ _ | with_reducible refine Below.alloc ?_ ?_ _ | omega | (simp; done) | (simp; omega)))) hb3
      replace X := keepH hb3 X.out
      replace Z := keepH hb3 Z.out
      have z3 := hw3.size
      clear hb3 hw2 z2
      clear cX lX lX1 lX2 cZ lZ lZ1 lZ2
      have cX := cellH X
      obtain ⟨lX, lX1, lX2⟩ := ltH X
      have cZ := cellH Z
      obtain ⟨lZ, lZ1, lZ2⟩ := ltH Z
      go_wp2_with fail
      go_ret
      exact ⟨rfl, by (repeat' (first | with_reducible exact Below.refl _ _ | with_reducible assumption | with_reducible refine Below.drew ?_ | with_reducible refine below_drewN ?_ _ | with_reducible refine Below.setCell ?_ ?_ _ | with_reducible refine Below.alloc ?_ ?_ _ | omega | (simp; done) | (simp; omega)))⟩
    · have HV := Lib.hid hx
      clear hx
      cases hz : validB z1 z2
      · have HV2 := Lib.hid hz
        clear hz
        go_enter Tryd.func5, Tryd.ntmps5
        go_wp2_with fail
        refine (first15_any E _ (HE.out.below (by (repeat' (first | with_reducible exact Below.refl _ _ | with_reducible assumption | with_reducible refine Below.drew ?_ | with_reducible refine below_drewN ?_ _ | with_reducible refine Below.setCell ?_ ?_ _ | with_reducible refine Below.alloc ?_ ?_ _ | omega | (simp; done) | (simp; omega)))))).mono ?_
        rintro e w4 ⟨rfl, hb4⟩
        have hw4 : Below w.heap.size w w4 := stepH (by (repeat' (first | with_reducible exact Below.refl _ _ | with_reducible assumption | with_reducible refine Below.drew ?_ | with_reducible refine below_drewN ?_ _ | with_reducible refine Below.setCell ?_ ?_ _ | with_reducible refine Below.alloc ?_ ?_ _ | omega | (simp; done) | (simp; omega)))) hb4
        have X := keepH hb4 (g := w.heap.size) (blk_old (blk_new rfl))
        have Z := keepH hb4 (g := w.heap.size + 1) (blk_new (by simp))
        have z4 := hw4.size
        clear hb4
        have cX := cellH X
        obtain ⟨lX, lX1, lX2⟩ := ltH X
        have cZ := cellH Z
        obtain ⟨lZ, lZ1, lZ2⟩ := ltH Z
        go_wp2_with fail
        refine (refv_is x1 x2 true _ HV.out (by omega) (by omega) (by omega) (by omega)).mono ?_
        rintro e w5 ⟨rfl, hb5⟩
        have hw5 : Below w.heap.size w w5 := stepH (by (repeat' (first | with_reducible exact Below.refl _ _ | with_reducible assumption | with_reducible refine Below.drew ?_ | with_reducible refine below_drewN ?_ _ | with_reducible refine Below.setCell ?_ ?_ _ | with_reducible refine Below.alloc ?_ ?_ _ | omega | (simp; done) | (simp; omega)))) hb5
        replace X := keepH hb5 X.out
        replace Z := keepH hb5 Z.out
        have z5 := hw5.size
        clear hb5 hw4 z4
        clear cX lX lX1 lX2 cZ lZ lZ1 lZ2
        have cX := cellH X
        obtain ⟨lX, lX1, lX2⟩ := ltH X
        have cZ := cellH Z
        obtain ⟨lZ, lZ1, lZ2⟩ := ltH Z
        go_wp2_with fail
        refine (refv_is z1 z2 false _ HV2.out (by omega) (by omega) (by omega) (by omega)).mono ?_
        rintro e w6 ⟨rfl, hb6⟩
        have hw6 : Below w.heap.size w w6 := stepH (by (repeat' (first | with_reducible exact Below.refl _ _ | with_reducible assumption | with_reducible refine Below.drew ?_ | with_reducible refine below_drewN ?_ _ | with_reducible refine Below.setCell ?_ ?_ _ | with_reducible refine Below.alloc ?_ ?_ _ | omega | (simp; done) | (simp; omega)))) hb6
        replace X := keepH hb6 X.out
        replace Z := keepH hb6 Z.out
        have z6 := hw6.size
        clear hb6 hw5 z5
        clear cX lX lX1 lX2 cZ lZ lZ1 lZ2
        have cX := cellH X
        obtain ⟨lX, lX1, lX2⟩ := ltH X
        have cZ := cellH Z
        obtain ⟨lZ, lZ1, lZ2⟩ := ltH Z
        go_wp2_with fail
        go_ret
        exact ⟨rfl, by (repeat' (first | with_reducible exact Below.refl _ _ | with_reducible assumption | with_reducible refine Below.drew ?_ | with_reducible refine below_drewN ?_ _ | with_reducible refine Below.setCell ?_ ?_ _ | with_reducible refine Below.alloc ?_ ?_ _ | omega | (simp; done) | (simp; omega)))⟩
      · have HV2 := Lib.hid hz
        clear hz
        have h3 : s.length ≤ 200 := by omega
        go_enter Tryd.func5, Tryd.ntmps5
        go_wp2_with fail
        refine (first15_any E _ (HE.out.below (by (repeat' (first | with_reducible exact Below.refl _ _ | with_reducible assumption | with_reducible refine Below.drew ?_ | with_reducible refine below_drewN ?_ _ | with_reducible refine Below.setCell ?_ ?_ _ | with_reducible refine Below.alloc ?_ ?_ _ | omega | (simp; done) | (simp; omega)))))).mono ?_
        rintro e w7 ⟨rfl, hb7⟩
        have hw7 : Below w.heap.size w w7 := stepH (by (repeat' (first | with_reducible exact Below.refl _ _ | with_reducible assumption | with_reducible refine Below.drew ?_ | with_reducible refine below_drewN ?_ _ | with_reducible refine Below.setCell ?_ ?_ _ | with_reducible refine Below.alloc ?_ ?_ _ | omega | (simp; done) | (simp; omega)))) hb7
        have X := keepH hb7 (g := w.heap.size) (blk_old (blk_new rfl))
        have Z := keepH hb7 (g := w.heap.size + 1) (blk_new (by simp))
        have z7 := hw7.size
        clear hb7
        have cX := cellH X
        obtain ⟨lX, lX1, lX2⟩ := ltH X
        have cZ := cellH Z
        obtain ⟨lZ, lZ1, lZ2⟩ := ltH Z
        go_wp2_with fail
        refine (refv_is x1 x2 true _ HV.out (by omega) (by omega) (by omega) (by omega)).mono ?_
        rintro e w8 ⟨rfl, hb8⟩
        have hw8 : Below w.heap.size w w8 := stepH (by (repeat' (first | with_reducible exact Below.refl _ _ | with_reducible assumption | with_reducible refine Below.drew ?_ | with_reducible refine below_drewN ?_ _ | with_reducible refine Below.setCell ?_ ?_ _ | with_reducible refine Below.alloc ?_ ?_ _ | omega | (simp; done) | (simp; omega)))) hb8
        replace X := keepH hb8 X.out
        replace Z := keepH hb8 Z.out
        have z8 := hw8.size
        clear hb8 hw7 z7
        clear cX lX lX1 lX2 cZ lZ lZ1 lZ2
        have cX := cellH X
        obtain ⟨lX, lX1, lX2⟩ := ltH X
        have cZ := cellH Z
        obtain ⟨lZ, lZ1, lZ2⟩ := ltH Z
        go_wp2_with fail
        refine (refv_is z1 z2 true _ HV2.out (by omega) (by omega) (by omega) (by omega)).mono ?_
        rintro e w9 ⟨rfl, hb9⟩
        have hw9 : Below w.heap.size w w9 := stepH (by (repeat' (first | with_reducible exact Below.refl _ _ | with_reducible assumption | with_reducible refine Below.drew ?_ | with_reducible refine below_drewN ?_ _ | with_reducible refine Below.setCell ?_ ?_ _ | with_reducible refine Below.alloc ?_ ?_ _ | omega | (simp; done) | (simp; omega)))) hb9
        replace X := keepH hb9 X.out
        replace Z := keepH hb9 Z.out
        have z9 := hw9.size
        clear hb9 hw8 z8
        clear cX lX lX1 lX2 cZ lZ lZ1 lZ2
        have cX := cellH X
        obtain ⟨lX, lX1, lX2⟩ := ltH X
        have cZ := cellH Z
        obtain ⟨lZ, lZ1, lZ2⟩ := ltH Z
        go_wp2_with fail
        clear cX lX lX1 lX2 cZ lZ lZ1 lZ2
        go_loopw [8] (fun i wr => ∃ k : Nat, k ≤ s.length ∧ i = .int .i64 k ∧ Hid (∀ q ∈ s.take k, ¬ q.2.2.1 < 0) ∧ Hid (wr.heap[w.heap.size]? = some (.cells #[.int .i64 x1, .int .i64 x2] 24 (0, 0))) ∧ Hid (wr.heap[w.heap.size + 1]? = some (.cells #[.int .i64 z1, .int .i64 z2] 24 (0, 0))) ∧ Below w.heap.size w wr) (fun i _ => s.length - (intOf i).toNat)
        case atStart => exact ⟨0, Nat.zero_le _, rfl, (fun q h => by simp at h), X, Z, hw9⟩
        case round =>
          clear X Z
          obtain ⟨k, hk, rfl, hq, X, Z, hw0⟩ := hrel
          have z0 := hw0.size
          by_cases hlt : k < s.length
          · obtain ⟨⟨n1, d1, n2, d2⟩, hb⟩ : ∃ b, s[k]? = some b := ⟨s[k], List.getElem?_eq_getElem hlt⟩
            obtain ⟨g, off, hA, hgB, k0, k1, k2, k3⟩ := cells4 (HL.out.below hw0 (Nat.le_refl _)) hb
            subst hA
            obtain ⟨⟨a1, a2⟩, ⟨a3, a4⟩, ⟨a5, a6⟩, ⟨a7, a8⟩⟩ := HI.out _ (List.mem_of_getElem? hb)
            replace k0 : wr.cell? ⟨g, off + k * 4, none⟩ = some (.int .i64 n1) := k0
            replace k1 : wr.cell? ⟨g, off + k * 4 + 1, none⟩ = some (.int .i64 d1) := k1
            replace k2 : wr.cell? ⟨g, off + k * 4 + 2, none⟩ = some (.int .i64 n2) := k2
            replace k3 : wr.cell? ⟨g, off + k * 4 + 3, none⟩ = some (.int .i64 d2) := k3
            dsimp only at a1 a2 a3 a4 a5 a6 a7 a8
            have HBX := Lib.hid hb
            clear hb
            by_cases hn : n2 < 0
            · go_wp2_with fail
              go_ret
              exact ⟨rfl, by (repeat' (first | with_reducible exact Below.refl _ _ | with_reducible assumption | with_reducible refine Below.drew ?_ | with_reducible refine below_drewN ?_ _ | with_reducible refine Below.setCell ?_ ?_ _ | with_reducible refine Below.alloc ?_ ?_ _ | omega | (simp; done) | (simp; omega)))⟩
            · have hq2 : Hid (∀ q ∈ s.take (k + 1), ¬ q.2.2.1 < 0) := by
                show ∀ q ∈ s.take (k + 1), _
                rw [take_snoc HBX.out]
                intro q hm
                rcases List.mem_append.1 hm with h | h
                · exact hq.out q h
                · rw [List.mem_singleton] at h; subst h; exact hn
              go_wp2_with fail
              go_roundw
              case rel => exact ⟨k + 1, by omega, by go_num, hq2, X, Z, hw0⟩
              case measure => simp [intOf]; omega
          · obtain rfl : k = s.length := by omega
            have HQ : Hid (∀ q ∈ s, ¬ q.2.2.1 < 0) := by have h := hq.out; rw [List.take_length] at h; exact h
            clear hq hlt
            as_aux_lemma =>
              cases ha : atI s x1 x2
              · rename_i ga
                have HA := Lib.hid ha
                clear ha
                have cX := cellH X
                obtain ⟨lX, lX1, lX2⟩ := ltH X
                have cZ := cellH Z
                obtain ⟨lZ, lZ1, lZ2⟩ := ltH Z
                go_wp2_with fail
                refine (HAT.out x1 x2 _ (by (repeat' (first | with_reducible exact Below.refl _ _ | with_reducible assumption | with_reducible refine Below.drew ?_ | with_reducible refine below_drewN ?_ _ | with_reducible refine Below.setCell ?_ ?_ _ | with_reducible refine Below.alloc ?_ ?_ _ | omega | (simp; done) | (simp; omega)))) ⟨by omega, by omega⟩ ⟨by omega, by omega⟩).mono ?_
                rintro e w11 ⟨⟨n', d', err, rfl, hr⟩, hb11⟩
                have hw11 : Below w.heap.size w w11 := stepH (by (repeat' (first | with_reducible exact Below.refl _ _ | with_reducible assumption | with_reducible refine Below.drew ?_ | with_reducible refine below_drewN ?_ _ | with_reducible refine Below.setCell ?_ ?_ _ | with_reducible refine Below.alloc ?_ ?_ _ | omega | (simp; done) | (simp; omega)))) hb11
                rw [HA.out] at hr
                obtain ⟨rfl, rfl, rfl⟩ := hr
                have hen := fun w => eql_nil (E ga) w
                replace X := keepH hb11 X.out
                replace Z := keepH hb11 Z.out
                have z11 := hw11.size
                clear hb11 hw0 z0
                clear cX lX lX1 lX2 cZ lZ lZ1 lZ2
                have cX := cellH X
                obtain ⟨lX, lX1, lX2⟩ := ltH X
                have cZ := cellH Z
                obtain ⟨lZ, lZ1, lZ2⟩ := ltH Z
                go_wp2_with fail
                refine (HAT.out z1 z2 _ (by (repeat' (first | with_reducible exact Below.refl _ _ | with_reducible assumption | with_reducible refine Below.drew ?_ | with_reducible refine below_drewN ?_ _ | with_reducible refine Below.setCell ?_ ?_ _ | with_reducible refine Below.alloc ?_ ?_ _ | omega | (simp; done) | (simp; omega)))) ⟨by omega, by omega⟩ ⟨by omega, by omega⟩).mono ?_
                rintro e w12 ⟨⟨n', d', err, rfl, hr⟩, hb12⟩
                have hw12 : Below w.heap.size w w12 := stepH (by (repeat' (first | with_reducible exact Below.refl _ _ | with_reducible assumption | with_reducible refine Below.drew ?_ | with_reducible refine below_drewN ?_ _ | with_reducible refine Below.setCell ?_ ?_ _ | with_reducible refine Below.alloc ?_ ?_ _ | omega | (simp; done) | (simp; omega)))) hb12
                replace X := keepH hb12 (blk_old X.out)
                replace Z := keepH hb12 (blk_old Z.out)
                have Aa := keepH hb12 (g := w11.heap.size) (blk_new rfl)
                have z12 := hw12.size
                clear hb12 hw11 z11
                clear cX lX lX1 lX2 cZ lZ lZ1 lZ2
                have cX := cellH X
                obtain ⟨lX, lX1, lX2⟩ := ltH X
                have cZ := cellH Z
                obtain ⟨lZ, lZ1, lZ2⟩ := ltH Z
                have cAa := cellH Aa
                obtain ⟨lAa, lAa1, lAa2⟩ := ltH Aa
                go_wp2_with fail
                go_ret
                exact ⟨rfl, by (repeat' (first | with_reducible exact Below.refl _ _ | with_reducible assumption | with_reducible refine Below.drew ?_ | with_reducible refine below_drewN ?_ _ | with_reducible refine Below.setCell ?_ ?_ _ | with_reducible refine Below.alloc ?_ ?_ _ | omega | (simp; done) | (simp; omega)))⟩
              · rename_i ga
                have HA := Lib.hid ha
                clear ha
                cases hb : atI s z1 z2
                · rename_i gb
                  have HBB := Lib.hid hb
                  clear hb
                  have cX := cellH X
                  obtain ⟨lX, lX1, lX2⟩ := ltH X
                  have cZ := cellH Z
                  obtain ⟨lZ, lZ1, lZ2⟩ := ltH Z
                  go_wp2_with fail
                  refine (HAT.out x1 x2 _ (by (repeat' (first | with_reducible exact Below.refl _ _ | with_reducible assumption | with_reducible refine Below.drew ?_ | with_reducible refine below_drewN ?_ _ | with_reducible refine Below.setCell ?_ ?_ _ | with_reducible refine Below.alloc ?_ ?_ _ | omega | (simp; done) | (simp; omega)))) ⟨by omega, by omega⟩ ⟨by omega, by omega⟩).mono ?_
                  rintro e w13 ⟨⟨n', d', err, rfl, hr⟩, hb13⟩
                  have hw13 : Below w.heap.size w w13 := stepH (by (repeat' (first | with_reducible exact Below.refl _ _ | with_reducible assumption | with_reducible refine Below.drew ?_ | with_reducible refine below_drewN ?_ _ | with_reducible refine Below.setCell ?_ ?_ _ | with_reducible refine Below.alloc ?_ ?_ _ | omega | (simp; done) | (simp; omega)))) hb13
                  rw [HA.out] at hr
                  obtain ⟨rfl, rfl, rfl⟩ := hr
                  replace X := keepH hb13 X.out
                  replace Z := keepH hb13 Z.out
                  have z13 := hw13.size
                  clear hb13 hw0 z0
                  clear cX lX lX1 lX2 cZ lZ lZ1 lZ2
                  have cX := cellH X
                  obtain ⟨lX, lX1, lX2⟩ := ltH X
                  have cZ := cellH Z
                  obtain ⟨lZ, lZ1, lZ2⟩ := ltH Z
                  go_wp2_with fail
                  refine (HAT.out z1 z2 _ (by (repeat' (first | with_reducible exact Below.refl _ _ | with_reducible assumption | with_reducible refine Below.drew ?_ | with_reducible refine below_drewN ?_ _ | with_reducible refine Below.setCell ?_ ?_ _ | with_reducible refine Below.alloc ?_ ?_ _ | omega | (simp; done) | (simp; omega)))) ⟨by omega, by omega⟩ ⟨by omega, by omega⟩).mono ?_
                  rintro e w14 ⟨⟨n', d', err, rfl, hr⟩, hb14⟩
                  have hw14 : Below w.heap.size w w14 := stepH (by (repeat' (first | with_reducible exact Below.refl _ _ | with_reducible assumption | with_reducible refine Below.drew ?_ | with_reducible refine below_drewN ?_ _ | with_reducible refine Below.setCell ?_ ?_ _ | with_reducible refine Below.alloc ?_ ?_ _ | omega | (simp; done) | (simp; omega)))) hb14
                  rw [HBB.out] at hr
                  obtain ⟨rfl, rfl, rfl⟩ := hr
                  have hen := fun w => eql_nil (E gb) w
                  replace X := keepH hb14 (blk_old X.out)
                  replace Z := keepH hb14 (blk_old Z.out)
                  have Aa := keepH hb14 (g := w13.heap.size) (blk_new rfl)
                  have z14 := hw14.size
                  clear hb14 hw13 z13
                  clear cX lX lX1 lX2 cZ lZ lZ1 lZ2
                  have cX := cellH X
                  obtain ⟨lX, lX1, lX2⟩ := ltH X
                  have cZ := cellH Z
                  obtain ⟨lZ, lZ1, lZ2⟩ := ltH Z
                  have cAa := cellH Aa
                  obtain ⟨lAa, lAa1, lAa2⟩ := ltH Aa
                  go_wp2_with fail
                  go_ret
                  exact ⟨rfl, by (repeat' (first | with_reducible exact Below.refl _ _ | with_reducible assumption | with_reducible refine Below.drew ?_ | with_reducible refine below_drewN ?_ _ | with_reducible refine Below.setCell ?_ ?_ _ | with_reducible refine Below.alloc ?_ ?_ _ | omega | (simp; done) | (simp; omega)))⟩
                · rename_i gb
                  have HBB := Lib.hid hb
                  clear hb
                  obtain ⟨x, z, hx, hz, hga, hgb, rfl, rfl, rfl, rfl, hsg⟩ := rises_law HA.out HBB.out HQ.out
                  have KX := Lib.hid hx
                  have KZ := Lib.hid hz
                  have KA := Lib.hid hga
                  have KB := Lib.hid hgb
                  clear hx hz hga hgb
                  obtain ⟨c1, hc1⟩ : ∃ c1, cmpQ x z = c1 := ⟨_, rfl⟩
                  obtain ⟨c2, hc2⟩ : ∃ c2, cmpQ ga gb = c2 := ⟨_, rfl⟩
                  rw [hc1, hc2] at hsg
                  have sm1 := cmp_small x z
                  have sm2 := cmp_small ga gb
                  rw [hc1] at sm1
                  rw [hc2] at sm2
                  have HC1 := Lib.hid hc1
                  have HC2 := Lib.hid hc2
                  clear hc1 hc2
                  obtain ⟨pr, hpr, hp0⟩ : ∃ pr, IntKind.i64.wrap (c1 * c2) = pr ∧ 0 ≤ pr := by
                    refine ⟨_, IntWalk.i64_in _ ?_, hsg⟩
                    rcases (show (c1 = -1 ∨ c1 = 0 ∨ c1 = 1) from by omega) with rfl | rfl | rfl <;> omega
                  have HPR := Lib.hid hpr
                  clear hsg sm1 sm2 hpr
                  have cX := cellH X
                  obtain ⟨lX, lX1, lX2⟩ := ltH X
                  have cZ := cellH Z
                  obtain ⟨lZ, lZ1, lZ2⟩ := ltH Z
                  go_wp2_with fail
                  refine (HAT.out x.num x.den _ (by (repeat' (first | with_reducible exact Below.refl _ _ | with_reducible assumption | with_reducible refine Below.drew ?_ | with_reducible refine below_drewN ?_ _ | with_reducible refine Below.setCell ?_ ?_ _ | with_reducible refine Below.alloc ?_ ?_ _ | omega | (simp; done) | (simp; omega)))) ⟨by omega, by omega⟩ ⟨by omega, by omega⟩).mono ?_
                  rintro e w15 ⟨⟨n', d', err, rfl, hr⟩, hb15⟩
                  have hw15 : Below w.heap.size w w15 := stepH (by (repeat' (first | with_reducible exact Below.refl _ _ | with_reducible assumption | with_reducible refine Below.drew ?_ | with_reducible refine below_drewN ?_ _ | with_reducible refine Below.setCell ?_ ?_ _ | with_reducible refine Below.alloc ?_ ?_ _ | omega | (simp; done) | (simp; omega)))) hb15
                  rw [HA.out] at hr
                  obtain ⟨rfl, rfl, rfl⟩ := hr
                  replace X := keepH hb15 X.out
                  replace Z := keepH hb15 Z.out
                  have z15 := hw15.size
                  clear hb15 hw0 z0
                  clear cX lX lX1 lX2 cZ lZ lZ1 lZ2
                  have cX := cellH X
                  obtain ⟨lX, lX1, lX2⟩ := ltH X
                  have cZ := cellH Z
                  obtain ⟨lZ, lZ1, lZ2⟩ := ltH Z
                  go_wp2_with fail
                  refine (HAT.out z.num z.den _ (by (repeat' (first | with_reducible exact Below.refl _ _ | with_reducible assumption | with_reducible refine Below.drew ?_ | with_reducible refine below_drewN ?_ _ | with_reducible refine Below.setCell ?_ ?_ _ | with_reducible refine Below.alloc ?_ ?_ _ | omega | (simp; done) | (simp; omega)))) ⟨by omega, by omega⟩ ⟨by omega, by omega⟩).mono ?_
                  rintro e w16 ⟨⟨n', d', err, rfl, hr⟩, hb16⟩
                  have hw16 : Below w.heap.size w w16 := stepH (by (repeat' (first | with_reducible exact Below.refl _ _ | with_reducible assumption | with_reducible refine Below.drew ?_ | with_reducible refine below_drewN ?_ _ | with_reducible refine Below.setCell ?_ ?_ _ | with_reducible refine Below.alloc ?_ ?_ _ | omega | (simp; done) | (simp; omega)))) hb16
                  rw [HBB.out] at hr
                  obtain ⟨rfl, rfl, rfl⟩ := hr
                  replace X := keepH hb16 (blk_old X.out)
                  replace Z := keepH hb16 (blk_old Z.out)
                  have Aa := keepH hb16 (g := w15.heap.size) (blk_new rfl)
                  have z16 := hw16.size
                  clear hb16 hw15 z15
                  clear cX lX lX1 lX2 cZ lZ lZ1 lZ2
                  have cX := cellH X
                  obtain ⟨lX, lX1, lX2⟩ := ltH X
                  have cZ := cellH Z
                  obtain ⟨lZ, lZ1, lZ2⟩ := ltH Z
                  have cAa := cellH Aa
                  obtain ⟨lAa, lAa1, lAa2⟩ := ltH Aa
                  go_upto_region 13 with fail
                  have hw17 : Below w.heap.size w (w16.alloc (.cells #[.int .i64 gb.num, .int .i64 gb.den] 24)) := by (repeat' (first | with_reducible exact Below.refl _ _ | with_reducible assumption | with_reducible refine Below.drew ?_ | with_reducible refine below_drewN ?_ _ | with_reducible refine Below.setCell ?_ ?_ _ | with_reducible refine Below.alloc ?_ ?_ _ | omega | (simp; done) | (simp; omega)))
                  replace X : Hid ((w16.alloc (.cells #[.int .i64 gb.num, .int .i64 gb.den] 24)).heap[w.heap.size]? = some (.cells #[.int .i64 x.num, .int .i64 x.den] 24 (0, 0))) := (blk_old X.out)
                  replace Z : Hid ((w16.alloc (.cells #[.int .i64 gb.num, .int .i64 gb.den] 24)).heap[w.heap.size + 1]? = some (.cells #[.int .i64 z.num, .int .i64 z.den] 24 (0, 0))) := (blk_old Z.out)
                  replace Aa : Hid ((w16.alloc (.cells #[.int .i64 gb.num, .int .i64 gb.den] 24)).heap[w15.heap.size]? = some (.cells #[.int .i64 ga.num, .int .i64 ga.den] 24 (0, 0))) := (blk_old Aa.out)
                  have Ab : Hid ((w16.alloc (.cells #[.int .i64 gb.num, .int .i64 gb.den] 24)).heap[w16.heap.size]? = some (.cells #[.int .i64 gb.num, .int .i64 gb.den] 24 (0, 0))) := (blk_new rfl)
                  clear cX lX lX1 lX2 cZ lZ lZ1 lZ2 cAa lAa lAa1 lAa2
                  generalize (w16.alloc (.cells #[.int .i64 gb.num, .int .i64 gb.den] 24)) = w17 at *
                  have z17 := hw17.size
                  have cX := cellH X
                  obtain ⟨lX, lX1, lX2⟩ := ltH X
                  have cZ := cellH Z
                  obtain ⟨lZ, lZ1, lZ2⟩ := ltH Z
                  have cAa := cellH Aa
                  obtain ⟨lAa, lAa1, lAa2⟩ := ltH Aa
                  have cAb := cellH Ab
                  obtain ⟨lAb, lAb1, lAb2⟩ := ltH Ab
                  clear cX lX lX1 lX2 cZ lZ lZ1 lZ2 cAa lAa lAa1 lAa2 cAb lAb lAb1 lAb2
                  have hpr := HPR.out
                  go_region_held3 (fun w' => w'.cell? ⟨w.heap.size, 0, none⟩ = some (.int .i64 x.num) ∧ w'.cell? ⟨w.heap.size, 1, none⟩ = some (.int .i64 x.den) ∧ w'.cell? ⟨w.heap.size + 1, 0, none⟩ = some (.int .i64 z.num) ∧ w'.cell? ⟨w.heap.size + 1, 1, none⟩ = some (.int .i64 z.den) ∧ w'.cell? ⟨w15.heap.size, 0, none⟩ = some (.int .i64 ga.num) ∧ w'.cell? ⟨w15.heap.size, 1, none⟩ = some (.int .i64 ga.den) ∧ w'.cell? ⟨w16.heap.size, 0, none⟩ = some (.int .i64 gb.num) ∧ w'.cell? ⟨w16.heap.size, 1, none⟩ = some (.int .i64 gb.den)) (first | exact ⟨cellH X 0, cellH X 1, cellH Z 0, cellH Z 1, cellH Aa 0, cellH Aa 1, cellH Ab 0, cellH Ab 1⟩ | go_keep)
                    (first | (go_at_call 11; (with_reducible refine (refCmp_is x z _ _ KX.out KZ.out HC1.out).mono ?_); rintro e w18 ⟨rfl, hb18⟩; have hw18 : Below w.heap.size w w18 := stepH (by (repeat' (first | with_reducible exact Below.refl _ _ | with_reducible assumption | with_reducible refine Below.drew ?_ | with_reducible refine below_drewN ?_ _ | with_reducible refine Below.setCell ?_ ?_ _ | with_reducible refine Below.alloc ?_ ?_ _ | omega | (simp; done) | (simp; omega)))) hb18; replace X := keepH hb18 X.out; replace Z := keepH hb18 Z.out; replace Aa := keepH hb18 Aa.out; replace Ab := keepH hb18 Ab.out) | (go_at_call 11; (with_reducible refine (refCmp_is ga gb _ _ KA.out KB.out HC2.out).mono ?_); rintro e w18 ⟨rfl, hb18⟩; have hw18 : Below w.heap.size w w18 := stepH (by (repeat' (first | with_reducible exact Below.refl _ _ | with_reducible assumption | with_reducible refine Below.drew ?_ | with_reducible refine below_drewN ?_ _ | with_reducible refine Below.setCell ?_ ?_ _ | with_reducible refine Below.alloc ?_ ?_ _ | omega | (simp; done) | (simp; omega)))) hb18; replace X := keepH hb18 X.out; replace Z := keepH hb18 Z.out; replace Aa := keepH hb18 Aa.out; replace Ab := keepH hb18 Ab.out))
                  have z18 := hw18.size
                  all_goals go_wp2_with fail
                  all_goals go_ret
                  all_goals exact ⟨rfl, by (repeat' (first | with_reducible exact Below.refl _ _ | with_reducible assumption | with_reducible refine Below.drew ?_ | with_reducible refine below_drewN ?_ _ | with_reducible refine Below.setCell ?_ ?_ _ | with_reducible refine Below.alloc ?_ ?_ _ | omega | (simp; done) | (simp; omega)))⟩

end Go.Proofs.YtaoecddmbhfnmaaDoor
