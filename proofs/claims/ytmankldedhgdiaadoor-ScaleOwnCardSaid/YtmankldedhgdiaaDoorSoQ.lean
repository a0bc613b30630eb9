/- ScaleOwn: the ways out at its head: walks. -/
import Derived.Test.YtmankldedhgdiaaDoorSoP
namespace Go.Proofs.YtmankldedhgdiaaDoor
open Go.RowKit

set_option maxRecDepth 100000 in
set_option maxHeartbeats 16000000 in
theorem scaleOwn_out (s t : List BI) (A B : Option Addr) (c d : Nat) (k1 k2 x1 x2 : Int) (E : Nat → Addr) (w : World) (hl : RowAt encR 4 w w.heap.size A s) (hr : RowAt encR 4 w w.heap.size B t) (hI : ∀ b ∈ s, In4 b) (hJ : ∀ b ∈ t, In4 b) (Bk1 : -9223372036854775808 ≤ k1 ∧ k1 ≤ 9223372036854775807) (Bk2 : -9223372036854775808 ≤ k2 ∧ k2 ≤ 9223372036854775807) (Bx1 : -9223372036854775808 ≤ x1 ∧ x1 ≤ 9223372036854775807) (Bx2 : -9223372036854775808 ≤ x2 ∧ x2 ≤ 9223372036854775807) (hE : Env LC E w) (h : ¬ (s.length ≤ 200 ∧ t.length ≤ 200 ∧ scaleE s = none ∧ scaleE t = none ∧ validB k1 k2 = true ∧ validB x1 x2 = true)) :
    Calls Tryd.prog 3 #[.slice A s.length c, .slice B t.length d, .agg #[.int .i64 k1, .int .i64 k2], .agg #[.int .i64 x1, .int .i64 x2]] w fun e w' => e = .returned (.bool true) ∧ Below w.heap.size w w' := by
  obtain ⟨k1l, k1u⟩ := Bk1
  obtain ⟨k2l, k2u⟩ := Bk2
  obtain ⟨x1l, x1u⟩ := Bx1
  obtain ⟨x2l, x2u⟩ := Bx2
  have HE := Lib.hid hE
  by_cases h1 : 200 < s.length
  · clear h hl hr hI hJ hE
    go_enter Tryd.func3, Tryd.ntmps3
    go_wp2_with fail
    refine (first15_any E _ (HE.out.below (by (repeat' (first | with_reducible exact Below.refl _ _ | with_reducible assumption | with_reducible refine Below.drew ?_ | with_reducible refine below_drewN ?_ _ | with_reducible refine Below.setCell ?_ ?_ _ | with_reducible refine Below.alloc ?_ ?_ _ | omega | (simp; done) | (simp; omega)))))).mono ?_
    rintro e w1 ⟨rfl, hb1⟩
    have hw1 : Below w.heap.size w w1 := stepH (by (repeat' (first | with_reducible exact Below.refl _ _ | with_reducible assumption | with_reducible refine Below.drew ?_ | with_reducible refine below_drewN ?_ _ | with_reducible refine Below.setCell ?_ ?_ _ | with_reducible refine Below.alloc ?_ ?_ _ | omega | (simp; done) | (simp; omega)))) hb1
    have K := keepH hb1 (g := w.heap.size) (blk_old (blk_new rfl))
    have X := keepH hb1 (g := w.heap.size + 1) (blk_new (by simp))
    have z1 := hw1.size
    clear hb1
    have cK := cellH K
    obtain ⟨lK, lK1, lK2⟩ := ltH K
    have cX := cellH X
    obtain ⟨lX, lX1, lX2⟩ := ltH X
    go_wp2_with fail
    go_ret
    exact ⟨rfl, by (repeat' (first | with_reducible exact Below.refl _ _ | with_reducible assumption | with_reducible refine Below.drew ?_ | with_reducible refine below_drewN ?_ _ | with_reducible refine Below.setCell ?_ ?_ _ | with_reducible refine Below.alloc ?_ ?_ _ | omega | (simp; done) | (simp; omega)))⟩
  by_cases h2 : 200 < t.length
  · have h1 : ¬ (200 : Int) < (s.length : Int) := by omega
    clear h hl hr hI hJ hE
    go_enter Tryd.func3, Tryd.ntmps3
    go_wp2_with fail
    refine (first15_any E _ (HE.out.below (by (repeat' (first | with_reducible exact Below.refl _ _ | with_reducible assumption | with_reducible refine Below.drew ?_ | with_reducible refine below_drewN ?_ _ | with_reducible refine Below.setCell ?_ ?_ _ | with_reducible refine Below.alloc ?_ ?_ _ | omega | (simp; done) | (simp; omega)))))).mono ?_
    rintro e w2 ⟨rfl, hb2⟩
    have hw2 : Below w.heap.size w w2 := stepH (by (repeat' (first | with_reducible exact Below.refl _ _ | with_reducible assumption | with_reducible refine Below.drew ?_ | with_reducible refine below_drewN ?_ _ | with_reducible refine Below.setCell ?_ ?_ _ | with_reducible refine Below.alloc ?_ ?_ _ | omega | (simp; done) | (simp; omega)))) hb2
    have K := keepH hb2 (g := w.heap.size) (blk_old (blk_new rfl))
    have X := keepH hb2 (g := w.heap.size + 1) (blk_new (by simp))
    have z2 := hw2.size
    clear hb2
    have cK := cellH K
    obtain ⟨lK, lK1, lK2⟩ := ltH K
    have cX := cellH X
    obtain ⟨lX, lX1, lX2⟩ := ltH X
    go_wp2_with fail
    go_ret
    exact ⟨rfl, by (repeat' (first | with_reducible exact Below.refl _ _ | with_reducible assumption | with_reducible refine Below.drew ?_ | with_reducible refine below_drewN ?_ _ | with_reducible refine Below.setCell ?_ ?_ _ | with_reducible refine Below.alloc ?_ ?_ _ | omega | (simp; done) | (simp; omega)))⟩
  have HVS := Lib.hid (fun w' (h : Below w.heap.size w w') => refValid15_any s A c w' ((hl.below h (Nat.le_refl _)).more h.size) (by omega) hI)
  have HVT := Lib.hid (fun w' (h : Below w.heap.size w w') => refValid15_any t B d w' ((hr.below h (Nat.le_refl _)).more h.size) (by omega) hJ)
  have q1 : ¬ (200 : Int) < (s.length : Int) := by omega
  have q2 : ¬ (200 : Int) < (t.length : Int) := by omega
  clear hl hr hI hJ hE
  have H := Lib.hid h
  clear h
  obtain ⟨cs, hcs⟩ : ∃ cs, codeE (scaleE s) = cs := ⟨_, rfl⟩
  have HCS := Lib.hid hcs
  obtain ⟨ct, hct⟩ : ∃ ct, codeE (scaleE t) = ct := ⟨_, rfl⟩
  have HCT := Lib.hid hct
  cases hs : scaleE s
  · have hcs0 : cs = 0 := by rw [← hcs, hs]; rfl
    subst hcs0
    clear hcs
    have HS := Lib.hid hs
    clear hs
    cases ht : scaleE t
    · have hct0 : ct = 0 := by rw [← hct, ht]; rfl
      subst hct0
      clear hct
      have HT := Lib.hid ht
      clear ht
      cases hk : validB k1 k2
      · have HK := Lib.hid hk
        clear hk
        go_enter Tryd.func3, Tryd.ntmps3
        go_wp2_with fail
        refine (first15_any E _ (HE.out.below (by (repeat' (first | with_reducible exact Below.refl _ _ | with_reducible assumption | with_reducible refine Below.drew ?_ | with_reducible refine below_drewN ?_ _ | with_reducible refine Below.setCell ?_ ?_ _ | with_reducible refine Below.alloc ?_ ?_ _ | omega | (simp; done) | (simp; omega)))))).mono ?_
        rintro e w3 ⟨rfl, hb3⟩
        have hw3 : Below w.heap.size w w3 := stepH (by (repeat' (first | with_reducible exact Below.refl _ _ | with_reducible assumption | with_reducible refine Below.drew ?_ | with_reducible refine below_drewN ?_ _ | with_reducible refine Below.setCell ?_ ?_ _ | with_reducible refine Below.alloc ?_ ?_ _ | omega | (simp; done) | (simp; omega)))) hb3
        have K := keepH hb3 (g := w.heap.size) (blk_old (blk_new rfl))
        have X := keepH hb3 (g := w.heap.size + 1) (blk_new (by simp))
        have z3 := hw3.size
        clear hb3
        have cK := cellH K
        obtain ⟨lK, lK1, lK2⟩ := ltH K
        have cX := cellH X
        obtain ⟨lX, lX1, lX2⟩ := ltH X
        go_wp2_with fail
        refine (HVS.out _ (by (repeat' (first | with_reducible exact Below.refl _ _ | with_reducible assumption | with_reducible refine Below.drew ?_ | with_reducible refine below_drewN ?_ _ | with_reducible refine Below.setCell ?_ ?_ _ | with_reducible refine Below.alloc ?_ ?_ _ | omega | (simp; done) | (simp; omega))))).mono ?_
        rintro e w4 ⟨rfl, hb4⟩
        have hw4 : Below w.heap.size w w4 := stepH (by (repeat' (first | with_reducible exact Below.refl _ _ | with_reducible assumption | with_reducible refine Below.drew ?_ | with_reducible refine below_drewN ?_ _ | with_reducible refine Below.setCell ?_ ?_ _ | with_reducible refine Below.alloc ?_ ?_ _ | omega | (simp; done) | (simp; omega)))) hb4
        rw [HCS.out]
        replace K := keepH hb4 K.out
        replace X := keepH hb4 X.out
        have z4 := hw4.size
        clear hb4 hw3 z3
        clear cK lK lK1 lK2 cX lX lX1 lX2
        have cK := cellH K
        obtain ⟨lK, lK1, lK2⟩ := ltH K
        have cX := cellH X
        obtain ⟨lX, lX1, lX2⟩ := ltH X
        go_wp2_with fail
        refine (HVT.out _ (by (repeat' (first | with_reducible exact Below.refl _ _ | with_reducible assumption | with_reducible refine Below.drew ?_ | with_reducible refine below_drewN ?_ _ | with_reducible refine Below.setCell ?_ ?_ _ | with_reducible refine Below.alloc ?_ ?_ _ | omega | (simp; done) | (simp; omega))))).mono ?_
        rintro e w5 ⟨rfl, hb5⟩
        have hw5 : Below w.heap.size w w5 := stepH (by (repeat' (first | with_reducible exact Below.refl _ _ | with_reducible assumption | with_reducible refine Below.drew ?_ | with_reducible refine below_drewN ?_ _ | with_reducible refine Below.setCell ?_ ?_ _ | with_reducible refine Below.alloc ?_ ?_ _ | omega | (simp; done) | (simp; omega)))) hb5
        rw [HCT.out]
        replace K := keepH hb5 K.out
        replace X := keepH hb5 X.out
        have z5 := hw5.size
        clear hb5 hw4 z4
        clear cK lK lK1 lK2 cX lX lX1 lX2
        have cK := cellH K
        obtain ⟨lK, lK1, lK2⟩ := ltH K
        have cX := cellH X
        obtain ⟨lX, lX1, lX2⟩ := ltH X
        go_wp2_with fail
        refine (refv_is k1 k2 false _ HK.out (by omega) (by omega) (by omega) (by omega)).mono ?_
        rintro e w6 ⟨rfl, hb6⟩
        have hw6 : Below w.heap.size w w6 := stepH (by (repeat' (first | with_reducible exact Below.refl _ _ | with_reducible assumption | with_reducible refine Below.drew ?_ | with_reducible refine below_drewN ?_ _ | with_reducible refine Below.setCell ?_ ?_ _ | with_reducible refine Below.alloc ?_ ?_ _ | omega | (simp; done) | (simp; omega)))) hb6
        replace K := keepH hb6 K.out
        replace X := keepH hb6 X.out
        have z6 := hw6.size
        clear hb6 hw5 z5
        clear cK lK lK1 lK2 cX lX lX1 lX2
        have cK := cellH K
        obtain ⟨lK, lK1, lK2⟩ := ltH K
        have cX := cellH X
        obtain ⟨lX, lX1, lX2⟩ := ltH X
        go_wp2_with fail
        go_ret
        exact ⟨rfl, by (repeat' (first | with_reducible exact Below.refl _ _ | with_reducible assumption | with_reducible refine Below.drew ?_ | with_reducible refine below_drewN ?_ _ | with_reducible refine Below.setCell ?_ ?_ _ | with_reducible refine Below.alloc ?_ ?_ _ | omega | (simp; done) | (simp; omega)))⟩
      · have HK := Lib.hid hk
        clear hk
        cases hx : validB x1 x2
        · have HX := Lib.hid hx
          clear hx
          go_enter Tryd.func3, Tryd.ntmps3
          go_wp2_with fail
          refine (first15_any E _ (HE.out.below (by (repeat' (first | with_reducible exact Below.refl _ _ | with_reducible assumption | with_reducible refine Below.drew ?_ | with_reducible refine below_drewN ?_ _ | with_reducible refine Below.setCell ?_ ?_ _ | with_reducible refine Below.alloc ?_ ?_ _ | omega | (simp; done) | (simp; omega)))))).mono ?_
          rintro e w7 ⟨rfl, hb7⟩
          have hw7 : Below w.heap.size w w7 := stepH (by (repeat' (first | with_reducible exact Below.refl _ _ | with_reducible assumption | with_reducible refine Below.drew ?_ | with_reducible refine below_drewN ?_ _ | with_reducible refine Below.setCell ?_ ?_ _ | with_reducible refine Below.alloc ?_ ?_ _ | omega | (simp; done) | (simp; omega)))) hb7
          have K := keepH hb7 (g := w.heap.size) (blk_old (blk_new rfl))
          have X := keepH hb7 (g := w.heap.size + 1) (blk_new (by simp))
          have z7 := hw7.size
          clear hb7
          have cK := cellH K
          obtain ⟨lK, lK1, lK2⟩ := ltH K
          have cX := cellH X
          obtain ⟨lX, lX1, lX2⟩ := ltH X
          go_wp2_with fail
          refine (HVS.out _ (by (repeat' (first | with_reducible exact Below.refl _ _ | with_reducible assumption | with_reducible refine Below.drew ?_ | with_reducible refine below_drewN ?_ _ | with_reducible refine Below.setCell ?_ ?_ _ | with_reducible refine Below.alloc ?_ ?_ _ | omega | (simp; done) | (simp; omega))))).mono ?_
          rintro e w8 ⟨rfl, hb8⟩
          have hw8 : Below w.heap.size w w8 := stepH (by (repeat' (first | with_reducible exact Below.refl _ _ | with_reducible assumption | with_reducible refine Below.drew ?_ | with_reducible refine below_drewN ?_ _ | with_reducible refine Below.setCell ?_ ?_ _ | with_reducible refine Below.alloc ?_ ?_ _ | omega | (simp; done) | (simp; omega)))) hb8
          rw [HCS.out]
          replace K := keepH hb8 K.out
          replace X := keepH hb8 X.out
          have z8 := hw8.size
          clear hb8 hw7 z7
          clear cK lK lK1 lK2 cX lX lX1 lX2
          have cK := cellH K
          obtain ⟨lK, lK1, lK2⟩ := ltH K
          have cX := cellH X
          obtain ⟨lX, lX1, lX2⟩ := ltH X
          go_wp2_with fail
          refine (HVT.out _ (by (repeat' (first | with_reducible exact Below.refl _ _ | with_reducible assumption | with_reducible refine Below.drew ?_ | with_reducible refine below_drewN ?_ _ | with_reducible refine Below.setCell ?_ ?_ _ | with_reducible refine Below.alloc ?_ ?_ _ | omega | (simp; done) | (simp; omega))))).mono ?_
          rintro e w9 ⟨rfl, hb9⟩
          have hw9 : Below w.heap.size w w9 := stepH (by (repeat' (first | with_reducible exact Below.refl _ _ | with_reducible assumption | with_reducible refine Below.drew ?_ | with_reducible refine below_drewN ?_ _ | with_reducible refine Below.setCell ?_ ?_ _ | with_reducible refine Below.alloc ?_ ?_ _ | omega | (simp; done) | (simp; omega)))) hb9
          rw [HCT.out]
          replace K := keepH hb9 K.out
          replace X := keepH hb9 X.out
          have z9 := hw9.size
          clear hb9 hw8 z8
          clear cK lK lK1 lK2 cX lX lX1 lX2
          have cK := cellH K
          obtain ⟨lK, lK1, lK2⟩ := ltH K
          have cX := cellH X
          obtain ⟨lX, lX1, lX2⟩ := ltH X
          go_wp2_with fail
          refine (refv_is k1 k2 true _ HK.out (by omega) (by omega) (by omega) (by omega)).mono ?_
          rintro e w10 ⟨rfl, hb10⟩
          have hw10 : Below w.heap.size w w10 := stepH (by (repeat' (first | with_reducible exact Below.refl _ _ | with_reducible assumption | with_reducible refine Below.drew ?_ | with_reducible refine below_drewN ?_ _ | with_reducible refine Below.setCell ?_ ?_ _ | with_reducible refine Below.alloc ?_ ?_ _ | omega | (simp; done) | (simp; omega)))) hb10
          replace K := keepH hb10 K.out
          replace X := keepH hb10 X.out
          have z10 := hw10.size
          clear hb10 hw9 z9
          clear cK lK lK1 lK2 cX lX lX1 lX2
          have cK := cellH K
          obtain ⟨lK, lK1, lK2⟩ := ltH K
          have cX := cellH X
          obtain ⟨lX, lX1, lX2⟩ := ltH X
          go_wp2_with fail
          refine (refv_is x1 x2 false _ HX.out (by omega) (by omega) (by omega) (by omega)).mono ?_
          rintro e w11 ⟨rfl, hb11⟩
          have hw11 : Below w.heap.size w w11 := stepH (by (repeat' (first | with_reducible exact Below.refl _ _ | with_reducible assumption | with_reducible refine Below.drew ?_ | with_reducible refine below_drewN ?_ _ | with_reducible refine Below.setCell ?_ ?_ _ | with_reducible refine Below.alloc ?_ ?_ _ | omega | (simp; done) | (simp; omega)))) hb11
          replace K := keepH hb11 K.out
          replace X := keepH hb11 X.out
          have z11 := hw11.size
          clear hb11 hw10 z10
          clear cK lK lK1 lK2 cX lX lX1 lX2
          have cK := cellH K
          obtain ⟨lK, lK1, lK2⟩ := ltH K
          have cX := cellH X
          obtain ⟨lX, lX1, lX2⟩ := ltH X
          go_wp2_with fail
          go_ret
          exact ⟨rfl, by (repeat' (first | with_reducible exact Below.refl _ _ | with_reducible assumption | with_reducible refine Below.drew ?_ | with_reducible refine below_drewN ?_ _ | with_reducible refine Below.setCell ?_ ?_ _ | with_reducible refine Below.alloc ?_ ?_ _ | omega | (simp; done) | (simp; omega)))⟩
        · exact absurd ⟨Nat.le_of_not_lt h1, Nat.le_of_not_lt h2, HS.out, HT.out, HK.out, hx⟩ H.out
    · have hne : (ct != 0) = true := bne_iff_ne.2 (by rw [← hct, ht]; exact codeE_ne)
      clear ht hct
      go_enter Tryd.func3, Tryd.ntmps3
      go_wp2_with fail
      refine (first15_any E _ (HE.out.below (by (repeat' (first | with_reducible exact Below.refl _ _ | with_reducible assumption | with_reducible refine Below.drew ?_ | with_reducible refine below_drewN ?_ _ | with_reducible refine Below.setCell ?_ ?_ _ | with_reducible refine Below.alloc ?_ ?_ _ | omega | (simp; done) | (simp; omega)))))).mono ?_
      rintro e w12 ⟨rfl, hb12⟩
      have hw12 : Below w.heap.size w w12 := stepH (by (repeat' (first | with_reducible exact Below.refl _ _ | with_reducible assumption | with_reducible refine Below.drew ?_ | with_reducible refine below_drewN ?_ _ | with_reducible refine Below.setCell ?_ ?_ _ | with_reducible refine Below.alloc ?_ ?_ _ | omega | (simp; done) | (simp; omega)))) hb12
      have K := keepH hb12 (g := w.heap.size) (blk_old (blk_new rfl))
      have X := keepH hb12 (g := w.heap.size + 1) (blk_new (by simp))
      have z12 := hw12.size
      clear hb12
      have cK := cellH K
      obtain ⟨lK, lK1, lK2⟩ := ltH K
      have cX := cellH X
      obtain ⟨lX, lX1, lX2⟩ := ltH X
      go_wp2_with fail
      refine (HVS.out _ (by (repeat' (first | with_reducible exact Below.refl _ _ | with_reducible assumption | with_reducible refine Below.drew ?_ | with_reducible refine below_drewN ?_ _ | with_reducible refine Below.setCell ?_ ?_ _ | with_reducible refine Below.alloc ?_ ?_ _ | omega | (simp; done) | (simp; omega))))).mono ?_
      rintro e w13 ⟨rfl, hb13⟩
      have hw13 : Below w.heap.size w w13 := stepH (by (repeat' (first | with_reducible exact Below.refl _ _ | with_reducible assumption | with_reducible refine Below.drew ?_ | with_reducible refine below_drewN ?_ _ | with_reducible refine Below.setCell ?_ ?_ _ | with_reducible refine Below.alloc ?_ ?_ _ | omega | (simp; done) | (simp; omega)))) hb13
      rw [HCS.out]
      replace K := keepH hb13 K.out
      replace X := keepH hb13 X.out
      have z13 := hw13.size
      clear hb13 hw12 z12
      clear cK lK lK1 lK2 cX lX lX1 lX2
      have cK := cellH K
      obtain ⟨lK, lK1, lK2⟩ := ltH K
      have cX := cellH X
      obtain ⟨lX, lX1, lX2⟩ := ltH X
      go_wp2_with fail
      refine (HVT.out _ (by (repeat' (first | with_reducible exact Below.refl _ _ | with_reducible assumption | with_reducible refine Below.drew ?_ | with_reducible refine below_drewN ?_ _ | with_reducible refine Below.setCell ?_ ?_ _ | with_reducible refine Below.alloc ?_ ?_ _ | omega | (simp; done) | (simp; omega))))).mono ?_
      rintro e w14 ⟨rfl, hb14⟩
      have hw14 : Below w.heap.size w w14 := stepH (by (repeat' (first | with_reducible exact Below.refl _ _ | with_reducible assumption | with_reducible refine Below.drew ?_ | with_reducible refine below_drewN ?_ _ | with_reducible refine Below.setCell ?_ ?_ _ | with_reducible refine Below.alloc ?_ ?_ _ | omega | (simp; done) | (simp; omega)))) hb14
      rw [HCT.out]
      replace K := keepH hb14 K.out
      replace X := keepH hb14 X.out
      have z14 := hw14.size
      clear hb14 hw13 z13
      clear cK lK lK1 lK2 cX lX lX1 lX2
      have cK := cellH K
      obtain ⟨lK, lK1, lK2⟩ := ltH K
      have cX := cellH X
      obtain ⟨lX, lX1, lX2⟩ := ltH X
      go_wp2_with fail
      go_ret
      exact ⟨rfl, by (repeat' (first | with_reducible exact Below.refl _ _ | with_reducible assumption | with_reducible refine Below.drew ?_ | with_reducible refine below_drewN ?_ _ | with_reducible refine Below.setCell ?_ ?_ _ | with_reducible refine Below.alloc ?_ ?_ _ | omega | (simp; done) | (simp; omega)))⟩
  · have hne : (cs != 0) = true := bne_iff_ne.2 (by rw [← hcs, hs]; exact codeE_ne)
    clear hs hcs hct
    go_enter Tryd.func3, Tryd.ntmps3
    go_wp2_with fail
    refine (first15_any E _ (HE.out.below (by (repeat' (first | with_reducible exact Below.refl _ _ | with_reducible assumption | with_reducible refine Below.drew ?_ | with_reducible refine below_drewN ?_ _ | with_reducible refine Below.setCell ?_ ?_ _ | with_reducible refine Below.alloc ?_ ?_ _ | omega | (simp; done) | (simp; omega)))))).mono ?_
    rintro e w15 ⟨rfl, hb15⟩
    have hw15 : Below w.heap.size w w15 := stepH (by (repeat' (first | with_reducible exact Below.refl _ _ | with_reducible assumption | with_reducible refine Below.drew ?_ | with_reducible refine below_drewN ?_ _ | with_reducible refine Below.setCell ?_ ?_ _ | with_reducible refine Below.alloc ?_ ?_ _ | omega | (simp; done) | (simp; omega)))) hb15
    have K := keepH hb15 (g := w.heap.size) (blk_old (blk_new rfl))
    have X := keepH hb15 (g := w.heap.size + 1) (blk_new (by simp))
    have z15 := hw15.size
    clear hb15
    have cK := cellH K
    obtain ⟨lK, lK1, lK2⟩ := ltH K
    have cX := cellH X
    obtain ⟨lX, lX1, lX2⟩ := ltH X
    go_wp2_with fail
    refine (HVS.out _ (by (repeat' (first | with_reducible exact Below.refl _ _ | with_reducible assumption | with_reducible refine Below.drew ?_ | with_reducible refine below_drewN ?_ _ | with_reducible refine Below.setCell ?_ ?_ _ | with_reducible refine Below.alloc ?_ ?_ _ | omega | (simp; done) | (simp; omega))))).mono ?_
    rintro e w16 ⟨rfl, hb16⟩
    have hw16 : Below w.heap.size w w16 := stepH (by (repeat' (first | with_reducible exact Below.refl _ _ | with_reducible assumption | with_reducible refine Below.drew ?_ | with_reducible refine below_drewN ?_ _ | with_reducible refine Below.setCell ?_ ?_ _ | with_reducible refine Below.alloc ?_ ?_ _ | omega | (simp; done) | (simp; omega)))) hb16
    rw [HCS.out]
    replace K := keepH hb16 K.out
    replace X := keepH hb16 X.out
    have z16 := hw16.size
    clear hb16 hw15 z15
    clear cK lK lK1 lK2 cX lX lX1 lX2
    have cK := cellH K
    obtain ⟨lK, lK1, lK2⟩ := ltH K
    have cX := cellH X
    obtain ⟨lX, lX1, lX2⟩ := ltH X
    go_wp2_with fail
    go_ret
    exact ⟨rfl, by (repeat' (first | with_reducible exact Below.refl _ _ | with_reducible assumption | with_reducible refine Below.drew ?_ | with_reducible refine below_drewN ?_ _ | with_reducible refine Below.setCell ?_ ?_ _ | with_reducible refine Below.alloc ?_ ?_ _ | omega | (simp; done) | (simp; omega)))⟩

end Go.Proofs.YtmankldedhgdiaaDoor
