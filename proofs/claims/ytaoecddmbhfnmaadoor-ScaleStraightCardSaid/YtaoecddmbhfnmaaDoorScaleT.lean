/- The walk of ScaleStraight. -/
import Derived.Test.YtaoecddmbhfnmaaDoorScaleR
import Derived.Test.YtaoecddmbhfnmaaDoorScaleM
import Derived.Test.YtaoecddmbhfnmaaDoorRefN
namespace Go.Proofs.YtaoecddmbhfnmaaDoor
open Go.RowKit

theorem straight_law {s : List BI} {x z a b r : Rat} (h1 : atI s x.num x.den = .ok a) (h2 : atI s z.num z.den = .ok b) (h3 : rateI s z.num z.den = .ok r) (hxz : x < z) (h : ∀ q ∈ s, validB q.1 q.2.1 = true → ¬ (x < frm q ∧ frm q < z)) :
    Good a ∧ Good b ∧ Good r ∧ b = a + r * (z - x) := by
  obtain ⟨gs, x', rfl, hg, hu, _, _, _, e1, e2, ha, ha2, _⟩ := atI_ok h1
  obtain rfl := rat_eq_of e1 e2
  obtain ⟨gs', z', e3, _, _, _, _, _, e4, e5, hb, hb2, _⟩ := atI_ok h2
  obtain rfl := map_bR_inj e3
  obtain rfl := rat_eq_of e4 e5
  have hr : r = rateL z 0 gs := by
    unfold rateI at h3
    split at h3
    · cases h3
    · cases h3; rw [fracB_bR, Rat.num_divInt_den]
  have hgr : ∀ (l : List (Rat × Rat)) (r0 : Rat), Good r0 → (∀ b ∈ l, GoodB b) → Good (rateL z r0 l) := by
    intro l
    induction l with
    | nil => intro r0 h _; exact h
    | cons c l ih =>
      intro r0 h0 hl
      refine ih _ ?_ fun b hb => hl b (List.mem_cons_of_mem _ hb)
      split
      · exact (hl c (List.mem_cons_self ..)).2
      · exact h0
  refine ⟨ha, hb, hr ▸ hgr gs 0 good_zero hg, ?_⟩
  rw [ha2, hb2, hr]
  refine straight_tot hu hxz fun c hc => ?_
  have hv : validB (bR c).1 (bR c).2.1 = true := by rw [show validB (bR c).1 (bR c).2.1 = validB c.1.num c.1.den from rfl, validB_good, decide_eq_true (hg c hc).1]
  have hn := h _ (List.mem_map_of_mem hc) hv
  rw [frm_bR] at hn
  rcases tri c.1 x with h | h | h
  · exact .inl (Rat.le_of_lt h)
  · exact .inl (by rw [h]; exact Rat.le_refl)
  · exact .inr (Rat.not_lt.1 fun h9 => hn ⟨h, h9⟩)

theorem same_q (x y : Rat) (w : World) (h : x = y) : Calls Tryd.prog 17 #[.agg #[.int .i64 x.num, .int .i64 x.den], .agg #[.int .i64 y.num, .int .i64 y.den]] w fun e w' => e = .returned (.bool true) ∧ Below w.heap.size w w' := by
  subst h; exact first_same _ _ w

theorem frm_of {n d n2 d2 : Int} {f : Rat} (h1 : n = f.num) (h2 : d = f.den) : frm (n, d, n2, d2) = f := by subst h1 h2; exact Rat.num_divInt_den f

set_option maxRecDepth 100000 in
set_option maxHeartbeats 32000000 in
theorem scaleStraight_walk (s : List BI) (A : Option Addr) (c : Nat) (x1 x2 z1 z2 : Int) (E : Nat → Addr) (w : World) (hl : RowAt encR 4 w w.heap.size A s) (hm : s.length ≤ 9223372036854775807) (hI : ∀ b ∈ s, In4 b) (Bx1 : -9223372036854775808 ≤ x1 ∧ x1 ≤ 9223372036854775807) (Bx2 : -9223372036854775808 ≤ x2 ∧ x2 ≤ 9223372036854775807) (Bz1 : -9223372036854775808 ≤ z1 ∧ z1 ≤ 9223372036854775807) (Bz2 : -9223372036854775808 ≤ z2 ∧ z2 ≤ 9223372036854775807) (hE : Env LC E w) :
    Calls Tryd.prog 3 #[.slice A s.length c, .agg #[.int .i64 x1, .int .i64 x2], .agg #[.int .i64 z1, .int .i64 z2]] w fun e w' => e = .returned (.bool true) ∧ Below w.heap.size w w' := by
  obtain ⟨x1l, x1u⟩ := Bx1
  obtain ⟨x2l, x2u⟩ := Bx2
  obtain ⟨z1l, z1u⟩ := Bz1
  obtain ⟨z2l, z2u⟩ := Bz2
  have HAT := Lib.hid (fun n d w' (h : Below w.heap.size w w') b1 b2 => at15_any s A c n d E w' ((hl.below h (Nat.le_refl _)).more h.size) hm hI b1 b2 (hE.below h))
  have HRA := Lib.hid (fun n d w' (h : Below w.heap.size w w') b1 b2 => rate15_any s A c n d E w' ((hl.below h (Nat.le_refl _)).more h.size) hm hI b1 b2 (hE.below h))
  have HL := Lib.hid hl
  have HI := Lib.hid hI
  have HE := Lib.hid hE
  clear hl hI hE
  by_cases h2 : 200 < s.length
  · go_enter Tryd.func3, Tryd.ntmps3
    go_wp2_with fail
    refine (first15_any E _ (HE.out.below (by (repeat' (first | with_reducible exact Below.refl _ _ | with_reducible assumption | with_reducible refine Below.drew ?_ | with_reducible refine below_drewN ?_ _ | with_reducible refine Below.setCell ?_ ?_ _ | with_reducible refine Below.alloc ?_ ?_ _ | omega | (simp; done) | (simp; omega)))))).mono ?_
    rintro e w1 ⟨rfl, hb1⟩
    have hw1 : Below w.heap.size w w1 := stepH (by (repeat' (first | with_reducible exact Below.refl _ _ | with_reducible assumption | with_reducible refine Below.drew ?_ | with_reducible refine below_drewN ?_ _ | with_reducible refine Below.setCell ?_ ?_ _ | with_reducible refine Below.alloc ?_ ?_ _ | omega | (simp; done) | (simp; omega)))) hb1
    have X := keepH hb1 (g := w.heap.size) (blk_old (blk_new rfl))
    have Z := keepH hb1 (g := w.heap.size + 1) (blk_new (by simp))
    have z1 := hw1.size
    clear hb1
    have cX := cellH X
    obtain ⟨lX, lX1, lX2⟩ := ltH X
    have cZ := cellH Z
    obtain ⟨lZ, lZ1, lZ2⟩ := ltH Z
    go_wp2_with fail
    go_ret
    exact ⟨rfl, by (repeat' (first | with_reducible exact Below.refl _ _ | with_reducible assumption | with_reducible refine Below.drew ?_ | with_reducible refine below_drewN ?_ _ | with_reducible refine Below.setCell ?_ ?_ _ | with_reducible refine Below.alloc ?_ ?_ _ | omega | (simp; done) | (simp; omega)))⟩
  · cases hx : validB x1 x2
    · have HV := Lib.hid hx
      clear hx
      go_enter Tryd.func3, Tryd.ntmps3
      go_wp2_with fail
      refine (first15_any E _ (HE.out.below (by (repeat' (first | with_reducible exact Below.refl _ _ | with_reducible assumption | with_reducible refine Below.drew ?_ | with_reducible refine below_drewN ?_ _ | with_reducible refine Below.setCell ?_ ?_ _ | with_reducible refine Below.alloc ?_ ?_ _ | omega | (simp; done) | (simp; omega)))))).mono ?_
      rintro e w2 ⟨rfl, hb2⟩
      have hw2 : Below w.heap.size w w2 := stepH (by (repeat' (first | with_reducible exact Below.refl _ _ | with_reducible assumption | with_reducible refine Below.drew ?_ | with_reducible refine below_drewN ?_ _ | with_reducible refine Below.setCell ?_ ?_ _ | with_reducible refine Below.alloc ?_ ?_ _ | omega | (simp; done) | (simp; omega)))) hb2
      have X := keepH hb2 (g := w.heap.size) (blk_old (blk_new rfl))
      have Z := keepH hb2 (g := w.heap.size + 1) (blk_new (by simp))
      have z2 := hw2.size
      clear hb2
      have cX := cellH X
      obtain ⟨lX, lX1, lX2⟩ := ltH X
      have cZ := cellH Z
      obtain ⟨lZ, lZ1, lZ2⟩ := ltH Z
      go_wp2_with fail
      refine (refv_is x1 x2 false _ HV.out (by omega) (by omega) (by omega) (by omega)).mono ?_
      rintro e w3 ⟨rfl, hb3⟩
      have hw3 : Below w.heap.size w w3 := stepH (by (repeat' (first | with_reducible exact Below.refl _ _ | with_reducible assumption | with_reducible refine Below.drew ?_ | with_reducible refine below_drewN ?_ _ | with_reducible refine Below.setCell ?_ ?_ _ | with_reducible refine Below.alloc ?_ ?_ _ | omega | (simp; done) | (simp; omega)))) hb3
      replace X := keepH hb3 X.out
      replace Z := keepH hb3 Z.out
      have z3 := hw3.size
      clear hb3 hw2 z2
      clear cX lX lX1 lX2 cZ lZ lZ1 lZ2
      have cX := cellH X
      obtain ⟨lX, lX1, lX2⟩ := ltH X
      have cZ := cellH Z
      obtain ⟨lZ, lZ1, lZ2⟩ := ltH Z
      go_wp2_with fail
      go_ret
      exact ⟨rfl, by (repeat' (first | with_reducible exact Below.refl _ _ | with_reducible assumption | with_reducible refine Below.drew ?_ | with_reducible refine below_drewN ?_ _ | with_reducible refine Below.setCell ?_ ?_ _ | with_reducible refine Below.alloc ?_ ?_ _ | omega | (simp; done) | (simp; omega)))⟩
    · have HV := Lib.hid hx
      clear hx
      cases hz : validB z1 z2
      · have HV2 := Lib.hid hz
        clear hz
        go_enter Tryd.func3, Tryd.ntmps3
        go_wp2_with fail
        refine (first15_any E _ (HE.out.below (by (repeat' (first | with_reducible exact Below.refl _ _ | with_reducible assumption | with_reducible refine Below.drew ?_ | with_reducible refine below_drewN ?_ _ | with_reducible refine Below.setCell ?_ ?_ _ | with_reducible refine Below.alloc ?_ ?_ _ | omega | (simp; done) | (simp; omega)))))).mono ?_
        rintro e w4 ⟨rfl, hb4⟩
        have hw4 : Below w.heap.size w w4 := stepH (by (repeat' (first | with_reducible exact Below.refl _ _ | with_reducible assumption | with_reducible refine Below.drew ?_ | with_reducible refine below_drewN ?_ _ | with_reducible refine Below.setCell ?_ ?_ _ | with_reducible refine Below.alloc ?_ ?_ _ | omega | (simp; done) | (simp; omega)))) hb4
        have X := keepH hb4 (g := w.heap.size) (blk_old (blk_new rfl))
        have Z := keepH hb4 (g := w.heap.size + 1) (blk_new (by simp))
        have z4 := hw4.size
        clear hb4
        have cX := cellH X
        obtain ⟨lX, lX1, lX2⟩ := ltH X
        have cZ := cellH Z
        obtain ⟨lZ, lZ1, lZ2⟩ := ltH Z
        go_wp2_with fail
        refine (refv_is x1 x2 true _ HV.out (by omega) (by omega) (by omega) (by omega)).mono ?_
        rintro e w5 ⟨rfl, hb5⟩
        have hw5 : Below w.heap.size w w5 := stepH (by (repeat' (first | with_reducible exact Below.refl _ _ | with_reducible assumption | with_reducible refine Below.drew ?_ | with_reducible refine below_drewN ?_ _ | with_reducible refine Below.setCell ?_ ?_ _ | with_reducible refine Below.alloc ?_ ?_ _ | omega | (simp; done) | (simp; omega)))) hb5
        replace X := keepH hb5 X.out
        replace Z := keepH hb5 Z.out
        have z5 := hw5.size
        clear hb5 hw4 z4
        clear cX lX lX1 lX2 cZ lZ lZ1 lZ2
        have cX := cellH X
        obtain ⟨lX, lX1, lX2⟩ := ltH X
        have cZ := cellH Z
        obtain ⟨lZ, lZ1, lZ2⟩ := ltH Z
        go_wp2_with fail
        refine (refv_is z1 z2 false _ HV2.out (by omega) (by omega) (by omega) (by omega)).mono ?_
        rintro e w6 ⟨rfl, hb6⟩
        have hw6 : Below w.heap.size w w6 := stepH (by (repeat' (first | with_reducible exact Below.refl _ _ | with_reducible assumption | with_reducible refine Below.drew ?_ | with_reducible refine below_drewN ?_ _ | with_reducible refine Below.setCell ?_ ?_ _ | with_reducible refine Below.alloc ?_ ?_ _ | omega | (simp; done) | (simp; omega)))) hb6
        replace X := keepH hb6 X.out
        replace Z := keepH hb6 Z.out
        have z6 := hw6.size
        clear hb6 hw5 z5
        clear cX lX lX1 lX2 cZ lZ lZ1 lZ2
        have cX := cellH X
        obtain ⟨lX, lX1, lX2⟩ := ltH X
        have cZ := cellH Z
        obtain ⟨lZ, lZ1, lZ2⟩ := ltH Z
        go_wp2_with fail
        go_ret
        exact ⟨rfl, by (repeat' (first | with_reducible exact Below.refl _ _ | with_reducible assumption | with_reducible refine Below.drew ?_ | with_reducible refine below_drewN ?_ _ | with_reducible refine Below.setCell ?_ ?_ _ | with_reducible refine Below.alloc ?_ ?_ _ | omega | (simp; done) | (simp; omega)))⟩
      · have HV2 := Lib.hid hz
        clear hz
        have h3 : s.length ≤ 200 := by omega
        obtain ⟨x, hgx, rfl, rfl⟩ := good_of_validB HV.out
        obtain ⟨z, hgz, rfl, rfl⟩ := good_of_validB HV2.out
        have HX := Lib.hid hgx
        have HZ := Lib.hid hgz
        clear hgx hgz
        obtain ⟨xb1, xb2, xb3, xb4⟩ := bds HX.out
        obtain ⟨zb1, zb2, zb3, zb4⟩ := bds HZ.out
        have hd2 : decide ((200 : Int) < (s.length : Int)) = false := decide_eq_false (by omega)
        by_cases hxz : x < z
        · have HC := Lib.hid (cmp_lt hxz)
          have HXZ := Lib.hid hxz
          clear hxz
          go_enter Tryd.func3, Tryd.ntmps3
          go_wp2_with fail
          refine (first15_any E _ (HE.out.below (by (repeat' (first | with_reducible exact Below.refl _ _ | with_reducible assumption | with_reducible refine Below.drew ?_ | with_reducible refine below_drewN ?_ _ | with_reducible refine Below.setCell ?_ ?_ _ | with_reducible refine Below.alloc ?_ ?_ _ | omega | (simp; done) | (simp; omega)))))).mono ?_
          rintro e w7 ⟨rfl, hb7⟩
          have hw7 : Below w.heap.size w w7 := stepH (by (repeat' (first | with_reducible exact Below.refl _ _ | with_reducible assumption | with_reducible refine Below.drew ?_ | with_reducible refine below_drewN ?_ _ | with_reducible refine Below.setCell ?_ ?_ _ | with_reducible refine Below.alloc ?_ ?_ _ | omega | (simp; done) | (simp; omega)))) hb7
          have X := keepH hb7 (g := w.heap.size) (blk_old (blk_new rfl))
          have Z := keepH hb7 (g := w.heap.size + 1) (blk_new (by simp))
          have z7 := hw7.size
          clear hb7
          have cX := cellH X
          obtain ⟨lX, lX1, lX2⟩ := ltH X
          have cZ := cellH Z
          obtain ⟨lZ, lZ1, lZ2⟩ := ltH Z
          go_wp2_with fail
          refine (refv_is x.num x.den true _ HV.out xb1 xb2 xb3 xb4).mono ?_
          rintro e w8 ⟨rfl, hb8⟩
          have hw8 : Below w.heap.size w w8 := stepH (by (repeat' (first | with_reducible exact Below.refl _ _ | with_reducible assumption | with_reducible refine Below.drew ?_ | with_reducible refine below_drewN ?_ _ | with_reducible refine Below.setCell ?_ ?_ _ | with_reducible refine Below.alloc ?_ ?_ _ | omega | (simp; done) | (simp; omega)))) hb8
          replace X := keepH hb8 X.out
          replace Z := keepH hb8 Z.out
          have z8 := hw8.size
          clear hb8 hw7 z7
          clear cX lX lX1 lX2 cZ lZ lZ1 lZ2
          have cX := cellH X
          obtain ⟨lX, lX1, lX2⟩ := ltH X
          have cZ := cellH Z
          obtain ⟨lZ, lZ1, lZ2⟩ := ltH Z
          go_wp2_with fail
          refine (refv_is z.num z.den true _ HV2.out zb1 zb2 zb3 zb4).mono ?_
          rintro e w9 ⟨rfl, hb9⟩
          have hw9 : Below w.heap.size w w9 := stepH (by (repeat' (first | with_reducible exact Below.refl _ _ | with_reducible assumption | with_reducible refine Below.drew ?_ | with_reducible refine below_drewN ?_ _ | with_reducible refine Below.setCell ?_ ?_ _ | with_reducible refine Below.alloc ?_ ?_ _ | omega | (simp; done) | (simp; omega)))) hb9
          replace X := keepH hb9 X.out
          replace Z := keepH hb9 Z.out
          have z9 := hw9.size
          clear hb9 hw8 z8
          clear cX lX lX1 lX2 cZ lZ lZ1 lZ2
          have cX := cellH X
          obtain ⟨lX, lX1, lX2⟩ := ltH X
          have cZ := cellH Z
          obtain ⟨lZ, lZ1, lZ2⟩ := ltH Z
          go_wp2_with fail
          refine (refCmp_is x z (-1) _ HX.out HZ.out HC.out).mono ?_
          rintro e w10 ⟨rfl, hb10⟩
          have hw10 : Below w.heap.size w w10 := stepH (by (repeat' (first | with_reducible exact Below.refl _ _ | with_reducible assumption | with_reducible refine Below.drew ?_ | with_reducible refine below_drewN ?_ _ | with_reducible refine Below.setCell ?_ ?_ _ | with_reducible refine Below.alloc ?_ ?_ _ | omega | (simp; done) | (simp; omega)))) hb10
          replace X := keepH hb10 X.out
          replace Z := keepH hb10 Z.out
          have z10 := hw10.size
          clear hb10 hw9 z9
          clear cX lX lX1 lX2 cZ lZ lZ1 lZ2
          have cX := cellH X
          obtain ⟨lX, lX1, lX2⟩ := ltH X
          have cZ := cellH Z
          obtain ⟨lZ, lZ1, lZ2⟩ := ltH Z
          go_wp2_with fail
          clear cX lX lX1 lX2 cZ lZ lZ1 lZ2
          go_loopw [8] (fun i wr => ∃ k : Nat, k ≤ s.length ∧ i = .int .i64 k ∧ Hid (∀ q ∈ s.take k, validB q.1 q.2.1 = true → ¬ (x < frm q ∧ frm q < z)) ∧ Hid (wr.heap[w.heap.size]? = some (.cells #[.int .i64 x.num, .int .i64 x.den] 24 (0, 0))) ∧ Hid (wr.heap[w.heap.size + 1]? = some (.cells #[.int .i64 z.num, .int .i64 z.den] 24 (0, 0))) ∧ Below w.heap.size w wr) (fun i _ => s.length - (intOf i).toNat)
          case atStart => exact ⟨0, Nat.zero_le _, rfl, (fun q h => by simp at h), X, Z, hw10⟩
          case round =>
            clear X Z
            obtain ⟨k, hk, rfl, hq, X, Z, hw0⟩ := hrel
            have z0 := hw0.size
            by_cases hlt : k < s.length
            · obtain ⟨⟨n1, d1, n2, d2⟩, hb⟩ : ∃ b, s[k]? = some b := ⟨s[k], List.getElem?_eq_getElem hlt⟩
              obtain ⟨g, off, hA, hgB, k0, k1, k2, k3⟩ := cells4 (HL.out.below hw0 (Nat.le_refl _)) hb
              subst hA
              obtain ⟨⟨a1, a2⟩, ⟨a3, a4⟩, ⟨a5, a6⟩, ⟨a7, a8⟩⟩ := HI.out _ (List.mem_of_getElem? hb)
              replace k0 : wr.cell? ⟨g, off + k * 4, none⟩ = some (.int .i64 n1) := k0
              replace k1 : wr.cell? ⟨g, off + k * 4 + 1, none⟩ = some (.int .i64 d1) := k1
              replace k2 : wr.cell? ⟨g, off + k * 4 + 2, none⟩ = some (.int .i64 n2) := k2
              replace k3 : wr.cell? ⟨g, off + k * 4 + 3, none⟩ = some (.int .i64 d2) := k3
              dsimp only at a1 a2 a3 a4 a5 a6 a7 a8
              clear k2 k3
              have HBX := Lib.hid hb
              clear hb
              have i1 : (k : Int) < (s.length : Int) := by omega
              cases hv : validB n1 d1
              · have HVB := Lib.hid hv
                clear hv
                have hq2 : Hid (∀ q ∈ s.take (k + 1), validB q.1 q.2.1 = true → ¬ (x < frm q ∧ frm q < z)) := by
                  show ∀ q ∈ s.take (k + 1), _
                  rw [take_snoc HBX.out]
                  intro q hm
                  rcases List.mem_append.1 hm with h | h
                  · exact hq.out q h
                  · rw [List.mem_singleton] at h; subst h; intro h9; exact absurd (show false = true from HVB.out ▸ h9) (by decide)
                have x0 : wr.cell? ⟨w.heap.size, 0, none⟩ = some (.int .i64 x.num) := cellH X 0
                have x1 : wr.cell? ⟨w.heap.size, 1, none⟩ = some (.int .i64 x.den) := cellH X 1
                have u0 : wr.cell? ⟨w.heap.size + 1, 0, none⟩ = some (.int .i64 z.num) := cellH Z 0
                have u1 : wr.cell? ⟨w.heap.size + 1, 1, none⟩ = some (.int .i64 z.den) := cellH Z 1
                go_wp2_with fail
                refine wp_region_held_drew (S := fun w' => w'.cell? ⟨g, off + k * 4, none⟩ = some (.int .i64 n1) ∧ w'.cell? ⟨g, off + k * 4 + 1, none⟩ = some (.int .i64 d1) ∧ w'.cell? ⟨w.heap.size, 0, none⟩ = some (.int .i64 x.num) ∧ w'.cell? ⟨w.heap.size, 1, none⟩ = some (.int .i64 x.den) ∧ w'.cell? ⟨w.heap.size + 1, 0, none⟩ = some (.int .i64 z.num) ∧ w'.cell? ⟨w.heap.size + 1, 1, none⟩ = some (.int .i64 z.den)) (by kernel_rfl) ?_ (fun hH0 => ?_)
                · exact ⟨k0, k1, x0, x1, u0, u1⟩
                refine wpAnyH_take (i := 0) (oi := { dst := some 50, op := Go.Op.move (Go.Operand.tmp 0), type := 22, pos := "law.go:117", after := #[], guard := none }) (v := ?_) rfl (by kernel_rfl) (by kernel_rfl) (by kernel_rfl) (fun _ _ _ h => h) (Or.inl ⟨by rfl, ?_⟩) (by assumption) ?_
                rotate_left
                · intro wq hSw; (try dsimp only at hSw); go_simp; (try with_reducible rfl)
                try simp only [Act.put, List.setIfInBounds_toArray, List.set_cons_zero, List.set_cons_succ]
                refine wpAnyH_take (i := 1) (oi := { dst := some 51, op := Go.Op.move (Go.Operand.tmp 8), type := 3, pos := "law.go:117", after := #[], guard := none }) (v := ?_) rfl (by kernel_rfl) (by kernel_rfl) (by kernel_rfl) (fun _ _ _ h => h) (Or.inl ⟨by rfl, ?_⟩) (by assumption) ?_
                rotate_left
                · intro wq hSw; (try dsimp only at hSw); go_simp; (try with_reducible rfl)
                try simp only [Act.put, List.setIfInBounds_toArray, List.set_cons_zero, List.set_cons_succ]
                refine wpAnyH_take (i := 2) (oi := { dst := some 52, op := Go.Op.indexAddr 22 (Go.Operand.tmp 50) (Go.Operand.tmp 51), type := 0, pos := "law.go:117", after := #[{ on := 0, ground := Go.Ground.data }, { on := 1, ground := Go.Ground.data }], guard := none }) (v := ?_) rfl (by kernel_rfl) (by kernel_rfl) (by kernel_rfl) (fun _ _ _ h => h) (Or.inl ⟨by rfl, ?_⟩) (by assumption) ?_
                rotate_left
                · intro wq hSw; (try dsimp only at hSw); go_simp; (try with_reducible rfl)
                try simp only [Act.put, List.setIfInBounds_toArray, List.set_cons_zero, List.set_cons_succ]
                refine wpAnyH_take (i := 3) (oi := { dst := some 53, op := Go.Op.fieldAddr 29 (Go.Operand.tmp 52) 0, type := 0, pos := "law.go:117", after := #[{ on := 2, ground := Go.Ground.data }], guard := none }) (v := ?_) rfl (by kernel_rfl) (by kernel_rfl) (by kernel_rfl) (fun _ _ _ h => h) (Or.inl ⟨by rfl, ?_⟩) (by assumption) ?_
                rotate_left
                · intro wq hSw; (try dsimp only at hSw); go_simp; (try with_reducible rfl)
                try simp only [Act.put, List.setIfInBounds_toArray, List.set_cons_zero, List.set_cons_succ]
                refine wpAnyH_take (i := 4) (oi := { dst := some 54, op := Go.Op.load 24 (Go.Operand.tmp 53), type := 24, pos := "law.go:117", after := #[{ on := 3, ground := Go.Ground.data }], guard := none }) (v := ?_) rfl (by kernel_rfl) (by kernel_rfl) (by kernel_rfl) (fun _ _ _ h => h) (Or.inl ⟨by rfl, ?_⟩) (by assumption) ?_
                rotate_left
                · intro wq hSw; (try dsimp only at hSw); go_simp; (try with_reducible rfl)
                try simp only [Act.put, List.setIfInBounds_toArray, List.set_cons_zero, List.set_cons_succ]
                refine wpAnyH_ready (rs := [5]) (by kernel_rfl) (by simp) ?_
                refine AllReadyH.cons (o := { dst := some 55, op := Go.Op.call { callee := Go.Callee.value (Go.Operand.func 10), args := #[Go.Operand.tmp 54], argTypes := #[24] }, type := 4, pos := "law.go:117", after := #[{ on := 4, ground := Go.Ground.data }], guard := none }) rfl (fun K hK => ?_) ?_
                rotate_left
                · exact AllReadyH.nil
                go_simp
                refine (refv_is n1 d1 false _ HVB.out a1 a2 a3 a4).mono ?_
                rintro e w21 ⟨rfl, hb21⟩
                have hw21 : Below w.heap.size w w21 := stepH (by (repeat' (first | with_reducible exact Below.refl _ _ | with_reducible assumption | with_reducible refine Below.drew ?_ | with_reducible refine below_drewN ?_ _ | with_reducible refine Below.setCell ?_ ?_ _ | with_reducible refine Below.alloc ?_ ?_ _ | omega | (simp; done) | (simp; omega)))) hb21
                replace X := keepH hb21 (drew_old X.out)
                replace Z := keepH hb21 (drew_old Z.out)
                replace k0 : w21.cell? ⟨g, off + k * 4, none⟩ = some (.int .i64 n1) := cellOf hb21 (cell_drew k0)
                replace k1 : w21.cell? ⟨g, off + k * 4 + 1, none⟩ = some (.int .i64 d1) := cellOf hb21 (cell_drew k1)
                replace x0 : w21.cell? ⟨w.heap.size, 0, none⟩ = some (.int .i64 x.num) := cellOf hb21 (cell_drew x0)
                replace x1 : w21.cell? ⟨w.heap.size, 1, none⟩ = some (.int .i64 x.den) := cellOf hb21 (cell_drew x1)
                replace u0 : w21.cell? ⟨w.heap.size + 1, 0, none⟩ = some (.int .i64 z.num) := cellOf hb21 (cell_drew u0)
                replace u1 : w21.cell? ⟨w.heap.size + 1, 1, none⟩ = some (.int .i64 z.den) := cellOf hb21 (cell_drew u1)
                go_wp2_with fail
                refine hK.out _ _ ?_ (fun hH1 => ?_)
                · (try dsimp only); exact ⟨k0, k1, x0, x1, u0, u1⟩
                clear hK K
                clear hH0
                try simp only [Act.put, List.setIfInBounds_toArray, List.set_cons_zero, List.set_cons_succ]
                refine wpAnyH_take (i := 6) (oi := { dst := some 56, op := Go.Op.move (Go.Operand.tmp 55), type := 4, pos := "law.go:117", after := #[{ on := 5, ground := Go.Ground.data }, { on := 5, ground := Go.Ground.chain }], guard := none }) (v := ?_) rfl (by kernel_rfl) (by kernel_rfl) (by kernel_rfl) (fun _ _ _ h => h) (Or.inl ⟨by rfl, ?_⟩) (by assumption) ?_
                rotate_left
                · intro wq hSw; (try dsimp only at hSw); go_simp; (try with_reducible rfl)
                try simp only [Act.put, List.setIfInBounds_toArray, List.set_cons_zero, List.set_cons_succ]
                refine wpAnyH_take (i := 7) (oi := { dst := some 57, op := Go.Op.move (Go.Operand.tmp 0), type := 22, pos := "law.go:117", after := #[{ on := 6, ground := Go.Ground.guard }], guard := some (6, true) }) (v := undef) rfl (by kernel_rfl) (by kernel_rfl) (by kernel_rfl) (fun _ _ _ h => h) (Or.inr ⟨by rfl, rfl⟩) (by assumption) ?_
                try simp only [Act.put, List.setIfInBounds_toArray, List.set_cons_zero, List.set_cons_succ]
                refine wpAnyH_take (i := 8) (oi := { dst := some 58, op := Go.Op.move (Go.Operand.tmp 8), type := 3, pos := "law.go:117", after := #[{ on := 6, ground := Go.Ground.guard }], guard := some (6, true) }) (v := undef) rfl (by kernel_rfl) (by kernel_rfl) (by kernel_rfl) (fun _ _ _ h => h) (Or.inr ⟨by rfl, rfl⟩) (by assumption) ?_
                try simp only [Act.put, List.setIfInBounds_toArray, List.set_cons_zero, List.set_cons_succ]
                refine wpAnyH_take (i := 9) (oi := { dst := some 59, op := Go.Op.indexAddr 22 (Go.Operand.tmp 57) (Go.Operand.tmp 58), type := 0, pos := "law.go:117", after := #[{ on := 7, ground := Go.Ground.data }, { on := 8, ground := Go.Ground.data }, { on := 6, ground := Go.Ground.guard }], guard := some (6, true) }) (v := undef) rfl (by kernel_rfl) (by kernel_rfl) (by kernel_rfl) (fun _ _ _ h => h) (Or.inr ⟨by rfl, rfl⟩) (by assumption) ?_
                try simp only [Act.put, List.setIfInBounds_toArray, List.set_cons_zero, List.set_cons_succ]
                refine wpAnyH_take (i := 10) (oi := { dst := some 60, op := Go.Op.fieldAddr 29 (Go.Operand.tmp 59) 0, type := 0, pos := "law.go:117", after := #[{ on := 9, ground := Go.Ground.data }, { on := 6, ground := Go.Ground.guard }], guard := some (6, true) }) (v := undef) rfl (by kernel_rfl) (by kernel_rfl) (by kernel_rfl) (fun _ _ _ h => h) (Or.inr ⟨by rfl, rfl⟩) (by assumption) ?_
                try simp only [Act.put, List.setIfInBounds_toArray, List.set_cons_zero, List.set_cons_succ]
                refine wpAnyH_take (i := 11) (oi := { dst := some 61, op := Go.Op.load 24 (Go.Operand.tmp 60), type := 24, pos := "law.go:117", after := #[{ on := 10, ground := Go.Ground.data }, { on := 6, ground := Go.Ground.guard }], guard := some (6, true) }) (v := undef) rfl (by kernel_rfl) (by kernel_rfl) (by kernel_rfl) (fun _ _ _ h => h) (Or.inr ⟨by rfl, rfl⟩) (by assumption) ?_
                try simp only [Act.put, List.setIfInBounds_toArray, List.set_cons_zero, List.set_cons_succ]
                refine wpAnyH_take (i := 12) (oi := { dst := some 62, op := Go.Op.load 24 (Go.Operand.tmp 4), type := 24, pos := "law.go:117", after := #[{ on := 6, ground := Go.Ground.guard }], guard := some (6, true) }) (v := undef) rfl (by kernel_rfl) (by kernel_rfl) (by kernel_rfl) (fun _ _ _ h => h) (Or.inr ⟨by rfl, rfl⟩) (by assumption) ?_
                try simp only [Act.put, List.setIfInBounds_toArray, List.set_cons_zero, List.set_cons_succ]
                refine wpAnyH_take (i := 13) (oi := { dst := some 63, op := Go.Op.call { callee := Go.Callee.value (Go.Operand.func 11), args := #[Go.Operand.tmp 61, Go.Operand.tmp 62], argTypes := #[24, 24] }, type := 3, pos := "law.go:117", after := #[{ on := 11, ground := Go.Ground.data }, { on := 12, ground := Go.Ground.data }, { on := 6, ground := Go.Ground.chain }, { on := 6, ground := Go.Ground.guard }], guard := some (6, true) }) (v := undef) rfl (by kernel_rfl) (by kernel_rfl) (by kernel_rfl) (fun _ _ _ h => h) (Or.inr ⟨by rfl, rfl⟩) (by assumption) ?_
                try simp only [Act.put, List.setIfInBounds_toArray, List.set_cons_zero, List.set_cons_succ]
                refine wpAnyH_take (i := 14) (oi := { dst := some 64, op := Go.Op.binOp Go.BinOp.gtr 3 (Go.Operand.tmp 63) (Go.Operand.const (Go.Value.int Go.IntKind.i64 0)) 3, type := 4, pos := "law.go:117", after := #[{ on := 13, ground := Go.Ground.data }, { on := 6, ground := Go.Ground.guard }], guard := some (6, true) }) (v := undef) rfl (by kernel_rfl) (by kernel_rfl) (by kernel_rfl) (fun _ _ _ h => h) (Or.inr ⟨by rfl, rfl⟩) (by assumption) ?_
                try simp only [Act.put, List.setIfInBounds_toArray, List.set_cons_zero, List.set_cons_succ]
                refine wpAnyH_take (i := 15) (oi := { dst := some 65, op := Go.Op.pick (Go.Operand.tmp 56) (Go.Operand.tmp 64) (Go.Operand.const (Go.Value.bool false)), type := 4, pos := "law.go:117", after := #[{ on := 6, ground := Go.Ground.data }, { on := 14, ground := Go.Ground.data }], guard := none }) (v := ?_) rfl (by kernel_rfl) (by kernel_rfl) (by kernel_rfl) (fun _ _ _ h => h) (Or.inl ⟨by rfl, ?_⟩) (by assumption) ?_
                rotate_left
                · intro wq hSw; (try dsimp only at hSw); go_simp; (try with_reducible rfl)
                try simp only [Act.put, List.setIfInBounds_toArray, List.set_cons_zero, List.set_cons_succ]
                refine wpAnyH_take (i := 16) (oi := { dst := some 66, op := Go.Op.move (Go.Operand.tmp 65), type := 4, pos := "law.go:117", after := #[{ on := 15, ground := Go.Ground.data }, { on := 13, ground := Go.Ground.chain }], guard := none }) (v := ?_) rfl (by kernel_rfl) (by kernel_rfl) (by kernel_rfl) (fun _ _ _ h => h) (Or.inl ⟨by rfl, ?_⟩) (by assumption) ?_
                rotate_left
                · intro wq hSw; (try dsimp only at hSw); go_simp; (try with_reducible rfl)
                try simp only [Act.put, List.setIfInBounds_toArray, List.set_cons_zero, List.set_cons_succ]
                refine wpAnyH_take (i := 17) (oi := { dst := some 67, op := Go.Op.move (Go.Operand.tmp 0), type := 22, pos := "law.go:117", after := #[{ on := 16, ground := Go.Ground.guard }], guard := some (16, true) }) (v := undef) rfl (by kernel_rfl) (by kernel_rfl) (by kernel_rfl) (fun _ _ _ h => h) (Or.inr ⟨by rfl, rfl⟩) (by assumption) ?_
                try simp only [Act.put, List.setIfInBounds_toArray, List.set_cons_zero, List.set_cons_succ]
                refine wpAnyH_take (i := 18) (oi := { dst := some 68, op := Go.Op.move (Go.Operand.tmp 8), type := 3, pos := "law.go:117", after := #[{ on := 16, ground := Go.Ground.guard }], guard := some (16, true) }) (v := undef) rfl (by kernel_rfl) (by kernel_rfl) (by kernel_rfl) (fun _ _ _ h => h) (Or.inr ⟨by rfl, rfl⟩) (by assumption) ?_
                try simp only [Act.put, List.setIfInBounds_toArray, List.set_cons_zero, List.set_cons_succ]
                refine wpAnyH_take (i := 19) (oi := { dst := some 69, op := Go.Op.indexAddr 22 (Go.Operand.tmp 67) (Go.Operand.tmp 68), type := 0, pos := "law.go:117", after := #[{ on := 17, ground := Go.Ground.data }, { on := 18, ground := Go.Ground.data }, { on := 16, ground := Go.Ground.guard }], guard := some (16, true) }) (v := undef) rfl (by kernel_rfl) (by kernel_rfl) (by kernel_rfl) (fun _ _ _ h => h) (Or.inr ⟨by rfl, rfl⟩) (by assumption) ?_
                try simp only [Act.put, List.setIfInBounds_toArray, List.set_cons_zero, List.set_cons_succ]
                refine wpAnyH_take (i := 20) (oi := { dst := some 70, op := Go.Op.fieldAddr 29 (Go.Operand.tmp 69) 0, type := 0, pos := "law.go:117", after := #[{ on := 19, ground := Go.Ground.data }, { on := 16, ground := Go.Ground.guard }], guard := some (16, true) }) (v := undef) rfl (by kernel_rfl) (by kernel_rfl) (by kernel_rfl) (fun _ _ _ h => h) (Or.inr ⟨by rfl, rfl⟩) (by assumption) ?_
                try simp only [Act.put, List.setIfInBounds_toArray, List.set_cons_zero, List.set_cons_succ]
                refine wpAnyH_take (i := 21) (oi := { dst := some 71, op := Go.Op.load 24 (Go.Operand.tmp 70), type := 24, pos := "law.go:117", after := #[{ on := 20, ground := Go.Ground.data }, { on := 16, ground := Go.Ground.guard }], guard := some (16, true) }) (v := undef) rfl (by kernel_rfl) (by kernel_rfl) (by kernel_rfl) (fun _ _ _ h => h) (Or.inr ⟨by rfl, rfl⟩) (by assumption) ?_
                try simp only [Act.put, List.setIfInBounds_toArray, List.set_cons_zero, List.set_cons_succ]
                refine wpAnyH_take (i := 22) (oi := { dst := some 72, op := Go.Op.load 24 (Go.Operand.tmp 5), type := 24, pos := "law.go:117", after := #[{ on := 16, ground := Go.Ground.guard }], guard := some (16, true) }) (v := undef) rfl (by kernel_rfl) (by kernel_rfl) (by kernel_rfl) (fun _ _ _ h => h) (Or.inr ⟨by rfl, rfl⟩) (by assumption) ?_
                try simp only [Act.put, List.setIfInBounds_toArray, List.set_cons_zero, List.set_cons_succ]
                refine wpAnyH_take (i := 23) (oi := { dst := some 73, op := Go.Op.call { callee := Go.Callee.value (Go.Operand.func 11), args := #[Go.Operand.tmp 71, Go.Operand.tmp 72], argTypes := #[24, 24] }, type := 3, pos := "law.go:117", after := #[{ on := 21, ground := Go.Ground.data }, { on := 22, ground := Go.Ground.data }, { on := 16, ground := Go.Ground.chain }, { on := 16, ground := Go.Ground.guard }], guard := some (16, true) }) (v := undef) rfl (by kernel_rfl) (by kernel_rfl) (by kernel_rfl) (fun _ _ _ h => h) (Or.inr ⟨by rfl, rfl⟩) (by assumption) ?_
                try simp only [Act.put, List.setIfInBounds_toArray, List.set_cons_zero, List.set_cons_succ]
                refine wpAnyH_take (i := 24) (oi := { dst := some 74, op := Go.Op.binOp Go.BinOp.lss 3 (Go.Operand.tmp 73) (Go.Operand.const (Go.Value.int Go.IntKind.i64 0)) 3, type := 4, pos := "law.go:117", after := #[{ on := 23, ground := Go.Ground.data }, { on := 16, ground := Go.Ground.guard }], guard := some (16, true) }) (v := undef) rfl (by kernel_rfl) (by kernel_rfl) (by kernel_rfl) (fun _ _ _ h => h) (Or.inr ⟨by rfl, rfl⟩) (by assumption) ?_
                try simp only [Act.put, List.setIfInBounds_toArray, List.set_cons_zero, List.set_cons_succ]
                refine wpAnyH_take (i := 25) (oi := { dst := some 75, op := Go.Op.pick (Go.Operand.tmp 66) (Go.Operand.tmp 74) (Go.Operand.const (Go.Value.bool false)), type := 4, pos := "law.go:117", after := #[{ on := 16, ground := Go.Ground.data }, { on := 24, ground := Go.Ground.data }], guard := none }) (v := ?_) rfl (by kernel_rfl) (by kernel_rfl) (by kernel_rfl) (fun _ _ _ h => h) (Or.inl ⟨by rfl, ?_⟩) (by assumption) ?_
                rotate_left
                · intro wq hSw; (try dsimp only at hSw); go_simp; (try with_reducible rfl)
                try simp only [Act.put, List.setIfInBounds_toArray, List.set_cons_zero, List.set_cons_succ]
                refine wpAnyH_done (by kernel_rfl) ?_ _
                clear x0 x1 u0 u1
                go_wp2_with fail
                go_roundw
                case rel => exact ⟨k + 1, by omega, by go_num, hq2, X, Z, by (repeat' (first | with_reducible exact Below.refl _ _ | with_reducible assumption | with_reducible refine Below.drew ?_ | with_reducible refine below_drewN ?_ _ | with_reducible refine Below.setCell ?_ ?_ _ | with_reducible refine Below.alloc ?_ ?_ _ | omega | (simp; done) | (simp; omega)))⟩
                case measure => simp [intOf]; omega
              · obtain ⟨f, hf, rfl, rfl⟩ := good_of_validB hv
                have HVB := Lib.hid hv
                have HF := Lib.hid hf
                clear hv hf
                by_cases hfx : x < f
                · have HC1 := Lib.hid (cmp_gt hfx)
                  by_cases hfz : f < z
                  · have HC2 := Lib.hid (cmp_lt hfz)
                    clear hfx hfz
                    have x0 : wr.cell? ⟨w.heap.size, 0, none⟩ = some (.int .i64 x.num) := cellH X 0
                    have x1 : wr.cell? ⟨w.heap.size, 1, none⟩ = some (.int .i64 x.den) := cellH X 1
                    have u0 : wr.cell? ⟨w.heap.size + 1, 0, none⟩ = some (.int .i64 z.num) := cellH Z 0
                    have u1 : wr.cell? ⟨w.heap.size + 1, 1, none⟩ = some (.int .i64 z.den) := cellH Z 1
                    go_wp2_with fail
                    refine wp_region_held_drew (S := fun w' => w'.cell? ⟨g, off + k * 4, none⟩ = some (.int .i64 f.num) ∧ w'.cell? ⟨g, off + k * 4 + 1, none⟩ = some (.int .i64 f.den) ∧ w'.cell? ⟨w.heap.size, 0, none⟩ = some (.int .i64 x.num) ∧ w'.cell? ⟨w.heap.size, 1, none⟩ = some (.int .i64 x.den) ∧ w'.cell? ⟨w.heap.size + 1, 0, none⟩ = some (.int .i64 z.num) ∧ w'.cell? ⟨w.heap.size + 1, 1, none⟩ = some (.int .i64 z.den)) (by kernel_rfl) ?_ (fun hH0 => ?_)
                    · exact ⟨k0, k1, x0, x1, u0, u1⟩
                    refine wpAnyH_take (i := 0) (oi := { dst := some 50, op := Go.Op.move (Go.Operand.tmp 0), type := 22, pos := "law.go:117", after := #[], guard := none }) (v := ?_) rfl (by kernel_rfl) (by kernel_rfl) (by kernel_rfl) (fun _ _ _ h => h) (Or.inl ⟨by rfl, ?_⟩) (by assumption) ?_
                    rotate_left
                    · intro wq hSw; (try dsimp only at hSw); go_simp; (try with_reducible rfl)
                    try simp only [Act.put, List.setIfInBounds_toArray, List.set_cons_zero, List.set_cons_succ]
                    refine wpAnyH_take (i := 1) (oi := { dst := some 51, op := Go.Op.move (Go.Operand.tmp 8), type := 3, pos := "law.go:117", after := #[], guard := none }) (v := ?_) rfl (by kernel_rfl) (by kernel_rfl) (by kernel_rfl) (fun _ _ _ h => h) (Or.inl ⟨by rfl, ?_⟩) (by assumption) ?_
                    rotate_left
                    · intro wq hSw; (try dsimp only at hSw); go_simp; (try with_reducible rfl)
                    try simp only [Act.put, List.setIfInBounds_toArray, List.set_cons_zero, List.set_cons_succ]
                    refine wpAnyH_take (i := 2) (oi := { dst := some 52, op := Go.Op.indexAddr 22 (Go.Operand.tmp 50) (Go.Operand.tmp 51), type := 0, pos := "law.go:117", after := #[{ on := 0, ground := Go.Ground.data }, { on := 1, ground := Go.Ground.data }], guard := none }) (v := ?_) rfl (by kernel_rfl) (by kernel_rfl) (by kernel_rfl) (fun _ _ _ h => h) (Or.inl ⟨by rfl, ?_⟩) (by assumption) ?_
                    rotate_left
                    · intro wq hSw; (try dsimp only at hSw); go_simp; (try with_reducible rfl)
                    try simp only [Act.put, List.setIfInBounds_toArray, List.set_cons_zero, List.set_cons_succ]
                    refine wpAnyH_take (i := 3) (oi := { dst := some 53, op := Go.Op.fieldAddr 29 (Go.Operand.tmp 52) 0, type := 0, pos := "law.go:117", after := #[{ on := 2, ground := Go.Ground.data }], guard := none }) (v := ?_) rfl (by kernel_rfl) (by kernel_rfl) (by kernel_rfl) (fun _ _ _ h => h) (Or.inl ⟨by rfl, ?_⟩) (by assumption) ?_
                    rotate_left
                    · intro wq hSw; (try dsimp only at hSw); go_simp; (try with_reducible rfl)
                    try simp only [Act.put, List.setIfInBounds_toArray, List.set_cons_zero, List.set_cons_succ]
                    refine wpAnyH_take (i := 4) (oi := { dst := some 54, op := Go.Op.load 24 (Go.Operand.tmp 53), type := 24, pos := "law.go:117", after := #[{ on := 3, ground := Go.Ground.data }], guard := none }) (v := ?_) rfl (by kernel_rfl) (by kernel_rfl) (by kernel_rfl) (fun _ _ _ h => h) (Or.inl ⟨by rfl, ?_⟩) (by assumption) ?_
                    rotate_left
                    · intro wq hSw; (try dsimp only at hSw); go_simp; (try with_reducible rfl)
                    try simp only [Act.put, List.setIfInBounds_toArray, List.set_cons_zero, List.set_cons_succ]
                    refine wpAnyH_ready (rs := [5]) (by kernel_rfl) (by simp) ?_
                    refine AllReadyH.cons (o := { dst := some 55, op := Go.Op.call { callee := Go.Callee.value (Go.Operand.func 10), args := #[Go.Operand.tmp 54], argTypes := #[24] }, type := 4, pos := "law.go:117", after := #[{ on := 4, ground := Go.Ground.data }], guard := none }) rfl (fun K hK => ?_) ?_
                    rotate_left
                    · exact AllReadyH.nil
                    go_simp
                    refine (refv_is f.num f.den true _ HVB.out a1 a2 a3 a4).mono ?_
                    rintro e w22 ⟨rfl, hb22⟩
                    have hw22 : Below w.heap.size w w22 := stepH (by (repeat' (first | with_reducible exact Below.refl _ _ | with_reducible assumption | with_reducible refine Below.drew ?_ | with_reducible refine below_drewN ?_ _ | with_reducible refine Below.setCell ?_ ?_ _ | with_reducible refine Below.alloc ?_ ?_ _ | omega | (simp; done) | (simp; omega)))) hb22
                    replace X := keepH hb22 (drew_old X.out)
                    replace Z := keepH hb22 (drew_old Z.out)
                    replace k0 : w22.cell? ⟨g, off + k * 4, none⟩ = some (.int .i64 f.num) := cellOf hb22 (cell_drew k0)
                    replace k1 : w22.cell? ⟨g, off + k * 4 + 1, none⟩ = some (.int .i64 f.den) := cellOf hb22 (cell_drew k1)
                    replace x0 : w22.cell? ⟨w.heap.size, 0, none⟩ = some (.int .i64 x.num) := cellOf hb22 (cell_drew x0)
                    replace x1 : w22.cell? ⟨w.heap.size, 1, none⟩ = some (.int .i64 x.den) := cellOf hb22 (cell_drew x1)
                    replace u0 : w22.cell? ⟨w.heap.size + 1, 0, none⟩ = some (.int .i64 z.num) := cellOf hb22 (cell_drew u0)
                    replace u1 : w22.cell? ⟨w.heap.size + 1, 1, none⟩ = some (.int .i64 z.den) := cellOf hb22 (cell_drew u1)
                    go_wp2_with fail
                    refine hK.out _ _ ?_ (fun hH1 => ?_)
                    · (try dsimp only); exact ⟨k0, k1, x0, x1, u0, u1⟩
                    clear hK K
                    clear hH0
                    try simp only [Act.put, List.setIfInBounds_toArray, List.set_cons_zero, List.set_cons_succ]
                    refine wpAnyH_take (i := 6) (oi := { dst := some 56, op := Go.Op.move (Go.Operand.tmp 55), type := 4, pos := "law.go:117", after := #[{ on := 5, ground := Go.Ground.data }, { on := 5, ground := Go.Ground.chain }], guard := none }) (v := ?_) rfl (by kernel_rfl) (by kernel_rfl) (by kernel_rfl) (fun _ _ _ h => h) (Or.inl ⟨by rfl, ?_⟩) (by assumption) ?_
                    rotate_left
                    · intro wq hSw; (try dsimp only at hSw); go_simp; (try with_reducible rfl)
                    try simp only [Act.put, List.setIfInBounds_toArray, List.set_cons_zero, List.set_cons_succ]
                    refine wpAnyH_take (i := 7) (oi := { dst := some 57, op := Go.Op.move (Go.Operand.tmp 0), type := 22, pos := "law.go:117", after := #[{ on := 6, ground := Go.Ground.guard }], guard := some (6, true) }) (v := ?_) rfl (by kernel_rfl) (by kernel_rfl) (by kernel_rfl) (fun _ _ _ h => h) (Or.inl ⟨by rfl, ?_⟩) (by assumption) ?_
                    rotate_left
                    · intro wq hSw; (try dsimp only at hSw); go_simp; (try with_reducible rfl)
                    try simp only [Act.put, List.setIfInBounds_toArray, List.set_cons_zero, List.set_cons_succ]
                    refine wpAnyH_take (i := 8) (oi := { dst := some 58, op := Go.Op.move (Go.Operand.tmp 8), type := 3, pos := "law.go:117", after := #[{ on := 6, ground := Go.Ground.guard }], guard := some (6, true) }) (v := ?_) rfl (by kernel_rfl) (by kernel_rfl) (by kernel_rfl) (fun _ _ _ h => h) (Or.inl ⟨by rfl, ?_⟩) (by assumption) ?_
                    rotate_left
                    · intro wq hSw; (try dsimp only at hSw); go_simp; (try with_reducible rfl)
                    try simp only [Act.put, List.setIfInBounds_toArray, List.set_cons_zero, List.set_cons_succ]
                    refine wpAnyH_take (i := 9) (oi := { dst := some 59, op := Go.Op.indexAddr 22 (Go.Operand.tmp 57) (Go.Operand.tmp 58), type := 0, pos := "law.go:117", after := #[{ on := 7, ground := Go.Ground.data }, { on := 8, ground := Go.Ground.data }, { on := 6, ground := Go.Ground.guard }], guard := some (6, true) }) (v := ?_) rfl (by kernel_rfl) (by kernel_rfl) (by kernel_rfl) (fun _ _ _ h => h) (Or.inl ⟨by rfl, ?_⟩) (by assumption) ?_
                    rotate_left
                    · intro wq hSw; (try dsimp only at hSw); go_simp; (try with_reducible rfl)
                    try simp only [Act.put, List.setIfInBounds_toArray, List.set_cons_zero, List.set_cons_succ]
                    refine wpAnyH_take (i := 10) (oi := { dst := some 60, op := Go.Op.fieldAddr 29 (Go.Operand.tmp 59) 0, type := 0, pos := "law.go:117", after := #[{ on := 9, ground := Go.Ground.data }, { on := 6, ground := Go.Ground.guard }], guard := some (6, true) }) (v := ?_) rfl (by kernel_rfl) (by kernel_rfl) (by kernel_rfl) (fun _ _ _ h => h) (Or.inl ⟨by rfl, ?_⟩) (by assumption) ?_
                    rotate_left
                    · intro wq hSw; (try dsimp only at hSw); go_simp; (try with_reducible rfl)
                    try simp only [Act.put, List.setIfInBounds_toArray, List.set_cons_zero, List.set_cons_succ]
                    refine wpAnyH_take (i := 11) (oi := { dst := some 61, op := Go.Op.load 24 (Go.Operand.tmp 60), type := 24, pos := "law.go:117", after := #[{ on := 10, ground := Go.Ground.data }, { on := 6, ground := Go.Ground.guard }], guard := some (6, true) }) (v := ?_) rfl (by kernel_rfl) (by kernel_rfl) (by kernel_rfl) (fun _ _ _ h => h) (Or.inl ⟨by rfl, ?_⟩) (by assumption) ?_
                    rotate_left
                    · intro wq hSw; (try dsimp only at hSw); go_simp; (try with_reducible rfl)
                    try simp only [Act.put, List.setIfInBounds_toArray, List.set_cons_zero, List.set_cons_succ]
                    refine wpAnyH_take (i := 12) (oi := { dst := some 62, op := Go.Op.load 24 (Go.Operand.tmp 4), type := 24, pos := "law.go:117", after := #[{ on := 6, ground := Go.Ground.guard }], guard := some (6, true) }) (v := ?_) rfl (by kernel_rfl) (by kernel_rfl) (by kernel_rfl) (fun _ _ _ h => h) (Or.inl ⟨by rfl, ?_⟩) (by assumption) ?_
                    rotate_left
                    · intro wq hSw; (try dsimp only at hSw); go_simp; (try with_reducible rfl)
                    try simp only [Act.put, List.setIfInBounds_toArray, List.set_cons_zero, List.set_cons_succ]
                    refine wpAnyH_ready (rs := [13]) (by kernel_rfl) (by simp) ?_
                    refine AllReadyH.cons (o := { dst := some 63, op := Go.Op.call { callee := Go.Callee.value (Go.Operand.func 11), args := #[Go.Operand.tmp 61, Go.Operand.tmp 62], argTypes := #[24, 24] }, type := 3, pos := "law.go:117", after := #[{ on := 11, ground := Go.Ground.data }, { on := 12, ground := Go.Ground.data }, { on := 6, ground := Go.Ground.chain }, { on := 6, ground := Go.Ground.guard }], guard := some (6, true) }) rfl (fun K hK => ?_) ?_
                    rotate_left
                    · exact AllReadyH.nil
                    go_simp
                    refine (refCmp_is f x 1 _ HF.out HX.out HC1.out).mono ?_
                    rintro e w23 ⟨rfl, hb23⟩
                    have hw23 : Below w.heap.size w w23 := stepH (by (repeat' (first | with_reducible exact Below.refl _ _ | with_reducible assumption | with_reducible refine Below.drew ?_ | with_reducible refine below_drewN ?_ _ | with_reducible refine Below.setCell ?_ ?_ _ | with_reducible refine Below.alloc ?_ ?_ _ | omega | (simp; done) | (simp; omega)))) hb23
                    replace X := keepH hb23 X.out
                    replace Z := keepH hb23 Z.out
                    replace k0 : w23.cell? ⟨g, off + k * 4, none⟩ = some (.int .i64 f.num) := cellOf hb23 k0
                    replace k1 : w23.cell? ⟨g, off + k * 4 + 1, none⟩ = some (.int .i64 f.den) := cellOf hb23 k1
                    replace x0 : w23.cell? ⟨w.heap.size, 0, none⟩ = some (.int .i64 x.num) := cellOf hb23 x0
                    replace x1 : w23.cell? ⟨w.heap.size, 1, none⟩ = some (.int .i64 x.den) := cellOf hb23 x1
                    replace u0 : w23.cell? ⟨w.heap.size + 1, 0, none⟩ = some (.int .i64 z.num) := cellOf hb23 u0
                    replace u1 : w23.cell? ⟨w.heap.size + 1, 1, none⟩ = some (.int .i64 z.den) := cellOf hb23 u1
                    go_wp2_with fail
                    refine hK.out _ _ ?_ (fun hH2 => ?_)
                    · (try dsimp only); exact ⟨k0, k1, x0, x1, u0, u1⟩
                    clear hK K
                    clear hH1
                    try simp only [Act.put, List.setIfInBounds_toArray, List.set_cons_zero, List.set_cons_succ]
                    refine wpAnyH_take (i := 14) (oi := { dst := some 64, op := Go.Op.binOp Go.BinOp.gtr 3 (Go.Operand.tmp 63) (Go.Operand.const (Go.Value.int Go.IntKind.i64 0)) 3, type := 4, pos := "law.go:117", after := #[{ on := 13, ground := Go.Ground.data }, { on := 6, ground := Go.Ground.guard }], guard := some (6, true) }) (v := ?_) rfl (by kernel_rfl) (by kernel_rfl) (by kernel_rfl) (fun _ _ _ h => h) (Or.inl ⟨by rfl, ?_⟩) (by assumption) ?_
                    rotate_left
                    · intro wq hSw; (try dsimp only at hSw); go_simp; (try with_reducible rfl)
                    try simp only [Act.put, List.setIfInBounds_toArray, List.set_cons_zero, List.set_cons_succ]
                    refine wpAnyH_take (i := 15) (oi := { dst := some 65, op := Go.Op.pick (Go.Operand.tmp 56) (Go.Operand.tmp 64) (Go.Operand.const (Go.Value.bool false)), type := 4, pos := "law.go:117", after := #[{ on := 6, ground := Go.Ground.data }, { on := 14, ground := Go.Ground.data }], guard := none }) (v := ?_) rfl (by kernel_rfl) (by kernel_rfl) (by kernel_rfl) (fun _ _ _ h => h) (Or.inl ⟨by rfl, ?_⟩) (by assumption) ?_
                    rotate_left
                    · intro wq hSw; (try dsimp only at hSw); go_simp; (try with_reducible rfl)
                    try simp only [Act.put, List.setIfInBounds_toArray, List.set_cons_zero, List.set_cons_succ]
                    refine wpAnyH_take (i := 16) (oi := { dst := some 66, op := Go.Op.move (Go.Operand.tmp 65), type := 4, pos := "law.go:117", after := #[{ on := 15, ground := Go.Ground.data }, { on := 13, ground := Go.Ground.chain }], guard := none }) (v := ?_) rfl (by kernel_rfl) (by kernel_rfl) (by kernel_rfl) (fun _ _ _ h => h) (Or.inl ⟨by rfl, ?_⟩) (by assumption) ?_
                    rotate_left
                    · intro wq hSw; (try dsimp only at hSw); go_simp; (try with_reducible rfl)
                    try simp only [Act.put, List.setIfInBounds_toArray, List.set_cons_zero, List.set_cons_succ]
                    refine wpAnyH_take (i := 17) (oi := { dst := some 67, op := Go.Op.move (Go.Operand.tmp 0), type := 22, pos := "law.go:117", after := #[{ on := 16, ground := Go.Ground.guard }], guard := some (16, true) }) (v := ?_) rfl (by kernel_rfl) (by kernel_rfl) (by kernel_rfl) (fun _ _ _ h => h) (Or.inl ⟨by rfl, ?_⟩) (by assumption) ?_
                    rotate_left
                    · intro wq hSw; (try dsimp only at hSw); go_simp; (try with_reducible rfl)
                    try simp only [Act.put, List.setIfInBounds_toArray, List.set_cons_zero, List.set_cons_succ]
                    refine wpAnyH_take (i := 18) (oi := { dst := some 68, op := Go.Op.move (Go.Operand.tmp 8), type := 3, pos := "law.go:117", after := #[{ on := 16, ground := Go.Ground.guard }], guard := some (16, true) }) (v := ?_) rfl (by kernel_rfl) (by kernel_rfl) (by kernel_rfl) (fun _ _ _ h => h) (Or.inl ⟨by rfl, ?_⟩) (by assumption) ?_
                    rotate_left
                    · intro wq hSw; (try dsimp only at hSw); go_simp; (try with_reducible rfl)
                    try simp only [Act.put, List.setIfInBounds_toArray, List.set_cons_zero, List.set_cons_succ]
                    refine wpAnyH_take (i := 19) (oi := { dst := some 69, op := Go.Op.indexAddr 22 (Go.Operand.tmp 67) (Go.Operand.tmp 68), type := 0, pos := "law.go:117", after := #[{ on := 17, ground := Go.Ground.data }, { on := 18, ground := Go.Ground.data }, { on := 16, ground := Go.Ground.guard }], guard := some (16, true) }) (v := ?_) rfl (by kernel_rfl) (by kernel_rfl) (by kernel_rfl) (fun _ _ _ h => h) (Or.inl ⟨by rfl, ?_⟩) (by assumption) ?_
                    rotate_left
                    · intro wq hSw; (try dsimp only at hSw); go_simp; (try with_reducible rfl)
                    try simp only [Act.put, List.setIfInBounds_toArray, List.set_cons_zero, List.set_cons_succ]
                    refine wpAnyH_take (i := 20) (oi := { dst := some 70, op := Go.Op.fieldAddr 29 (Go.Operand.tmp 69) 0, type := 0, pos := "law.go:117", after := #[{ on := 19, ground := Go.Ground.data }, { on := 16, ground := Go.Ground.guard }], guard := some (16, true) }) (v := ?_) rfl (by kernel_rfl) (by kernel_rfl) (by kernel_rfl) (fun _ _ _ h => h) (Or.inl ⟨by rfl, ?_⟩) (by assumption) ?_
                    rotate_left
                    · intro wq hSw; (try dsimp only at hSw); go_simp; (try with_reducible rfl)
                    try simp only [Act.put, List.setIfInBounds_toArray, List.set_cons_zero, List.set_cons_succ]
                    refine wpAnyH_take (i := 21) (oi := { dst := some 71, op := Go.Op.load 24 (Go.Operand.tmp 70), type := 24, pos := "law.go:117", after := #[{ on := 20, ground := Go.Ground.data }, { on := 16, ground := Go.Ground.guard }], guard := some (16, true) }) (v := ?_) rfl (by kernel_rfl) (by kernel_rfl) (by kernel_rfl) (fun _ _ _ h => h) (Or.inl ⟨by rfl, ?_⟩) (by assumption) ?_
                    rotate_left
                    · intro wq hSw; (try dsimp only at hSw); go_simp; (try with_reducible rfl)
                    try simp only [Act.put, List.setIfInBounds_toArray, List.set_cons_zero, List.set_cons_succ]
                    refine wpAnyH_take (i := 22) (oi := { dst := some 72, op := Go.Op.load 24 (Go.Operand.tmp 5), type := 24, pos := "law.go:117", after := #[{ on := 16, ground := Go.Ground.guard }], guard := some (16, true) }) (v := ?_) rfl (by kernel_rfl) (by kernel_rfl) (by kernel_rfl) (fun _ _ _ h => h) (Or.inl ⟨by rfl, ?_⟩) (by assumption) ?_
                    rotate_left
                    · intro wq hSw; (try dsimp only at hSw); go_simp; (try with_reducible rfl)
                    try simp only [Act.put, List.setIfInBounds_toArray, List.set_cons_zero, List.set_cons_succ]
                    refine wpAnyH_ready (rs := [23]) (by kernel_rfl) (by simp) ?_
                    refine AllReadyH.cons (o := { dst := some 73, op := Go.Op.call { callee := Go.Callee.value (Go.Operand.func 11), args := #[Go.Operand.tmp 71, Go.Operand.tmp 72], argTypes := #[24, 24] }, type := 3, pos := "law.go:117", after := #[{ on := 21, ground := Go.Ground.data }, { on := 22, ground := Go.Ground.data }, { on := 16, ground := Go.Ground.chain }, { on := 16, ground := Go.Ground.guard }], guard := some (16, true) }) rfl (fun K hK => ?_) ?_
                    rotate_left
                    · exact AllReadyH.nil
                    go_simp
                    refine (refCmp_is f z (-1) _ HF.out HZ.out HC2.out).mono ?_
                    rintro e w24 ⟨rfl, hb24⟩
                    have hw24 : Below w.heap.size w w24 := stepH (by (repeat' (first | with_reducible exact Below.refl _ _ | with_reducible assumption | with_reducible refine Below.drew ?_ | with_reducible refine below_drewN ?_ _ | with_reducible refine Below.setCell ?_ ?_ _ | with_reducible refine Below.alloc ?_ ?_ _ | omega | (simp; done) | (simp; omega)))) hb24
                    replace X := keepH hb24 X.out
                    replace Z := keepH hb24 Z.out
                    replace k0 : w24.cell? ⟨g, off + k * 4, none⟩ = some (.int .i64 f.num) := cellOf hb24 k0
                    replace k1 : w24.cell? ⟨g, off + k * 4 + 1, none⟩ = some (.int .i64 f.den) := cellOf hb24 k1
                    replace x0 : w24.cell? ⟨w.heap.size, 0, none⟩ = some (.int .i64 x.num) := cellOf hb24 x0
                    replace x1 : w24.cell? ⟨w.heap.size, 1, none⟩ = some (.int .i64 x.den) := cellOf hb24 x1
                    replace u0 : w24.cell? ⟨w.heap.size + 1, 0, none⟩ = some (.int .i64 z.num) := cellOf hb24 u0
                    replace u1 : w24.cell? ⟨w.heap.size + 1, 1, none⟩ = some (.int .i64 z.den) := cellOf hb24 u1
                    go_wp2_with fail
                    refine hK.out _ _ ?_ (fun hH3 => ?_)
                    · (try dsimp only); exact ⟨k0, k1, x0, x1, u0, u1⟩
                    clear hK K
                    clear hH2
                    try simp only [Act.put, List.setIfInBounds_toArray, List.set_cons_zero, List.set_cons_succ]
                    refine wpAnyH_take (i := 24) (oi := { dst := some 74, op := Go.Op.binOp Go.BinOp.lss 3 (Go.Operand.tmp 73) (Go.Operand.const (Go.Value.int Go.IntKind.i64 0)) 3, type := 4, pos := "law.go:117", after := #[{ on := 23, ground := Go.Ground.data }, { on := 16, ground := Go.Ground.guard }], guard := some (16, true) }) (v := ?_) rfl (by kernel_rfl) (by kernel_rfl) (by kernel_rfl) (fun _ _ _ h => h) (Or.inl ⟨by rfl, ?_⟩) (by assumption) ?_
                    rotate_left
                    · intro wq hSw; (try dsimp only at hSw); go_simp; (try with_reducible rfl)
                    try simp only [Act.put, List.setIfInBounds_toArray, List.set_cons_zero, List.set_cons_succ]
                    refine wpAnyH_take (i := 25) (oi := { dst := some 75, op := Go.Op.pick (Go.Operand.tmp 66) (Go.Operand.tmp 74) (Go.Operand.const (Go.Value.bool false)), type := 4, pos := "law.go:117", after := #[{ on := 16, ground := Go.Ground.data }, { on := 24, ground := Go.Ground.data }], guard := none }) (v := ?_) rfl (by kernel_rfl) (by kernel_rfl) (by kernel_rfl) (fun _ _ _ h => h) (Or.inl ⟨by rfl, ?_⟩) (by assumption) ?_
                    rotate_left
                    · intro wq hSw; (try dsimp only at hSw); go_simp; (try with_reducible rfl)
                    try simp only [Act.put, List.setIfInBounds_toArray, List.set_cons_zero, List.set_cons_succ]
                    refine wpAnyH_done (by kernel_rfl) ?_ _
                    clear x0 x1 u0 u1
                    go_wp2_with fail
                    go_ret
                    exact ⟨rfl, by (repeat' (first | with_reducible exact Below.refl _ _ | with_reducible assumption | with_reducible refine Below.drew ?_ | with_reducible refine below_drewN ?_ _ | with_reducible refine Below.setCell ?_ ?_ _ | with_reducible refine Below.alloc ?_ ?_ _ | omega | (simp; done) | (simp; omega)))⟩
                  · have hq2 : Hid (∀ q ∈ s.take (k + 1), validB q.1 q.2.1 = true → ¬ (x < frm q ∧ frm q < z)) := by
                      show ∀ q ∈ s.take (k + 1), _
                      rw [take_snoc HBX.out]
                      intro q hm
                      rcases List.mem_append.1 hm with h | h
                      · exact hq.out q h
                      · rw [List.mem_singleton] at h; subst h; intro _ h9; exact hfz (by have h := h9.2; rwa [frm_of rfl rfl] at h)
                    obtain ⟨cc, hcc, hc0⟩ : ∃ cc, cmpQ f z = cc ∧ (cc = 0 ∨ cc = 1) := ⟨_, rfl, cmp_ge2 hfz⟩
                    have HC2 := Lib.hid hcc
                    clear hfx hfz hcc
                    rcases hc0 with rfl | rfl
                    all_goals
                      have x0 : wr.cell? ⟨w.heap.size, 0, none⟩ = some (.int .i64 x.num) := cellH X 0
                      have x1 : wr.cell? ⟨w.heap.size, 1, none⟩ = some (.int .i64 x.den) := cellH X 1
                      have u0 : wr.cell? ⟨w.heap.size + 1, 0, none⟩ = some (.int .i64 z.num) := cellH Z 0
                      have u1 : wr.cell? ⟨w.heap.size + 1, 1, none⟩ = some (.int .i64 z.den) := cellH Z 1
                      go_wp2_with fail
                      refine wp_region_held_drew (S := fun w' => w'.cell? ⟨g, off + k * 4, none⟩ = some (.int .i64 f.num) ∧ w'.cell? ⟨g, off + k * 4 + 1, none⟩ = some (.int .i64 f.den) ∧ w'.cell? ⟨w.heap.size, 0, none⟩ = some (.int .i64 x.num) ∧ w'.cell? ⟨w.heap.size, 1, none⟩ = some (.int .i64 x.den) ∧ w'.cell? ⟨w.heap.size + 1, 0, none⟩ = some (.int .i64 z.num) ∧ w'.cell? ⟨w.heap.size + 1, 1, none⟩ = some (.int .i64 z.den)) (by kernel_rfl) ?_ (fun hH0 => ?_)
                      · exact ⟨k0, k1, x0, x1, u0, u1⟩
                      refine wpAnyH_take (i := 0) (oi := { dst := some 50, op := Go.Op.move (Go.Operand.tmp 0), type := 22, pos := "law.go:117", after := #[], guard := none }) (v := ?_) rfl (by kernel_rfl) (by kernel_rfl) (by kernel_rfl) (fun _ _ _ h => h) (Or.inl ⟨by rfl, ?_⟩) (by assumption) ?_
                      rotate_left
                      · intro wq hSw; (try dsimp only at hSw); go_simp; (try with_reducible rfl)
                      try simp only [Act.put, List.setIfInBounds_toArray, List.set_cons_zero, List.set_cons_succ]
                      refine wpAnyH_take (i := 1) (oi := { dst := some 51, op := Go.Op.move (Go.Operand.tmp 8), type := 3, pos := "law.go:117", after := #[], guard := none }) (v := ?_) rfl (by kernel_rfl) (by kernel_rfl) (by kernel_rfl) (fun _ _ _ h => h) (Or.inl ⟨by rfl, ?_⟩) (by assumption) ?_
                      rotate_left
                      · intro wq hSw; (try dsimp only at hSw); go_simp; (try with_reducible rfl)
                      try simp only [Act.put, List.setIfInBounds_toArray, List.set_cons_zero, List.set_cons_succ]
                      refine wpAnyH_take (i := 2) (oi := { dst := some 52, op := Go.Op.indexAddr 22 (Go.Operand.tmp 50) (Go.Operand.tmp 51), type := 0, pos := "law.go:117", after := #[{ on := 0, ground := Go.Ground.data }, { on := 1, ground := Go.Ground.data }], guard := none }) (v := ?_) rfl (by kernel_rfl) (by kernel_rfl) (by kernel_rfl) (fun _ _ _ h => h) (Or.inl ⟨by rfl, ?_⟩) (by assumption) ?_
                      rotate_left
                      · intro wq hSw; (try dsimp only at hSw); go_simp; (try with_reducible rfl)
                      try simp only [Act.put, List.setIfInBounds_toArray, List.set_cons_zero, List.set_cons_succ]
                      refine wpAnyH_take (i := 3) (oi := { dst := some 53, op := Go.Op.fieldAddr 29 (Go.Operand.tmp 52) 0, type := 0, pos := "law.go:117", after := #[{ on := 2, ground := Go.Ground.data }], guard := none }) (v := ?_) rfl (by kernel_rfl) (by kernel_rfl) (by kernel_rfl) (fun _ _ _ h => h) (Or.inl ⟨by rfl, ?_⟩) (by assumption) ?_
                      rotate_left
                      · intro wq hSw; (try dsimp only at hSw); go_simp; (try with_reducible rfl)
                      try simp only [Act.put, List.setIfInBounds_toArray, List.set_cons_zero, List.set_cons_succ]
                      refine wpAnyH_take (i := 4) (oi := { dst := some 54, op := Go.Op.load 24 (Go.Operand.tmp 53), type := 24, pos := "law.go:117", after := #[{ on := 3, ground := Go.Ground.data }], guard := none }) (v := ?_) rfl (by kernel_rfl) (by kernel_rfl) (by kernel_rfl) (fun _ _ _ h => h) (Or.inl ⟨by rfl, ?_⟩) (by assumption) ?_
                      rotate_left
                      · intro wq hSw; (try dsimp only at hSw); go_simp; (try with_reducible rfl)
                      try simp only [Act.put, List.setIfInBounds_toArray, List.set_cons_zero, List.set_cons_succ]
                      refine wpAnyH_ready (rs := [5]) (by kernel_rfl) (by simp) ?_
                      refine AllReadyH.cons (o := { dst := some 55, op := Go.Op.call { callee := Go.Callee.value (Go.Operand.func 10), args := #[Go.Operand.tmp 54], argTypes := #[24] }, type := 4, pos := "law.go:117", after := #[{ on := 4, ground := Go.Ground.data }], guard := none }) rfl (fun K hK => ?_) ?_
                      rotate_left
                      · exact AllReadyH.nil
                      go_simp
                      refine (refv_is f.num f.den true _ HVB.out a1 a2 a3 a4).mono ?_
                      rintro e w25 ⟨rfl, hb25⟩
                      have hw25 : Below w.heap.size w w25 := stepH (by (repeat' (first | with_reducible exact Below.refl _ _ | with_reducible assumption | with_reducible refine Below.drew ?_ | with_reducible refine below_drewN ?_ _ | with_reducible refine Below.setCell ?_ ?_ _ | with_reducible refine Below.alloc ?_ ?_ _ | omega | (simp; done) | (simp; omega)))) hb25
                      replace X := keepH hb25 (drew_old X.out)
                      replace Z := keepH hb25 (drew_old Z.out)
                      replace k0 : w25.cell? ⟨g, off + k * 4, none⟩ = some (.int .i64 f.num) := cellOf hb25 (cell_drew k0)
                      replace k1 : w25.cell? ⟨g, off + k * 4 + 1, none⟩ = some (.int .i64 f.den) := cellOf hb25 (cell_drew k1)
                      replace x0 : w25.cell? ⟨w.heap.size, 0, none⟩ = some (.int .i64 x.num) := cellOf hb25 (cell_drew x0)
                      replace x1 : w25.cell? ⟨w.heap.size, 1, none⟩ = some (.int .i64 x.den) := cellOf hb25 (cell_drew x1)
                      replace u0 : w25.cell? ⟨w.heap.size + 1, 0, none⟩ = some (.int .i64 z.num) := cellOf hb25 (cell_drew u0)
                      replace u1 : w25.cell? ⟨w.heap.size + 1, 1, none⟩ = some (.int .i64 z.den) := cellOf hb25 (cell_drew u1)
                      go_wp2_with fail
                      refine hK.out _ _ ?_ (fun hH1 => ?_)
                      · (try dsimp only); exact ⟨k0, k1, x0, x1, u0, u1⟩
                      clear hK K
                      clear hH0
                      try simp only [Act.put, List.setIfInBounds_toArray, List.set_cons_zero, List.set_cons_succ]
                      refine wpAnyH_take (i := 6) (oi := { dst := some 56, op := Go.Op.move (Go.Operand.tmp 55), type := 4, pos := "law.go:117", after := #[{ on := 5, ground := Go.Ground.data }, { on := 5, ground := Go.Ground.chain }], guard := none }) (v := ?_) rfl (by kernel_rfl) (by kernel_rfl) (by kernel_rfl) (fun _ _ _ h => h) (Or.inl ⟨by rfl, ?_⟩) (by assumption) ?_
                      rotate_left
                      · intro wq hSw; (try dsimp only at hSw); go_simp; (try with_reducible rfl)
                      try simp only [Act.put, List.setIfInBounds_toArray, List.set_cons_zero, List.set_cons_succ]
                      refine wpAnyH_take (i := 7) (oi := { dst := some 57, op := Go.Op.move (Go.Operand.tmp 0), type := 22, pos := "law.go:117", after := #[{ on := 6, ground := Go.Ground.guard }], guard := some (6, true) }) (v := ?_) rfl (by kernel_rfl) (by kernel_rfl) (by kernel_rfl) (fun _ _ _ h => h) (Or.inl ⟨by rfl, ?_⟩) (by assumption) ?_
                      rotate_left
                      · intro wq hSw; (try dsimp only at hSw); go_simp; (try with_reducible rfl)
                      try simp only [Act.put, List.setIfInBounds_toArray, List.set_cons_zero, List.set_cons_succ]
                      refine wpAnyH_take (i := 8) (oi := { dst := some 58, op := Go.Op.move (Go.Operand.tmp 8), type := 3, pos := "law.go:117", after := #[{ on := 6, ground := Go.Ground.guard }], guard := some (6, true) }) (v := ?_) rfl (by kernel_rfl) (by kernel_rfl) (by kernel_rfl) (fun _ _ _ h => h) (Or.inl ⟨by rfl, ?_⟩) (by assumption) ?_
                      rotate_left
                      · intro wq hSw; (try dsimp only at hSw); go_simp; (try with_reducible rfl)
                      try simp only [Act.put, List.setIfInBounds_toArray, List.set_cons_zero, List.set_cons_succ]
                      refine wpAnyH_take (i := 9) (oi := { dst := some 59, op := Go.Op.indexAddr 22 (Go.Operand.tmp 57) (Go.Operand.tmp 58), type := 0, pos := "law.go:117", after := #[{ on := 7, ground := Go.Ground.data }, { on := 8, ground := Go.Ground.data }, { on := 6, ground := Go.Ground.guard }], guard := some (6, true) }) (v := ?_) rfl (by kernel_rfl) (by kernel_rfl) (by kernel_rfl) (fun _ _ _ h => h) (Or.inl ⟨by rfl, ?_⟩) (by assumption) ?_
                      rotate_left
                      · intro wq hSw; (try dsimp only at hSw); go_simp; (try with_reducible rfl)
                      try simp only [Act.put, List.setIfInBounds_toArray, List.set_cons_zero, List.set_cons_succ]
                      refine wpAnyH_take (i := 10) (oi := { dst := some 60, op := Go.Op.fieldAddr 29 (Go.Operand.tmp 59) 0, type := 0, pos := "law.go:117", after := #[{ on := 9, ground := Go.Ground.data }, { on := 6, ground := Go.Ground.guard }], guard := some (6, true) }) (v := ?_) rfl (by kernel_rfl) (by kernel_rfl) (by kernel_rfl) (fun _ _ _ h => h) (Or.inl ⟨by rfl, ?_⟩) (by assumption) ?_
                      rotate_left
                      · intro wq hSw; (try dsimp only at hSw); go_simp; (try with_reducible rfl)
                      try simp only [Act.put, List.setIfInBounds_toArray, List.set_cons_zero, List.set_cons_succ]
                      refine wpAnyH_take (i := 11) (oi := { dst := some 61, op := Go.Op.load 24 (Go.Operand.tmp 60), type := 24, pos := "law.go:117", after := #[{ on := 10, ground := Go.Ground.data }, { on := 6, ground := Go.Ground.guard }], guard := some (6, true) }) (v := ?_) rfl (by kernel_rfl) (by kernel_rfl) (by kernel_rfl) (fun _ _ _ h => h) (Or.inl ⟨by rfl, ?_⟩) (by assumption) ?_
                      rotate_left
                      · intro wq hSw; (try dsimp only at hSw); go_simp; (try with_reducible rfl)
                      try simp only [Act.put, List.setIfInBounds_toArray, List.set_cons_zero, List.set_cons_succ]
                      refine wpAnyH_take (i := 12) (oi := { dst := some 62, op := Go.Op.load 24 (Go.Operand.tmp 4), type := 24, pos := "law.go:117", after := #[{ on := 6, ground := Go.Ground.guard }], guard := some (6, true) }) (v := ?_) rfl (by kernel_rfl) (by kernel_rfl) (by kernel_rfl) (fun _ _ _ h => h) (Or.inl ⟨by rfl, ?_⟩) (by assumption) ?_
                      rotate_left
                      · intro wq hSw; (try dsimp only at hSw); go_simp; (try with_reducible rfl)
                      try simp only [Act.put, List.setIfInBounds_toArray, List.set_cons_zero, List.set_cons_succ]
                      refine wpAnyH_ready (rs := [13]) (by kernel_rfl) (by simp) ?_
                      refine AllReadyH.cons (o := { dst := some 63, op := Go.Op.call { callee := Go.Callee.value (Go.Operand.func 11), args := #[Go.Operand.tmp 61, Go.Operand.tmp 62], argTypes := #[24, 24] }, type := 3, pos := "law.go:117", after := #[{ on := 11, ground := Go.Ground.data }, { on := 12, ground := Go.Ground.data }, { on := 6, ground := Go.Ground.chain }, { on := 6, ground := Go.Ground.guard }], guard := some (6, true) }) rfl (fun K hK => ?_) ?_
                      rotate_left
                      · exact AllReadyH.nil
                      go_simp
                      refine (refCmp_is f x 1 _ HF.out HX.out HC1.out).mono ?_
                      rintro e w26 ⟨rfl, hb26⟩
                      have hw26 : Below w.heap.size w w26 := stepH (by (repeat' (first | with_reducible exact Below.refl _ _ | with_reducible assumption | with_reducible refine Below.drew ?_ | with_reducible refine below_drewN ?_ _ | with_reducible refine Below.setCell ?_ ?_ _ | with_reducible refine Below.alloc ?_ ?_ _ | omega | (simp; done) | (simp; omega)))) hb26
                      replace X := keepH hb26 X.out
                      replace Z := keepH hb26 Z.out
                      replace k0 : w26.cell? ⟨g, off + k * 4, none⟩ = some (.int .i64 f.num) := cellOf hb26 k0
                      replace k1 : w26.cell? ⟨g, off + k * 4 + 1, none⟩ = some (.int .i64 f.den) := cellOf hb26 k1
                      replace x0 : w26.cell? ⟨w.heap.size, 0, none⟩ = some (.int .i64 x.num) := cellOf hb26 x0
                      replace x1 : w26.cell? ⟨w.heap.size, 1, none⟩ = some (.int .i64 x.den) := cellOf hb26 x1
                      replace u0 : w26.cell? ⟨w.heap.size + 1, 0, none⟩ = some (.int .i64 z.num) := cellOf hb26 u0
                      replace u1 : w26.cell? ⟨w.heap.size + 1, 1, none⟩ = some (.int .i64 z.den) := cellOf hb26 u1
                      go_wp2_with fail
                      refine hK.out _ _ ?_ (fun hH2 => ?_)
                      · (try dsimp only); exact ⟨k0, k1, x0, x1, u0, u1⟩
                      clear hK K
                      clear hH1
                      try simp only [Act.put, List.setIfInBounds_toArray, List.set_cons_zero, List.set_cons_succ]
                      refine wpAnyH_take (i := 14) (oi := { dst := some 64, op := Go.Op.binOp Go.BinOp.gtr 3 (Go.Operand.tmp 63) (Go.Operand.const (Go.Value.int Go.IntKind.i64 0)) 3, type := 4, pos := "law.go:117", after := #[{ on := 13, ground := Go.Ground.data }, { on := 6, ground := Go.Ground.guard }], guard := some (6, true) }) (v := ?_) rfl (by kernel_rfl) (by kernel_rfl) (by kernel_rfl) (fun _ _ _ h => h) (Or.inl ⟨by rfl, ?_⟩) (by assumption) ?_
                      rotate_left
                      · intro wq hSw; (try dsimp only at hSw); go_simp; (try with_reducible rfl)
                      try simp only [Act.put, List.setIfInBounds_toArray, List.set_cons_zero, List.set_cons_succ]
                      refine wpAnyH_take (i := 15) (oi := { dst := some 65, op := Go.Op.pick (Go.Operand.tmp 56) (Go.Operand.tmp 64) (Go.Operand.const (Go.Value.bool false)), type := 4, pos := "law.go:117", after := #[{ on := 6, ground := Go.Ground.data }, { on := 14, ground := Go.Ground.data }], guard := none }) (v := ?_) rfl (by kernel_rfl) (by kernel_rfl) (by kernel_rfl) (fun _ _ _ h => h) (Or.inl ⟨by rfl, ?_⟩) (by assumption) ?_
                      rotate_left
                      · intro wq hSw; (try dsimp only at hSw); go_simp; (try with_reducible rfl)
                      try simp only [Act.put, List.setIfInBounds_toArray, List.set_cons_zero, List.set_cons_succ]
                      refine wpAnyH_take (i := 16) (oi := { dst := some 66, op := Go.Op.move (Go.Operand.tmp 65), type := 4, pos := "law.go:117", after := #[{ on := 15, ground := Go.Ground.data }, { on := 13, ground := Go.Ground.chain }], guard := none }) (v := ?_) rfl (by kernel_rfl) (by kernel_rfl) (by kernel_rfl) (fun _ _ _ h => h) (Or.inl ⟨by rfl, ?_⟩) (by assumption) ?_
                      rotate_left
                      · intro wq hSw; (try dsimp only at hSw); go_simp; (try with_reducible rfl)
                      try simp only [Act.put, List.setIfInBounds_toArray, List.set_cons_zero, List.set_cons_succ]
                      refine wpAnyH_take (i := 17) (oi := { dst := some 67, op := Go.Op.move (Go.Operand.tmp 0), type := 22, pos := "law.go:117", after := #[{ on := 16, ground := Go.Ground.guard }], guard := some (16, true) }) (v := ?_) rfl (by kernel_rfl) (by kernel_rfl) (by kernel_rfl) (fun _ _ _ h => h) (Or.inl ⟨by rfl, ?_⟩) (by assumption) ?_
                      rotate_left
                      · intro wq hSw; (try dsimp only at hSw); go_simp; (try with_reducible rfl)
                      try simp only [Act.put, List.setIfInBounds_toArray, List.set_cons_zero, List.set_cons_succ]
                      refine wpAnyH_take (i := 18) (oi := { dst := some 68, op := Go.Op.move (Go.Operand.tmp 8), type := 3, pos := "law.go:117", after := #[{ on := 16, ground := Go.Ground.guard }], guard := some (16, true) }) (v := ?_) rfl (by kernel_rfl) (by kernel_rfl) (by kernel_rfl) (fun _ _ _ h => h) (Or.inl ⟨by rfl, ?_⟩) (by assumption) ?_
                      rotate_left
                      · intro wq hSw; (try dsimp only at hSw); go_simp; (try with_reducible rfl)
                      try simp only [Act.put, List.setIfInBounds_toArray, List.set_cons_zero, List.set_cons_succ]
                      refine wpAnyH_take (i := 19) (oi := { dst := some 69, op := Go.Op.indexAddr 22 (Go.Operand.tmp 67) (Go.Operand.tmp 68), type := 0, pos := "law.go:117", after := #[{ on := 17, ground := Go.Ground.data }, { on := 18, ground := Go.Ground.data }, { on := 16, ground := Go.Ground.guard }], guard := some (16, true) }) (v := ?_) rfl (by kernel_rfl) (by kernel_rfl) (by kernel_rfl) (fun _ _ _ h => h) (Or.inl ⟨by rfl, ?_⟩) (by assumption) ?_
                      rotate_left
                      · intro wq hSw; (try dsimp only at hSw); go_simp; (try with_reducible rfl)
                      try simp only [Act.put, List.setIfInBounds_toArray, List.set_cons_zero, List.set_cons_succ]
                      refine wpAnyH_take (i := 20) (oi := { dst := some 70, op := Go.Op.fieldAddr 29 (Go.Operand.tmp 69) 0, type := 0, pos := "law.go:117", after := #[{ on := 19, ground := Go.Ground.data }, { on := 16, ground := Go.Ground.guard }], guard := some (16, true) }) (v := ?_) rfl (by kernel_rfl) (by kernel_rfl) (by kernel_rfl) (fun _ _ _ h => h) (Or.inl ⟨by rfl, ?_⟩) (by assumption) ?_
                      rotate_left
                      · intro wq hSw; (try dsimp only at hSw); go_simp; (try with_reducible rfl)
                      try simp only [Act.put, List.setIfInBounds_toArray, List.set_cons_zero, List.set_cons_succ]
                      refine wpAnyH_take (i := 21) (oi := { dst := some 71, op := Go.Op.load 24 (Go.Operand.tmp 70), type := 24, pos := "law.go:117", after := #[{ on := 20, ground := Go.Ground.data }, { on := 16, ground := Go.Ground.guard }], guard := some (16, true) }) (v := ?_) rfl (by kernel_rfl) (by kernel_rfl) (by kernel_rfl) (fun _ _ _ h => h) (Or.inl ⟨by rfl, ?_⟩) (by assumption) ?_
                      rotate_left
                      · intro wq hSw; (try dsimp only at hSw); go_simp; (try with_reducible rfl)
                      try simp only [Act.put, List.setIfInBounds_toArray, List.set_cons_zero, List.set_cons_succ]
                      refine wpAnyH_take (i := 22) (oi := { dst := some 72, op := Go.Op.load 24 (Go.Operand.tmp 5), type := 24, pos := "law.go:117", after := #[{ on := 16, ground := Go.Ground.guard }], guard := some (16, true) }) (v := ?_) rfl (by kernel_rfl) (by kernel_rfl) (by kernel_rfl) (fun _ _ _ h => h) (Or.inl ⟨by rfl, ?_⟩) (by assumption) ?_
                      rotate_left
                      · intro wq hSw; (try dsimp only at hSw); go_simp; (try with_reducible rfl)
                      try simp only [Act.put, List.setIfInBounds_toArray, List.set_cons_zero, List.set_cons_succ]
                      refine wpAnyH_ready (rs := [23]) (by kernel_rfl) (by simp) ?_
                      refine AllReadyH.cons (o := { dst := some 73, op := Go.Op.call { callee := Go.Callee.value (Go.Operand.func 11), args := #[Go.Operand.tmp 71, Go.Operand.tmp 72], argTypes := #[24, 24] }, type := 3, pos := "law.go:117", after := #[{ on := 21, ground := Go.Ground.data }, { on := 22, ground := Go.Ground.data }, { on := 16, ground := Go.Ground.chain }, { on := 16, ground := Go.Ground.guard }], guard := some (16, true) }) rfl (fun K hK => ?_) ?_
                      rotate_left
                      · exact AllReadyH.nil
                      go_simp
                      refine (refCmp_is f z _ _ HF.out HZ.out HC2.out).mono ?_
                      rintro e w27 ⟨rfl, hb27⟩
                      have hw27 : Below w.heap.size w w27 := stepH (by (repeat' (first | with_reducible exact Below.refl _ _ | with_reducible assumption | with_reducible refine Below.drew ?_ | with_reducible refine below_drewN ?_ _ | with_reducible refine Below.setCell ?_ ?_ _ | with_reducible refine Below.alloc ?_ ?_ _ | omega | (simp; done) | (simp; omega)))) hb27
                      replace X := keepH hb27 X.out
                      replace Z := keepH hb27 Z.out
                      replace k0 : w27.cell? ⟨g, off + k * 4, none⟩ = some (.int .i64 f.num) := cellOf hb27 k0
                      replace k1 : w27.cell? ⟨g, off + k * 4 + 1, none⟩ = some (.int .i64 f.den) := cellOf hb27 k1
                      replace x0 : w27.cell? ⟨w.heap.size, 0, none⟩ = some (.int .i64 x.num) := cellOf hb27 x0
                      replace x1 : w27.cell? ⟨w.heap.size, 1, none⟩ = some (.int .i64 x.den) := cellOf hb27 x1
                      replace u0 : w27.cell? ⟨w.heap.size + 1, 0, none⟩ = some (.int .i64 z.num) := cellOf hb27 u0
                      replace u1 : w27.cell? ⟨w.heap.size + 1, 1, none⟩ = some (.int .i64 z.den) := cellOf hb27 u1
                      go_wp2_with fail
                      refine hK.out _ _ ?_ (fun hH3 => ?_)
                      · (try dsimp only); exact ⟨k0, k1, x0, x1, u0, u1⟩
                      clear hK K
                      clear hH2
                      try simp only [Act.put, List.setIfInBounds_toArray, List.set_cons_zero, List.set_cons_succ]
                      refine wpAnyH_take (i := 24) (oi := { dst := some 74, op := Go.Op.binOp Go.BinOp.lss 3 (Go.Operand.tmp 73) (Go.Operand.const (Go.Value.int Go.IntKind.i64 0)) 3, type := 4, pos := "law.go:117", after := #[{ on := 23, ground := Go.Ground.data }, { on := 16, ground := Go.Ground.guard }], guard := some (16, true) }) (v := ?_) rfl (by kernel_rfl) (by kernel_rfl) (by kernel_rfl) (fun _ _ _ h => h) (Or.inl ⟨by rfl, ?_⟩) (by assumption) ?_
                      rotate_left
                      · intro wq hSw; (try dsimp only at hSw); go_simp; (try with_reducible rfl)
                      try simp only [Act.put, List.setIfInBounds_toArray, List.set_cons_zero, List.set_cons_succ]
                      refine wpAnyH_take (i := 25) (oi := { dst := some 75, op := Go.Op.pick (Go.Operand.tmp 66) (Go.Operand.tmp 74) (Go.Operand.const (Go.Value.bool false)), type := 4, pos := "law.go:117", after := #[{ on := 16, ground := Go.Ground.data }, { on := 24, ground := Go.Ground.data }], guard := none }) (v := ?_) rfl (by kernel_rfl) (by kernel_rfl) (by kernel_rfl) (fun _ _ _ h => h) (Or.inl ⟨by rfl, ?_⟩) (by assumption) ?_
                      rotate_left
                      · intro wq hSw; (try dsimp only at hSw); go_simp; (try with_reducible rfl)
                      try simp only [Act.put, List.setIfInBounds_toArray, List.set_cons_zero, List.set_cons_succ]
                      refine wpAnyH_done (by kernel_rfl) ?_ _
                      clear x0 x1 u0 u1
                      go_wp2_with fail
                      go_roundw
                      case rel => exact ⟨k + 1, by omega, by go_num, hq2, X, Z, by (repeat' (first | with_reducible exact Below.refl _ _ | with_reducible assumption | with_reducible refine Below.drew ?_ | with_reducible refine below_drewN ?_ _ | with_reducible refine Below.setCell ?_ ?_ _ | with_reducible refine Below.alloc ?_ ?_ _ | omega | (simp; done) | (simp; omega)))⟩
                      case measure => simp [intOf]; omega
                · have hq2 : Hid (∀ q ∈ s.take (k + 1), validB q.1 q.2.1 = true → ¬ (x < frm q ∧ frm q < z)) := by
                    show ∀ q ∈ s.take (k + 1), _
                    rw [take_snoc HBX.out]
                    intro q hm
                    rcases List.mem_append.1 hm with h | h
                    · exact hq.out q h
                    · rw [List.mem_singleton] at h; subst h; intro _ h9; exact hfx (by have h := h9.1; rwa [frm_of rfl rfl] at h)
                  have h4 := cmp_small f x
                  obtain ⟨cc, hcc, hc0⟩ : ∃ cc, cmpQ f x = cc ∧ (cc = 0 ∨ cc = -1) := ⟨_, rfl, by
                    unfold cmpQ
                    split
                    · exact .inr rfl
                    · first | exact .inl rfl | (rw [if_neg hfx]; exact .inl rfl)⟩
                  have HC1 := Lib.hid hcc
                  clear hfx hcc h4
                  rcases hc0 with rfl | rfl
                  all_goals
                    have x0 : wr.cell? ⟨w.heap.size, 0, none⟩ = some (.int .i64 x.num) := cellH X 0
                    have x1 : wr.cell? ⟨w.heap.size, 1, none⟩ = some (.int .i64 x.den) := cellH X 1
                    have u0 : wr.cell? ⟨w.heap.size + 1, 0, none⟩ = some (.int .i64 z.num) := cellH Z 0
                    have u1 : wr.cell? ⟨w.heap.size + 1, 1, none⟩ = some (.int .i64 z.den) := cellH Z 1
                    go_wp2_with fail
                    refine wp_region_held_drew (S := fun w' => w'.cell? ⟨g, off + k * 4, none⟩ = some (.int .i64 f.num) ∧ w'.cell? ⟨g, off + k * 4 + 1, none⟩ = some (.int .i64 f.den) ∧ w'.cell? ⟨w.heap.size, 0, none⟩ = some (.int .i64 x.num) ∧ w'.cell? ⟨w.heap.size, 1, none⟩ = some (.int .i64 x.den) ∧ w'.cell? ⟨w.heap.size + 1, 0, none⟩ = some (.int .i64 z.num) ∧ w'.cell? ⟨w.heap.size + 1, 1, none⟩ = some (.int .i64 z.den)) (by kernel_rfl) ?_ (fun hH0 => ?_)
                    · exact ⟨k0, k1, x0, x1, u0, u1⟩
                    refine wpAnyH_take (i := 0) (oi := { dst := some 50, op := Go.Op.move (Go.Operand.tmp 0), type := 22, pos := "law.go:117", after := #[], guard := none }) (v := ?_) rfl (by kernel_rfl) (by kernel_rfl) (by kernel_rfl) (fun _ _ _ h => h) (Or.inl ⟨by rfl, ?_⟩) (by assumption) ?_
                    rotate_left
                    · intro wq hSw; (try dsimp only at hSw); go_simp; (try with_reducible rfl)
                    try simp only [Act.put, List.setIfInBounds_toArray, List.set_cons_zero, List.set_cons_succ]
                    refine wpAnyH_take (i := 1) (oi := { dst := some 51, op := Go.Op.move (Go.Operand.tmp 8), type := 3, pos := "law.go:117", after := #[], guard := none }) (v := ?_) rfl (by kernel_rfl) (by kernel_rfl) (by kernel_rfl) (fun _ _ _ h => h) (Or.inl ⟨by rfl, ?_⟩) (by assumption) ?_
                    rotate_left
                    · intro wq hSw; (try dsimp only at hSw); go_simp; (try with_reducible rfl)
                    try simp only [Act.put, List.setIfInBounds_toArray, List.set_cons_zero, List.set_cons_succ]
                    refine wpAnyH_take (i := 2) (oi := { dst := some 52, op := Go.Op.indexAddr 22 (Go.Operand.tmp 50) (Go.Operand.tmp 51), type := 0, pos := "law.go:117", after := #[{ on := 0, ground := Go.Ground.data }, { on := 1, ground := Go.Ground.data }], guard := none }) (v := ?_) rfl (by kernel_rfl) (by kernel_rfl) (by kernel_rfl) (fun _ _ _ h => h) (Or.inl ⟨by rfl, ?_⟩) (by assumption) ?_
                    rotate_left
                    · intro wq hSw; (try dsimp only at hSw); go_simp; (try with_reducible rfl)
                    try simp only [Act.put, List.setIfInBounds_toArray, List.set_cons_zero, List.set_cons_succ]
                    refine wpAnyH_take (i := 3) (oi := { dst := some 53, op := Go.Op.fieldAddr 29 (Go.Operand.tmp 52) 0, type := 0, pos := "law.go:117", after := #[{ on := 2, ground := Go.Ground.data }], guard := none }) (v := ?_) rfl (by kernel_rfl) (by kernel_rfl) (by kernel_rfl) (fun _ _ _ h => h) (Or.inl ⟨by rfl, ?_⟩) (by assumption) ?_
                    rotate_left
                    · intro wq hSw; (try dsimp only at hSw); go_simp; (try with_reducible rfl)
                    try simp only [Act.put, List.setIfInBounds_toArray, List.set_cons_zero, List.set_cons_succ]
                    refine wpAnyH_take (i := 4) (oi := { dst := some 54, op := Go.Op.load 24 (Go.Operand.tmp 53), type := 24, pos := "law.go:117", after := #[{ on := 3, ground := Go.Ground.data }], guard := none }) (v := ?_) rfl (by kernel_rfl) (by kernel_rfl) (by kernel_rfl) (fun _ _ _ h => h) (Or.inl ⟨by rfl, ?_⟩) (by assumption) ?_
                    rotate_left
                    · intro wq hSw; (try dsimp only at hSw); go_simp; (try with_reducible rfl)
                    try simp only [Act.put, List.setIfInBounds_toArray, List.set_cons_zero, List.set_cons_succ]
                    refine wpAnyH_ready (rs := [5]) (by kernel_rfl) (by simp) ?_
                    refine AllReadyH.cons (o := { dst := some 55, op := Go.Op.call { callee := Go.Callee.value (Go.Operand.func 10), args := #[Go.Operand.tmp 54], argTypes := #[24] }, type := 4, pos := "law.go:117", after := #[{ on := 4, ground := Go.Ground.data }], guard := none }) rfl (fun K hK => ?_) ?_
                    rotate_left
                    · exact AllReadyH.nil
                    go_simp
                    refine (refv_is f.num f.den true _ HVB.out a1 a2 a3 a4).mono ?_
                    rintro e w28 ⟨rfl, hb28⟩
                    have hw28 : Below w.heap.size w w28 := stepH (by (repeat' (first | with_reducible exact Below.refl _ _ | with_reducible assumption | with_reducible refine Below.drew ?_ | with_reducible refine below_drewN ?_ _ | with_reducible refine Below.setCell ?_ ?_ _ | with_reducible refine Below.alloc ?_ ?_ _ | omega | (simp; done) | (simp; omega)))) hb28
                    replace X := keepH hb28 (drew_old X.out)
                    replace Z := keepH hb28 (drew_old Z.out)
                    replace k0 : w28.cell? ⟨g, off + k * 4, none⟩ = some (.int .i64 f.num) := cellOf hb28 (cell_drew k0)
                    replace k1 : w28.cell? ⟨g, off + k * 4 + 1, none⟩ = some (.int .i64 f.den) := cellOf hb28 (cell_drew k1)
                    replace x0 : w28.cell? ⟨w.heap.size, 0, none⟩ = some (.int .i64 x.num) := cellOf hb28 (cell_drew x0)
                    replace x1 : w28.cell? ⟨w.heap.size, 1, none⟩ = some (.int .i64 x.den) := cellOf hb28 (cell_drew x1)
                    replace u0 : w28.cell? ⟨w.heap.size + 1, 0, none⟩ = some (.int .i64 z.num) := cellOf hb28 (cell_drew u0)
                    replace u1 : w28.cell? ⟨w.heap.size + 1, 1, none⟩ = some (.int .i64 z.den) := cellOf hb28 (cell_drew u1)
                    go_wp2_with fail
                    refine hK.out _ _ ?_ (fun hH1 => ?_)
                    · (try dsimp only); exact ⟨k0, k1, x0, x1, u0, u1⟩
                    clear hK K
                    clear hH0
                    try simp only [Act.put, List.setIfInBounds_toArray, List.set_cons_zero, List.set_cons_succ]
                    refine wpAnyH_take (i := 6) (oi := { dst := some 56, op := Go.Op.move (Go.Operand.tmp 55), type := 4, pos := "law.go:117", after := #[{ on := 5, ground := Go.Ground.data }, { on := 5, ground := Go.Ground.chain }], guard := none }) (v := ?_) rfl (by kernel_rfl) (by kernel_rfl) (by kernel_rfl) (fun _ _ _ h => h) (Or.inl ⟨by rfl, ?_⟩) (by assumption) ?_
                    rotate_left
                    · intro wq hSw; (try dsimp only at hSw); go_simp; (try with_reducible rfl)
                    try simp only [Act.put, List.setIfInBounds_toArray, List.set_cons_zero, List.set_cons_succ]
                    refine wpAnyH_take (i := 7) (oi := { dst := some 57, op := Go.Op.move (Go.Operand.tmp 0), type := 22, pos := "law.go:117", after := #[{ on := 6, ground := Go.Ground.guard }], guard := some (6, true) }) (v := ?_) rfl (by kernel_rfl) (by kernel_rfl) (by kernel_rfl) (fun _ _ _ h => h) (Or.inl ⟨by rfl, ?_⟩) (by assumption) ?_
                    rotate_left
                    · intro wq hSw; (try dsimp only at hSw); go_simp; (try with_reducible rfl)
                    try simp only [Act.put, List.setIfInBounds_toArray, List.set_cons_zero, List.set_cons_succ]
                    refine wpAnyH_take (i := 8) (oi := { dst := some 58, op := Go.Op.move (Go.Operand.tmp 8), type := 3, pos := "law.go:117", after := #[{ on := 6, ground := Go.Ground.guard }], guard := some (6, true) }) (v := ?_) rfl (by kernel_rfl) (by kernel_rfl) (by kernel_rfl) (fun _ _ _ h => h) (Or.inl ⟨by rfl, ?_⟩) (by assumption) ?_
                    rotate_left
                    · intro wq hSw; (try dsimp only at hSw); go_simp; (try with_reducible rfl)
                    try simp only [Act.put, List.setIfInBounds_toArray, List.set_cons_zero, List.set_cons_succ]
                    refine wpAnyH_take (i := 9) (oi := { dst := some 59, op := Go.Op.indexAddr 22 (Go.Operand.tmp 57) (Go.Operand.tmp 58), type := 0, pos := "law.go:117", after := #[{ on := 7, ground := Go.Ground.data }, { on := 8, ground := Go.Ground.data }, { on := 6, ground := Go.Ground.guard }], guard := some (6, true) }) (v := ?_) rfl (by kernel_rfl) (by kernel_rfl) (by kernel_rfl) (fun _ _ _ h => h) (Or.inl ⟨by rfl, ?_⟩) (by assumption) ?_
                    rotate_left
                    · intro wq hSw; (try dsimp only at hSw); go_simp; (try with_reducible rfl)
                    try simp only [Act.put, List.setIfInBounds_toArray, List.set_cons_zero, List.set_cons_succ]
                    refine wpAnyH_take (i := 10) (oi := { dst := some 60, op := Go.Op.fieldAddr 29 (Go.Operand.tmp 59) 0, type := 0, pos := "law.go:117", after := #[{ on := 9, ground := Go.Ground.data }, { on := 6, ground := Go.Ground.guard }], guard := some (6, true) }) (v := ?_) rfl (by kernel_rfl) (by kernel_rfl) (by kernel_rfl) (fun _ _ _ h => h) (Or.inl ⟨by rfl, ?_⟩) (by assumption) ?_
                    rotate_left
                    · intro wq hSw; (try dsimp only at hSw); go_simp; (try with_reducible rfl)
                    try simp only [Act.put, List.setIfInBounds_toArray, List.set_cons_zero, List.set_cons_succ]
                    refine wpAnyH_take (i := 11) (oi := { dst := some 61, op := Go.Op.load 24 (Go.Operand.tmp 60), type := 24, pos := "law.go:117", after := #[{ on := 10, ground := Go.Ground.data }, { on := 6, ground := Go.Ground.guard }], guard := some (6, true) }) (v := ?_) rfl (by kernel_rfl) (by kernel_rfl) (by kernel_rfl) (fun _ _ _ h => h) (Or.inl ⟨by rfl, ?_⟩) (by assumption) ?_
                    rotate_left
                    · intro wq hSw; (try dsimp only at hSw); go_simp; (try with_reducible rfl)
                    try simp only [Act.put, List.setIfInBounds_toArray, List.set_cons_zero, List.set_cons_succ]
                    refine wpAnyH_take (i := 12) (oi := { dst := some 62, op := Go.Op.load 24 (Go.Operand.tmp 4), type := 24, pos := "law.go:117", after := #[{ on := 6, ground := Go.Ground.guard }], guard := some (6, true) }) (v := ?_) rfl (by kernel_rfl) (by kernel_rfl) (by kernel_rfl) (fun _ _ _ h => h) (Or.inl ⟨by rfl, ?_⟩) (by assumption) ?_
                    rotate_left
                    · intro wq hSw; (try dsimp only at hSw); go_simp; (try with_reducible rfl)
                    try simp only [Act.put, List.setIfInBounds_toArray, List.set_cons_zero, List.set_cons_succ]
                    refine wpAnyH_ready (rs := [13]) (by kernel_rfl) (by simp) ?_
                    refine AllReadyH.cons (o := { dst := some 63, op := Go.Op.call { callee := Go.Callee.value (Go.Operand.func 11), args := #[Go.Operand.tmp 61, Go.Operand.tmp 62], argTypes := #[24, 24] }, type := 3, pos := "law.go:117", after := #[{ on := 11, ground := Go.Ground.data }, { on := 12, ground := Go.Ground.data }, { on := 6, ground := Go.Ground.chain }, { on := 6, ground := Go.Ground.guard }], guard := some (6, true) }) rfl (fun K hK => ?_) ?_
                    rotate_left
                    · exact AllReadyH.nil
                    go_simp
                    refine (refCmp_is f x _ _ HF.out HX.out HC1.out).mono ?_
                    rintro e w29 ⟨rfl, hb29⟩
                    have hw29 : Below w.heap.size w w29 := stepH (by (repeat' (first | with_reducible exact Below.refl _ _ | with_reducible assumption | with_reducible refine Below.drew ?_ | with_reducible refine below_drewN ?_ _ | with_reducible refine Below.setCell ?_ ?_ _ | with_reducible refine Below.alloc ?_ ?_ _ | omega | (simp; done) | (simp; omega)))) hb29
                    replace X := keepH hb29 X.out
                    replace Z := keepH hb29 Z.out
                    replace k0 : w29.cell? ⟨g, off + k * 4, none⟩ = some (.int .i64 f.num) := cellOf hb29 k0
                    replace k1 : w29.cell? ⟨g, off + k * 4 + 1, none⟩ = some (.int .i64 f.den) := cellOf hb29 k1
                    replace x0 : w29.cell? ⟨w.heap.size, 0, none⟩ = some (.int .i64 x.num) := cellOf hb29 x0
                    replace x1 : w29.cell? ⟨w.heap.size, 1, none⟩ = some (.int .i64 x.den) := cellOf hb29 x1
                    replace u0 : w29.cell? ⟨w.heap.size + 1, 0, none⟩ = some (.int .i64 z.num) := cellOf hb29 u0
                    replace u1 : w29.cell? ⟨w.heap.size + 1, 1, none⟩ = some (.int .i64 z.den) := cellOf hb29 u1
                    go_wp2_with fail
                    refine hK.out _ _ ?_ (fun hH2 => ?_)
                    · (try dsimp only); exact ⟨k0, k1, x0, x1, u0, u1⟩
                    clear hK K
                    clear hH1
                    try simp only [Act.put, List.setIfInBounds_toArray, List.set_cons_zero, List.set_cons_succ]
                    refine wpAnyH_take (i := 14) (oi := { dst := some 64, op := Go.Op.binOp Go.BinOp.gtr 3 (Go.Operand.tmp 63) (Go.Operand.const (Go.Value.int Go.IntKind.i64 0)) 3, type := 4, pos := "law.go:117", after := #[{ on := 13, ground := Go.Ground.data }, { on := 6, ground := Go.Ground.guard }], guard := some (6, true) }) (v := ?_) rfl (by kernel_rfl) (by kernel_rfl) (by kernel_rfl) (fun _ _ _ h => h) (Or.inl ⟨by rfl, ?_⟩) (by assumption) ?_
                    rotate_left
                    · intro wq hSw; (try dsimp only at hSw); go_simp; (try with_reducible rfl)
                    try simp only [Act.put, List.setIfInBounds_toArray, List.set_cons_zero, List.set_cons_succ]
                    refine wpAnyH_take (i := 15) (oi := { dst := some 65, op := Go.Op.pick (Go.Operand.tmp 56) (Go.Operand.tmp 64) (Go.Operand.const (Go.Value.bool false)), type := 4, pos := "law.go:117", after := #[{ on := 6, ground := Go.Ground.data }, { on := 14, ground := Go.Ground.data }], guard := none }) (v := ?_) rfl (by kernel_rfl) (by kernel_rfl) (by kernel_rfl) (fun _ _ _ h => h) (Or.inl ⟨by rfl, ?_⟩) (by assumption) ?_
                    rotate_left
                    · intro wq hSw; (try dsimp only at hSw); go_simp; (try with_reducible rfl)
                    try simp only [Act.put, List.setIfInBounds_toArray, List.set_cons_zero, List.set_cons_succ]
                    refine wpAnyH_take (i := 16) (oi := { dst := some 66, op := Go.Op.move (Go.Operand.tmp 65), type := 4, pos := "law.go:117", after := #[{ on := 15, ground := Go.Ground.data }, { on := 13, ground := Go.Ground.chain }], guard := none }) (v := ?_) rfl (by kernel_rfl) (by kernel_rfl) (by kernel_rfl) (fun _ _ _ h => h) (Or.inl ⟨by rfl, ?_⟩) (by assumption) ?_
                    rotate_left
                    · intro wq hSw; (try dsimp only at hSw); go_simp; (try with_reducible rfl)
                    try simp only [Act.put, List.setIfInBounds_toArray, List.set_cons_zero, List.set_cons_succ]
                    refine wpAnyH_take (i := 17) (oi := { dst := some 67, op := Go.Op.move (Go.Operand.tmp 0), type := 22, pos := "law.go:117", after := #[{ on := 16, ground := Go.Ground.guard }], guard := some (16, true) }) (v := undef) rfl (by kernel_rfl) (by kernel_rfl) (by kernel_rfl) (fun _ _ _ h => h) (Or.inr ⟨by rfl, rfl⟩) (by assumption) ?_
                    try simp only [Act.put, List.setIfInBounds_toArray, List.set_cons_zero, List.set_cons_succ]
                    refine wpAnyH_take (i := 18) (oi := { dst := some 68, op := Go.Op.move (Go.Operand.tmp 8), type := 3, pos := "law.go:117", after := #[{ on := 16, ground := Go.Ground.guard }], guard := some (16, true) }) (v := undef) rfl (by kernel_rfl) (by kernel_rfl) (by kernel_rfl) (fun _ _ _ h => h) (Or.inr ⟨by rfl, rfl⟩) (by assumption) ?_
                    try simp only [Act.put, List.setIfInBounds_toArray, List.set_cons_zero, List.set_cons_succ]
                    refine wpAnyH_take (i := 19) (oi := { dst := some 69, op := Go.Op.indexAddr 22 (Go.Operand.tmp 67) (Go.Operand.tmp 68), type := 0, pos := "law.go:117", after := #[{ on := 17, ground := Go.Ground.data }, { on := 18, ground := Go.Ground.data }, { on := 16, ground := Go.Ground.guard }], guard := some (16, true) }) (v := undef) rfl (by kernel_rfl) (by kernel_rfl) (by kernel_rfl) (fun _ _ _ h => h) (Or.inr ⟨by rfl, rfl⟩) (by assumption) ?_
                    try simp only [Act.put, List.setIfInBounds_toArray, List.set_cons_zero, List.set_cons_succ]
                    refine wpAnyH_take (i := 20) (oi := { dst := some 70, op := Go.Op.fieldAddr 29 (Go.Operand.tmp 69) 0, type := 0, pos := "law.go:117", after := #[{ on := 19, ground := Go.Ground.data }, { on := 16, ground := Go.Ground.guard }], guard := some (16, true) }) (v := undef) rfl (by kernel_rfl) (by kernel_rfl) (by kernel_rfl) (fun _ _ _ h => h) (Or.inr ⟨by rfl, rfl⟩) (by assumption) ?_
                    try simp only [Act.put, List.setIfInBounds_toArray, List.set_cons_zero, List.set_cons_succ]
                    refine wpAnyH_take (i := 21) (oi := { dst := some 71, op := Go.Op.load 24 (Go.Operand.tmp 70), type := 24, pos := "law.go:117", after := #[{ on := 20, ground := Go.Ground.data }, { on := 16, ground := Go.Ground.guard }], guard := some (16, true) }) (v := undef) rfl (by kernel_rfl) (by kernel_rfl) (by kernel_rfl) (fun _ _ _ h => h) (Or.inr ⟨by rfl, rfl⟩) (by assumption) ?_
                    try simp only [Act.put, List.setIfInBounds_toArray, List.set_cons_zero, List.set_cons_succ]
                    refine wpAnyH_take (i := 22) (oi := { dst := some 72, op := Go.Op.load 24 (Go.Operand.tmp 5), type := 24, pos := "law.go:117", after := #[{ on := 16, ground := Go.Ground.guard }], guard := some (16, true) }) (v := undef) rfl (by kernel_rfl) (by kernel_rfl) (by kernel_rfl) (fun _ _ _ h => h) (Or.inr ⟨by rfl, rfl⟩) (by assumption) ?_
                    try simp only [Act.put, List.setIfInBounds_toArray, List.set_cons_zero, List.set_cons_succ]
                    refine wpAnyH_take (i := 23) (oi := { dst := some 73, op := Go.Op.call { callee := Go.Callee.value (Go.Operand.func 11), args := #[Go.Operand.tmp 71, Go.Operand.tmp 72], argTypes := #[24, 24] }, type := 3, pos := "law.go:117", after := #[{ on := 21, ground := Go.Ground.data }, { on := 22, ground := Go.Ground.data }, { on := 16, ground := Go.Ground.chain }, { on := 16, ground := Go.Ground.guard }], guard := some (16, true) }) (v := undef) rfl (by kernel_rfl) (by kernel_rfl) (by kernel_rfl) (fun _ _ _ h => h) (Or.inr ⟨by rfl, rfl⟩) (by assumption) ?_
                    try simp only [Act.put, List.setIfInBounds_toArray, List.set_cons_zero, List.set_cons_succ]
                    refine wpAnyH_take (i := 24) (oi := { dst := some 74, op := Go.Op.binOp Go.BinOp.lss 3 (Go.Operand.tmp 73) (Go.Operand.const (Go.Value.int Go.IntKind.i64 0)) 3, type := 4, pos := "law.go:117", after := #[{ on := 23, ground := Go.Ground.data }, { on := 16, ground := Go.Ground.guard }], guard := some (16, true) }) (v := undef) rfl (by kernel_rfl) (by kernel_rfl) (by kernel_rfl) (fun _ _ _ h => h) (Or.inr ⟨by rfl, rfl⟩) (by assumption) ?_
                    try simp only [Act.put, List.setIfInBounds_toArray, List.set_cons_zero, List.set_cons_succ]
                    refine wpAnyH_take (i := 25) (oi := { dst := some 75, op := Go.Op.pick (Go.Operand.tmp 66) (Go.Operand.tmp 74) (Go.Operand.const (Go.Value.bool false)), type := 4, pos := "law.go:117", after := #[{ on := 16, ground := Go.Ground.data }, { on := 24, ground := Go.Ground.data }], guard := none }) (v := ?_) rfl (by kernel_rfl) (by kernel_rfl) (by kernel_rfl) (fun _ _ _ h => h) (Or.inl ⟨by rfl, ?_⟩) (by assumption) ?_
                    rotate_left
                    · intro wq hSw; (try dsimp only at hSw); go_simp; (try with_reducible rfl)
                    try simp only [Act.put, List.setIfInBounds_toArray, List.set_cons_zero, List.set_cons_succ]
                    refine wpAnyH_done (by kernel_rfl) ?_ _
                    clear x0 x1 u0 u1
                    go_wp2_with fail
                    go_roundw
                    case rel => exact ⟨k + 1, by omega, by go_num, hq2, X, Z, by (repeat' (first | with_reducible exact Below.refl _ _ | with_reducible assumption | with_reducible refine Below.drew ?_ | with_reducible refine below_drewN ?_ _ | with_reducible refine Below.setCell ?_ ?_ _ | with_reducible refine Below.alloc ?_ ?_ _ | omega | (simp; done) | (simp; omega)))⟩
                    case measure => simp [intOf]; omega
            · obtain rfl : k = s.length := by omega
              have HQ : Hid (∀ q ∈ s, validB q.1 q.2.1 = true → ¬ (x < frm q ∧ frm q < z)) := by have h := hq.out; rw [List.take_length] at h; exact h
              clear hq hlt
              as_aux_lemma =>
                cases ha : atI s x.num x.den
                · rename_i g1
                  have HA := Lib.hid ha
                  clear ha
                  have hen := fun w => eql_nil (E g1) w
                  have cX := cellH X
                  obtain ⟨lX, lX1, lX2⟩ := ltH X
                  have cZ := cellH Z
                  obtain ⟨lZ, lZ1, lZ2⟩ := ltH Z
                  go_wp2_with fail
                  refine (HAT.out x.num x.den _ (by (repeat' (first | with_reducible exact Below.refl _ _ | with_reducible assumption | with_reducible refine Below.drew ?_ | with_reducible refine below_drewN ?_ _ | with_reducible refine Below.setCell ?_ ?_ _ | with_reducible refine Below.alloc ?_ ?_ _ | omega | (simp; done) | (simp; omega)))) ⟨xb1, xb2⟩ ⟨xb3, xb4⟩).mono ?_
                  rintro e w61 ⟨⟨n', d', err, rfl, hr⟩, hb61⟩
                  have hw61 : Below w.heap.size w w61 := stepH (by (repeat' (first | with_reducible exact Below.refl _ _ | with_reducible assumption | with_reducible refine Below.drew ?_ | with_reducible refine below_drewN ?_ _ | with_reducible refine Below.setCell ?_ ?_ _ | with_reducible refine Below.alloc ?_ ?_ _ | omega | (simp; done) | (simp; omega)))) hb61
                  rw [HA.out] at hr
                  obtain ⟨rfl, rfl, rfl⟩ := hr
                  replace X := keepH hb61 X.out
                  replace Z := keepH hb61 Z.out
                  have z61 := hw61.size
                  clear hb61 hw0 z0
                  clear cX lX lX1 lX2 cZ lZ lZ1 lZ2
                  have cX := cellH X
                  obtain ⟨lX, lX1, lX2⟩ := ltH X
                  have cZ := cellH Z
                  obtain ⟨lZ, lZ1, lZ2⟩ := ltH Z
                  go_wp2_with fail
                  refine (HAT.out z.num z.den _ (by (repeat' (first | with_reducible exact Below.refl _ _ | with_reducible assumption | with_reducible refine Below.drew ?_ | with_reducible refine below_drewN ?_ _ | with_reducible refine Below.setCell ?_ ?_ _ | with_reducible refine Below.alloc ?_ ?_ _ | omega | (simp; done) | (simp; omega)))) ⟨zb1, zb2⟩ ⟨zb3, zb4⟩).mono ?_
                  rintro e w62 ⟨⟨n', d', err, rfl, hr⟩, hb62⟩
                  have hw62 : Below w.heap.size w w62 := stepH (by (repeat' (first | with_reducible exact Below.refl _ _ | with_reducible assumption | with_reducible refine Below.drew ?_ | with_reducible refine below_drewN ?_ _ | with_reducible refine Below.setCell ?_ ?_ _ | with_reducible refine Below.alloc ?_ ?_ _ | omega | (simp; done) | (simp; omega)))) hb62
                  replace X := keepH hb62 (blk_old X.out)
                  replace Z := keepH hb62 (blk_old Z.out)
                  have Aa := keepH hb62 (g := w61.heap.size) (blk_new rfl)
                  have z62 := hw62.size
                  clear hb62 hw61 z61
                  clear cX lX lX1 lX2 cZ lZ lZ1 lZ2
                  have cX := cellH X
                  obtain ⟨lX, lX1, lX2⟩ := ltH X
                  have cZ := cellH Z
                  obtain ⟨lZ, lZ1, lZ2⟩ := ltH Z
                  have cAa := cellH Aa
                  obtain ⟨lAa, lAa1, lAa2⟩ := ltH Aa
                  clear hr
                  go_wp2_with fail
                  refine (HRA.out z.num z.den _ (by (repeat' (first | with_reducible exact Below.refl _ _ | with_reducible assumption | with_reducible refine Below.drew ?_ | with_reducible refine below_drewN ?_ _ | with_reducible refine Below.setCell ?_ ?_ _ | with_reducible refine Below.alloc ?_ ?_ _ | omega | (simp; done) | (simp; omega)))) ⟨zb1, zb2⟩ ⟨zb3, zb4⟩).mono ?_
                  rintro e w63 ⟨⟨n2', d2', err2, rfl, hr⟩, hb63⟩
                  have hw63 : Below w.heap.size w w63 := stepH (by (repeat' (first | with_reducible exact Below.refl _ _ | with_reducible assumption | with_reducible refine Below.drew ?_ | with_reducible refine below_drewN ?_ _ | with_reducible refine Below.setCell ?_ ?_ _ | with_reducible refine Below.alloc ?_ ?_ _ | omega | (simp; done) | (simp; omega)))) hb63
                  replace X := keepH hb63 (blk_old X.out)
                  replace Z := keepH hb63 (blk_old Z.out)
                  replace Aa := keepH hb63 (blk_old Aa.out)
                  have Ab := keepH hb63 (g := w62.heap.size) (blk_new rfl)
                  have z63 := hw63.size
                  clear hb63 hw62 z62
                  clear cX lX lX1 lX2 cZ lZ lZ1 lZ2 cAa lAa lAa1 lAa2
                  have cX := cellH X
                  obtain ⟨lX, lX1, lX2⟩ := ltH X
                  have cZ := cellH Z
                  obtain ⟨lZ, lZ1, lZ2⟩ := ltH Z
                  have cAa := cellH Aa
                  obtain ⟨lAa, lAa1, lAa2⟩ := ltH Aa
                  have cAb := cellH Ab
                  obtain ⟨lAb, lAb1, lAb2⟩ := ltH Ab
                  go_wp2_with fail
                  go_ret
                  exact ⟨rfl, by (repeat' (first | with_reducible exact Below.refl _ _ | with_reducible assumption | with_reducible refine Below.drew ?_ | with_reducible refine below_drewN ?_ _ | with_reducible refine Below.setCell ?_ ?_ _ | with_reducible refine Below.alloc ?_ ?_ _ | omega | (simp; done) | (simp; omega)))⟩
                · rename_i a
                  have HA := Lib.hid ha
                  clear ha
                  cases hb : atI s z.num z.den
                  · rename_i g1
                    have HBB := Lib.hid hb
                    clear hb
                    have hen := fun w => eql_nil (E g1) w
                    have cX := cellH X
                    obtain ⟨lX, lX1, lX2⟩ := ltH X
                    have cZ := cellH Z
                    obtain ⟨lZ, lZ1, lZ2⟩ := ltH Z
                    go_wp2_with fail
                    refine (HAT.out x.num x.den _ (by (repeat' (first | with_reducible exact Below.refl _ _ | with_reducible assumption | with_reducible refine Below.drew ?_ | with_reducible refine below_drewN ?_ _ | with_reducible refine Below.setCell ?_ ?_ _ | with_reducible refine Below.alloc ?_ ?_ _ | omega | (simp; done) | (simp; omega)))) ⟨xb1, xb2⟩ ⟨xb3, xb4⟩).mono ?_
                    rintro e w64 ⟨⟨n', d', err, rfl, hr⟩, hb64⟩
                    have hw64 : Below w.heap.size w w64 := stepH (by (repeat' (first | with_reducible exact Below.refl _ _ | with_reducible assumption | with_reducible refine Below.drew ?_ | with_reducible refine below_drewN ?_ _ | with_reducible refine Below.setCell ?_ ?_ _ | with_reducible refine Below.alloc ?_ ?_ _ | omega | (simp; done) | (simp; omega)))) hb64
                    rw [HA.out] at hr
                    obtain ⟨rfl, rfl, rfl⟩ := hr
                    replace X := keepH hb64 X.out
                    replace Z := keepH hb64 Z.out
                    have z64 := hw64.size
                    clear hb64 hw0 z0
                    clear cX lX lX1 lX2 cZ lZ lZ1 lZ2
                    have cX := cellH X
                    obtain ⟨lX, lX1, lX2⟩ := ltH X
                    have cZ := cellH Z
                    obtain ⟨lZ, lZ1, lZ2⟩ := ltH Z
                    go_wp2_with fail
                    refine (HAT.out z.num z.den _ (by (repeat' (first | with_reducible exact Below.refl _ _ | with_reducible assumption | with_reducible refine Below.drew ?_ | with_reducible refine below_drewN ?_ _ | with_reducible refine Below.setCell ?_ ?_ _ | with_reducible refine Below.alloc ?_ ?_ _ | omega | (simp; done) | (simp; omega)))) ⟨zb1, zb2⟩ ⟨zb3, zb4⟩).mono ?_
                    rintro e w65 ⟨⟨n', d', err, rfl, hr⟩, hb65⟩
                    have hw65 : Below w.heap.size w w65 := stepH (by (repeat' (first | with_reducible exact Below.refl _ _ | with_reducible assumption | with_reducible refine Below.drew ?_ | with_reducible refine below_drewN ?_ _ | with_reducible refine Below.setCell ?_ ?_ _ | with_reducible refine Below.alloc ?_ ?_ _ | omega | (simp; done) | (simp; omega)))) hb65
                    rw [HBB.out] at hr
                    obtain ⟨rfl, rfl, rfl⟩ := hr
                    replace X := keepH hb65 (blk_old X.out)
                    replace Z := keepH hb65 (blk_old Z.out)
                    have Aa := keepH hb65 (g := w64.heap.size) (blk_new rfl)
                    have z65 := hw65.size
                    clear hb65 hw64 z64
                    clear cX lX lX1 lX2 cZ lZ lZ1 lZ2
                    have cX := cellH X
                    obtain ⟨lX, lX1, lX2⟩ := ltH X
                    have cZ := cellH Z
                    obtain ⟨lZ, lZ1, lZ2⟩ := ltH Z
                    have cAa := cellH Aa
                    obtain ⟨lAa, lAa1, lAa2⟩ := ltH Aa
                    go_wp2_with fail
                    refine (HRA.out z.num z.den _ (by (repeat' (first | with_reducible exact Below.refl _ _ | with_reducible assumption | with_reducible refine Below.drew ?_ | with_reducible refine below_drewN ?_ _ | with_reducible refine Below.setCell ?_ ?_ _ | with_reducible refine Below.alloc ?_ ?_ _ | omega | (simp; done) | (simp; omega)))) ⟨zb1, zb2⟩ ⟨zb3, zb4⟩).mono ?_
                    rintro e w66 ⟨⟨n', d', err, rfl, hr⟩, hb66⟩
                    have hw66 : Below w.heap.size w w66 := stepH (by (repeat' (first | with_reducible exact Below.refl _ _ | with_reducible assumption | with_reducible refine Below.drew ?_ | with_reducible refine below_drewN ?_ _ | with_reducible refine Below.setCell ?_ ?_ _ | with_reducible refine Below.alloc ?_ ?_ _ | omega | (simp; done) | (simp; omega)))) hb66
                    replace X := keepH hb66 (blk_old X.out)
                    replace Z := keepH hb66 (blk_old Z.out)
                    replace Aa := keepH hb66 (blk_old Aa.out)
                    have Ab := keepH hb66 (g := w65.heap.size) (blk_new rfl)
                    have z66 := hw66.size
                    clear hb66 hw65 z65
                    clear cX lX lX1 lX2 cZ lZ lZ1 lZ2 cAa lAa lAa1 lAa2
                    have cX := cellH X
                    obtain ⟨lX, lX1, lX2⟩ := ltH X
                    have cZ := cellH Z
                    obtain ⟨lZ, lZ1, lZ2⟩ := ltH Z
                    have cAa := cellH Aa
                    obtain ⟨lAa, lAa1, lAa2⟩ := ltH Aa
                    have cAb := cellH Ab
                    obtain ⟨lAb, lAb1, lAb2⟩ := ltH Ab
                    go_wp2_with fail
                    go_ret
                    exact ⟨rfl, by (repeat' (first | with_reducible exact Below.refl _ _ | with_reducible assumption | with_reducible refine Below.drew ?_ | with_reducible refine below_drewN ?_ _ | with_reducible refine Below.setCell ?_ ?_ _ | with_reducible refine Below.alloc ?_ ?_ _ | omega | (simp; done) | (simp; omega)))⟩
                  · rename_i b
                    have HBB := Lib.hid hb
                    clear hb
                    cases hr9 : rateI s z.num z.den
                    · rename_i g1
                      have HRR := Lib.hid hr9
                      clear hr9
                      have hen := fun w => eql_nil (E g1) w
                      have cX := cellH X
                      obtain ⟨lX, lX1, lX2⟩ := ltH X
                      have cZ := cellH Z
                      obtain ⟨lZ, lZ1, lZ2⟩ := ltH Z
                      go_wp2_with fail
                      refine (HAT.out x.num x.den _ (by (repeat' (first | with_reducible exact Below.refl _ _ | with_reducible assumption | with_reducible refine Below.drew ?_ | with_reducible refine below_drewN ?_ _ | with_reducible refine Below.setCell ?_ ?_ _ | with_reducible refine Below.alloc ?_ ?_ _ | omega | (simp; done) | (simp; omega)))) ⟨xb1, xb2⟩ ⟨xb3, xb4⟩).mono ?_
                      rintro e w67 ⟨⟨n', d', err, rfl, hr⟩, hb67⟩
                      have hw67 : Below w.heap.size w w67 := stepH (by (repeat' (first | with_reducible exact Below.refl _ _ | with_reducible assumption | with_reducible refine Below.drew ?_ | with_reducible refine below_drewN ?_ _ | with_reducible refine Below.setCell ?_ ?_ _ | with_reducible refine Below.alloc ?_ ?_ _ | omega | (simp; done) | (simp; omega)))) hb67
                      rw [HA.out] at hr
                      obtain ⟨rfl, rfl, rfl⟩ := hr
                      replace X := keepH hb67 X.out
                      replace Z := keepH hb67 Z.out
                      have z67 := hw67.size
                      clear hb67 hw0 z0
                      clear cX lX lX1 lX2 cZ lZ lZ1 lZ2
                      have cX := cellH X
                      obtain ⟨lX, lX1, lX2⟩ := ltH X
                      have cZ := cellH Z
                      obtain ⟨lZ, lZ1, lZ2⟩ := ltH Z
                      go_wp2_with fail
                      refine (HAT.out z.num z.den _ (by (repeat' (first | with_reducible exact Below.refl _ _ | with_reducible assumption | with_reducible refine Below.drew ?_ | with_reducible refine below_drewN ?_ _ | with_reducible refine Below.setCell ?_ ?_ _ | with_reducible refine Below.alloc ?_ ?_ _ | omega | (simp; done) | (simp; omega)))) ⟨zb1, zb2⟩ ⟨zb3, zb4⟩).mono ?_
                      rintro e w68 ⟨⟨n', d', err, rfl, hr⟩, hb68⟩
                      have hw68 : Below w.heap.size w w68 := stepH (by (repeat' (first | with_reducible exact Below.refl _ _ | with_reducible assumption | with_reducible refine Below.drew ?_ | with_reducible refine below_drewN ?_ _ | with_reducible refine Below.setCell ?_ ?_ _ | with_reducible refine Below.alloc ?_ ?_ _ | omega | (simp; done) | (simp; omega)))) hb68
                      rw [HBB.out] at hr
                      obtain ⟨rfl, rfl, rfl⟩ := hr
                      replace X := keepH hb68 (blk_old X.out)
                      replace Z := keepH hb68 (blk_old Z.out)
                      have Aa := keepH hb68 (g := w67.heap.size) (blk_new rfl)
                      have z68 := hw68.size
                      clear hb68 hw67 z67
                      clear cX lX lX1 lX2 cZ lZ lZ1 lZ2
                      have cX := cellH X
                      obtain ⟨lX, lX1, lX2⟩ := ltH X
                      have cZ := cellH Z
                      obtain ⟨lZ, lZ1, lZ2⟩ := ltH Z
                      have cAa := cellH Aa
                      obtain ⟨lAa, lAa1, lAa2⟩ := ltH Aa
                      go_wp2_with fail
                      refine (HRA.out z.num z.den _ (by (repeat' (first | with_reducible exact Below.refl _ _ | with_reducible assumption | with_reducible refine Below.drew ?_ | with_reducible refine below_drewN ?_ _ | with_reducible refine Below.setCell ?_ ?_ _ | with_reducible refine Below.alloc ?_ ?_ _ | omega | (simp; done) | (simp; omega)))) ⟨zb1, zb2⟩ ⟨zb3, zb4⟩).mono ?_
                      rintro e w69 ⟨⟨n', d', err, rfl, hr⟩, hb69⟩
                      have hw69 : Below w.heap.size w w69 := stepH (by (repeat' (first | with_reducible exact Below.refl _ _ | with_reducible assumption | with_reducible refine Below.drew ?_ | with_reducible refine below_drewN ?_ _ | with_reducible refine Below.setCell ?_ ?_ _ | with_reducible refine Below.alloc ?_ ?_ _ | omega | (simp; done) | (simp; omega)))) hb69
                      rw [HRR.out] at hr
                      obtain ⟨rfl, rfl, rfl⟩ := hr
                      replace X := keepH hb69 (blk_old X.out)
                      replace Z := keepH hb69 (blk_old Z.out)
                      replace Aa := keepH hb69 (blk_old Aa.out)
                      have Ab := keepH hb69 (g := w68.heap.size) (blk_new rfl)
                      have z69 := hw69.size
                      clear hb69 hw68 z68
                      clear cX lX lX1 lX2 cZ lZ lZ1 lZ2 cAa lAa lAa1 lAa2
                      have cX := cellH X
                      obtain ⟨lX, lX1, lX2⟩ := ltH X
                      have cZ := cellH Z
                      obtain ⟨lZ, lZ1, lZ2⟩ := ltH Z
                      have cAa := cellH Aa
                      obtain ⟨lAa, lAa1, lAa2⟩ := ltH Aa
                      have cAb := cellH Ab
                      obtain ⟨lAb, lAb1, lAb2⟩ := ltH Ab
                      go_wp2_with fail
                      go_ret
                      exact ⟨rfl, by (repeat' (first | with_reducible exact Below.refl _ _ | with_reducible assumption | with_reducible refine Below.drew ?_ | with_reducible refine below_drewN ?_ _ | with_reducible refine Below.setCell ?_ ?_ _ | with_reducible refine Below.alloc ?_ ?_ _ | omega | (simp; done) | (simp; omega)))⟩
                    · rename_i r
                      have HRR := Lib.hid hr9
                      clear hr9
                      obtain ⟨ga, gb, gr, hlaw⟩ := straight_law HA.out HBB.out HRR.out HXZ.out HQ.out
                      have KA := Lib.hid ga
                      have KR := Lib.hid gr
                      have HLAW := Lib.hid hlaw
                      clear ga gb gr hlaw
                      by_cases g1 : Good (z - x)
                      · have G1 := Lib.hid g1
                        by_cases g2 : Good (r * (z - x))
                        · have G2 := Lib.hid g2
                          by_cases g3 : Good (a + r * (z - x))
                          · have G3 := Lib.hid g3
                            clear g1 g2 g3
                            have cX := cellH X
                            obtain ⟨lX, lX1, lX2⟩ := ltH X
                            have cZ := cellH Z
                            obtain ⟨lZ, lZ1, lZ2⟩ := ltH Z
                            go_wp2_with fail
                            refine (HAT.out x.num x.den _ (by (repeat' (first | with_reducible exact Below.refl _ _ | with_reducible assumption | with_reducible refine Below.drew ?_ | with_reducible refine below_drewN ?_ _ | with_reducible refine Below.setCell ?_ ?_ _ | with_reducible refine Below.alloc ?_ ?_ _ | omega | (simp; done) | (simp; omega)))) ⟨xb1, xb2⟩ ⟨xb3, xb4⟩).mono ?_
                            rintro e w70 ⟨⟨n', d', err, rfl, hr⟩, hb70⟩
                            have hw70 : Below w.heap.size w w70 := stepH (by (repeat' (first | with_reducible exact Below.refl _ _ | with_reducible assumption | with_reducible refine Below.drew ?_ | with_reducible refine below_drewN ?_ _ | with_reducible refine Below.setCell ?_ ?_ _ | with_reducible refine Below.alloc ?_ ?_ _ | omega | (simp; done) | (simp; omega)))) hb70
                            rw [HA.out] at hr
                            obtain ⟨rfl, rfl, rfl⟩ := hr
                            replace X := keepH hb70 X.out
                            replace Z := keepH hb70 Z.out
                            have z70 := hw70.size
                            clear hb70 hw0 z0
                            clear cX lX lX1 lX2 cZ lZ lZ1 lZ2
                            have cX := cellH X
                            obtain ⟨lX, lX1, lX2⟩ := ltH X
                            have cZ := cellH Z
                            obtain ⟨lZ, lZ1, lZ2⟩ := ltH Z
                            go_wp2_with fail
                            refine (HAT.out z.num z.den _ (by (repeat' (first | with_reducible exact Below.refl _ _ | with_reducible assumption | with_reducible refine Below.drew ?_ | with_reducible refine below_drewN ?_ _ | with_reducible refine Below.setCell ?_ ?_ _ | with_reducible refine Below.alloc ?_ ?_ _ | omega | (simp; done) | (simp; omega)))) ⟨zb1, zb2⟩ ⟨zb3, zb4⟩).mono ?_
                            rintro e w71 ⟨⟨n', d', err, rfl, hr⟩, hb71⟩
                            have hw71 : Below w.heap.size w w71 := stepH (by (repeat' (first | with_reducible exact Below.refl _ _ | with_reducible assumption | with_reducible refine Below.drew ?_ | with_reducible refine below_drewN ?_ _ | with_reducible refine Below.setCell ?_ ?_ _ | with_reducible refine Below.alloc ?_ ?_ _ | omega | (simp; done) | (simp; omega)))) hb71
                            rw [HBB.out] at hr
                            obtain ⟨rfl, rfl, rfl⟩ := hr
                            replace X := keepH hb71 (blk_old X.out)
                            replace Z := keepH hb71 (blk_old Z.out)
                            have Aa := keepH hb71 (g := w70.heap.size) (blk_new rfl)
                            have z71 := hw71.size
                            clear hb71 hw70 z70
                            clear cX lX lX1 lX2 cZ lZ lZ1 lZ2
                            have cX := cellH X
                            obtain ⟨lX, lX1, lX2⟩ := ltH X
                            have cZ := cellH Z
                            obtain ⟨lZ, lZ1, lZ2⟩ := ltH Z
                            have cAa := cellH Aa
                            obtain ⟨lAa, lAa1, lAa2⟩ := ltH Aa
                            go_wp2_with fail
                            refine (HRA.out z.num z.den _ (by (repeat' (first | with_reducible exact Below.refl _ _ | with_reducible assumption | with_reducible refine Below.drew ?_ | with_reducible refine below_drewN ?_ _ | with_reducible refine Below.setCell ?_ ?_ _ | with_reducible refine Below.alloc ?_ ?_ _ | omega | (simp; done) | (simp; omega)))) ⟨zb1, zb2⟩ ⟨zb3, zb4⟩).mono ?_
                            rintro e w72 ⟨⟨n', d', err, rfl, hr⟩, hb72⟩
                            have hw72 : Below w.heap.size w w72 := stepH (by (repeat' (first | with_reducible exact Below.refl _ _ | with_reducible assumption | with_reducible refine Below.drew ?_ | with_reducible refine below_drewN ?_ _ | with_reducible refine Below.setCell ?_ ?_ _ | with_reducible refine Below.alloc ?_ ?_ _ | omega | (simp; done) | (simp; omega)))) hb72
                            rw [HRR.out] at hr
                            obtain ⟨rfl, rfl, rfl⟩ := hr
                            replace X := keepH hb72 (blk_old X.out)
                            replace Z := keepH hb72 (blk_old Z.out)
                            replace Aa := keepH hb72 (blk_old Aa.out)
                            have Ab := keepH hb72 (g := w71.heap.size) (blk_new rfl)
                            have z72 := hw72.size
                            clear hb72 hw71 z71
                            clear cX lX lX1 lX2 cZ lZ lZ1 lZ2 cAa lAa lAa1 lAa2
                            have cX := cellH X
                            obtain ⟨lX, lX1, lX2⟩ := ltH X
                            have cZ := cellH Z
                            obtain ⟨lZ, lZ1, lZ2⟩ := ltH Z
                            have cAa := cellH Aa
                            obtain ⟨lAa, lAa1, lAa2⟩ := ltH Aa
                            have cAb := cellH Ab
                            obtain ⟨lAb, lAb1, lAb2⟩ := ltH Ab
                            go_wp2_with fail
                            refine (refSub_any z x _ HZ.out HX.out).mono ?_
                            rintro e w73 ⟨⟨n', d', c', rfl, hr⟩, hb73⟩
                            have hw73 : Below w.heap.size w w73 := stepH (by (repeat' (first | with_reducible exact Below.refl _ _ | with_reducible assumption | with_reducible refine Below.drew ?_ | with_reducible refine below_drewN ?_ _ | with_reducible refine Below.setCell ?_ ?_ _ | with_reducible refine Below.alloc ?_ ?_ _ | omega | (simp; done) | (simp; omega)))) hb73
                            obtain ⟨rfl, rfl, rfl⟩ := resC_ok hr (goodR_ok (decide_eq_true G1.out))
                            clear hr
                            replace X := keepH hb73 (blk_old X.out)
                            replace Z := keepH hb73 (blk_old Z.out)
                            replace Aa := keepH hb73 (blk_old Aa.out)
                            replace Ab := keepH hb73 (blk_old Ab.out)
                            have Rr := keepH hb73 (g := w72.heap.size) (blk_new rfl)
                            have z73 := hw73.size
                            clear hb73 hw72 z72
                            clear cX lX lX1 lX2 cZ lZ lZ1 lZ2 cAa lAa lAa1 lAa2 cAb lAb lAb1 lAb2
                            have cX := cellH X
                            obtain ⟨lX, lX1, lX2⟩ := ltH X
                            have cZ := cellH Z
                            obtain ⟨lZ, lZ1, lZ2⟩ := ltH Z
                            have cAa := cellH Aa
                            obtain ⟨lAa, lAa1, lAa2⟩ := ltH Aa
                            have cAb := cellH Ab
                            obtain ⟨lAb, lAb1, lAb2⟩ := ltH Ab
                            have cRr := cellH Rr
                            obtain ⟨lRr, lRr1, lRr2⟩ := ltH Rr
                            go_wp2_with fail
                            refine (refMul_any r (z - x) _ KR.out G1.out).mono ?_
                            rintro e w74 ⟨⟨n', d', c', rfl, hr⟩, hb74⟩
                            have hw74 : Below w.heap.size w w74 := stepH (by (repeat' (first | with_reducible exact Below.refl _ _ | with_reducible assumption | with_reducible refine Below.drew ?_ | with_reducible refine below_drewN ?_ _ | with_reducible refine Below.setCell ?_ ?_ _ | with_reducible refine Below.alloc ?_ ?_ _ | omega | (simp; done) | (simp; omega)))) hb74
                            obtain ⟨rfl, rfl, rfl⟩ := resC_ok hr (goodR_ok (decide_eq_true G2.out))
                            clear hr
                            replace X := keepH hb74 (blk_old X.out)
                            replace Z := keepH hb74 (blk_old Z.out)
                            replace Aa := keepH hb74 (blk_old Aa.out)
                            replace Ab := keepH hb74 (blk_old Ab.out)
                            replace Rr := keepH hb74 (blk_old Rr.out)
                            have Dd := keepH hb74 (g := w73.heap.size) (blk_new rfl)
                            have z74 := hw74.size
                            clear hb74 hw73 z73
                            clear cX lX lX1 lX2 cZ lZ lZ1 lZ2 cAa lAa lAa1 lAa2 cAb lAb lAb1 lAb2 cRr lRr lRr1 lRr2
                            have cX := cellH X
                            obtain ⟨lX, lX1, lX2⟩ := ltH X
                            have cZ := cellH Z
                            obtain ⟨lZ, lZ1, lZ2⟩ := ltH Z
                            have cAa := cellH Aa
                            obtain ⟨lAa, lAa1, lAa2⟩ := ltH Aa
                            have cAb := cellH Ab
                            obtain ⟨lAb, lAb1, lAb2⟩ := ltH Ab
                            have cRr := cellH Rr
                            obtain ⟨lRr, lRr1, lRr2⟩ := ltH Rr
                            have cDd := cellH Dd
                            obtain ⟨lDd, lDd1, lDd2⟩ := ltH Dd
                            go_wp2_with fail
                            refine (refAdd_any a (r * (z - x)) _ KA.out G2.out).mono ?_
                            rintro e w75 ⟨⟨n', d', c', rfl, hr⟩, hb75⟩
                            have hw75 : Below w.heap.size w w75 := stepH (by (repeat' (first | with_reducible exact Below.refl _ _ | with_reducible assumption | with_reducible refine Below.drew ?_ | with_reducible refine below_drewN ?_ _ | with_reducible refine Below.setCell ?_ ?_ _ | with_reducible refine Below.alloc ?_ ?_ _ | omega | (simp; done) | (simp; omega)))) hb75
                            obtain ⟨rfl, rfl, rfl⟩ := resC_ok hr (goodR_ok (decide_eq_true G3.out))
                            clear hr
                            replace X := keepH hb75 (blk_old X.out)
                            replace Z := keepH hb75 (blk_old Z.out)
                            replace Aa := keepH hb75 (blk_old Aa.out)
                            replace Ab := keepH hb75 (blk_old Ab.out)
                            replace Rr := keepH hb75 (blk_old Rr.out)
                            replace Dd := keepH hb75 (blk_old Dd.out)
                            have Mm := keepH hb75 (g := w74.heap.size) (blk_new rfl)
                            have z75 := hw75.size
                            clear hb75 hw74 z74
                            clear cX lX lX1 lX2 cZ lZ lZ1 lZ2 cAa lAa lAa1 lAa2 cAb lAb lAb1 lAb2 cRr lRr lRr1 lRr2 cDd lDd lDd1 lDd2
                            have cX := cellH X
                            obtain ⟨lX, lX1, lX2⟩ := ltH X
                            have cZ := cellH Z
                            obtain ⟨lZ, lZ1, lZ2⟩ := ltH Z
                            have cAa := cellH Aa
                            obtain ⟨lAa, lAa1, lAa2⟩ := ltH Aa
                            have cAb := cellH Ab
                            obtain ⟨lAb, lAb1, lAb2⟩ := ltH Ab
                            have cRr := cellH Rr
                            obtain ⟨lRr, lRr1, lRr2⟩ := ltH Rr
                            have cDd := cellH Dd
                            obtain ⟨lDd, lDd1, lDd2⟩ := ltH Dd
                            have cMm := cellH Mm
                            obtain ⟨lMm, lMm1, lMm2⟩ := ltH Mm
                            go_wp2_with fail
                            refine (same_q b (a + r * (z - x)) _ HLAW.out).mono ?_
                            rintro e w76 ⟨rfl, hb76⟩
                            have hw76 : Below w.heap.size w w76 := stepH (by (repeat' (first | with_reducible exact Below.refl _ _ | with_reducible assumption | with_reducible refine Below.drew ?_ | with_reducible refine below_drewN ?_ _ | with_reducible refine Below.setCell ?_ ?_ _ | with_reducible refine Below.alloc ?_ ?_ _ | omega | (simp; done) | (simp; omega)))) hb76
                            replace X := keepH hb76 (blk_old X.out)
                            replace Z := keepH hb76 (blk_old Z.out)
                            replace Aa := keepH hb76 (blk_old Aa.out)
                            replace Ab := keepH hb76 (blk_old Ab.out)
                            replace Rr := keepH hb76 (blk_old Rr.out)
                            replace Dd := keepH hb76 (blk_old Dd.out)
                            replace Mm := keepH hb76 (blk_old Mm.out)
                            have Cc := keepH hb76 (g := w75.heap.size) (blk_new rfl)
                            have z76 := hw76.size
                            clear hb76 hw75 z75
                            clear cX lX lX1 lX2 cZ lZ lZ1 lZ2 cAa lAa lAa1 lAa2 cAb lAb lAb1 lAb2 cRr lRr lRr1 lRr2 cDd lDd lDd1 lDd2 cMm lMm lMm1 lMm2
                            have cX := cellH X
                            obtain ⟨lX, lX1, lX2⟩ := ltH X
                            have cZ := cellH Z
                            obtain ⟨lZ, lZ1, lZ2⟩ := ltH Z
                            have cAa := cellH Aa
                            obtain ⟨lAa, lAa1, lAa2⟩ := ltH Aa
                            have cAb := cellH Ab
                            obtain ⟨lAb, lAb1, lAb2⟩ := ltH Ab
                            have cRr := cellH Rr
                            obtain ⟨lRr, lRr1, lRr2⟩ := ltH Rr
                            have cDd := cellH Dd
                            obtain ⟨lDd, lDd1, lDd2⟩ := ltH Dd
                            have cMm := cellH Mm
                            obtain ⟨lMm, lMm1, lMm2⟩ := ltH Mm
                            have cCc := cellH Cc
                            obtain ⟨lCc, lCc1, lCc2⟩ := ltH Cc
                            go_wp2_with fail
                            go_ret
                            exact ⟨rfl, by (repeat' (first | with_reducible exact Below.refl _ _ | with_reducible assumption | with_reducible refine Below.drew ?_ | with_reducible refine below_drewN ?_ _ | with_reducible refine Below.setCell ?_ ?_ _ | with_reducible refine Below.alloc ?_ ?_ _ | omega | (simp; done) | (simp; omega)))⟩
                          · have G3 := Lib.hid g3
                            clear g1 g2 g3
                            have cX := cellH X
                            obtain ⟨lX, lX1, lX2⟩ := ltH X
                            have cZ := cellH Z
                            obtain ⟨lZ, lZ1, lZ2⟩ := ltH Z
                            go_wp2_with fail
                            refine (HAT.out x.num x.den _ (by (repeat' (first | with_reducible exact Below.refl _ _ | with_reducible assumption | with_reducible refine Below.drew ?_ | with_reducible refine below_drewN ?_ _ | with_reducible refine Below.setCell ?_ ?_ _ | with_reducible refine Below.alloc ?_ ?_ _ | omega | (simp; done) | (simp; omega)))) ⟨xb1, xb2⟩ ⟨xb3, xb4⟩).mono ?_
                            rintro e w77 ⟨⟨n', d', err, rfl, hr⟩, hb77⟩
                            have hw77 : Below w.heap.size w w77 := stepH (by (repeat' (first | with_reducible exact Below.refl _ _ | with_reducible assumption | with_reducible refine Below.drew ?_ | with_reducible refine below_drewN ?_ _ | with_reducible refine Below.setCell ?_ ?_ _ | with_reducible refine Below.alloc ?_ ?_ _ | omega | (simp; done) | (simp; omega)))) hb77
                            rw [HA.out] at hr
                            obtain ⟨rfl, rfl, rfl⟩ := hr
                            replace X := keepH hb77 X.out
                            replace Z := keepH hb77 Z.out
                            have z77 := hw77.size
                            clear hb77 hw0 z0
                            clear cX lX lX1 lX2 cZ lZ lZ1 lZ2
                            have cX := cellH X
                            obtain ⟨lX, lX1, lX2⟩ := ltH X
                            have cZ := cellH Z
                            obtain ⟨lZ, lZ1, lZ2⟩ := ltH Z
                            go_wp2_with fail
                            refine (HAT.out z.num z.den _ (by (repeat' (first | with_reducible exact Below.refl _ _ | with_reducible assumption | with_reducible refine Below.drew ?_ | with_reducible refine below_drewN ?_ _ | with_reducible refine Below.setCell ?_ ?_ _ | with_reducible refine Below.alloc ?_ ?_ _ | omega | (simp; done) | (simp; omega)))) ⟨zb1, zb2⟩ ⟨zb3, zb4⟩).mono ?_
                            rintro e w78 ⟨⟨n', d', err, rfl, hr⟩, hb78⟩
                            have hw78 : Below w.heap.size w w78 := stepH (by (repeat' (first | with_reducible exact Below.refl _ _ | with_reducible assumption | with_reducible refine Below.drew ?_ | with_reducible refine below_drewN ?_ _ | with_reducible refine Below.setCell ?_ ?_ _ | with_reducible refine Below.alloc ?_ ?_ _ | omega | (simp; done) | (simp; omega)))) hb78
                            rw [HBB.out] at hr
                            obtain ⟨rfl, rfl, rfl⟩ := hr
                            replace X := keepH hb78 (blk_old X.out)
                            replace Z := keepH hb78 (blk_old Z.out)
                            have Aa := keepH hb78 (g := w77.heap.size) (blk_new rfl)
                            have z78 := hw78.size
                            clear hb78 hw77 z77
                            clear cX lX lX1 lX2 cZ lZ lZ1 lZ2
                            have cX := cellH X
                            obtain ⟨lX, lX1, lX2⟩ := ltH X
                            have cZ := cellH Z
                            obtain ⟨lZ, lZ1, lZ2⟩ := ltH Z
                            have cAa := cellH Aa
                            obtain ⟨lAa, lAa1, lAa2⟩ := ltH Aa
                            go_wp2_with fail
                            refine (HRA.out z.num z.den _ (by (repeat' (first | with_reducible exact Below.refl _ _ | with_reducible assumption | with_reducible refine Below.drew ?_ | with_reducible refine below_drewN ?_ _ | with_reducible refine Below.setCell ?_ ?_ _ | with_reducible refine Below.alloc ?_ ?_ _ | omega | (simp; done) | (simp; omega)))) ⟨zb1, zb2⟩ ⟨zb3, zb4⟩).mono ?_
                            rintro e w79 ⟨⟨n', d', err, rfl, hr⟩, hb79⟩
                            have hw79 : Below w.heap.size w w79 := stepH (by (repeat' (first | with_reducible exact Below.refl _ _ | with_reducible assumption | with_reducible refine Below.drew ?_ | with_reducible refine below_drewN ?_ _ | with_reducible refine Below.setCell ?_ ?_ _ | with_reducible refine Below.alloc ?_ ?_ _ | omega | (simp; done) | (simp; omega)))) hb79
                            rw [HRR.out] at hr
                            obtain ⟨rfl, rfl, rfl⟩ := hr
                            replace X := keepH hb79 (blk_old X.out)
                            replace Z := keepH hb79 (blk_old Z.out)
                            replace Aa := keepH hb79 (blk_old Aa.out)
                            have Ab := keepH hb79 (g := w78.heap.size) (blk_new rfl)
                            have z79 := hw79.size
                            clear hb79 hw78 z78
                            clear cX lX lX1 lX2 cZ lZ lZ1 lZ2 cAa lAa lAa1 lAa2
                            have cX := cellH X
                            obtain ⟨lX, lX1, lX2⟩ := ltH X
                            have cZ := cellH Z
                            obtain ⟨lZ, lZ1, lZ2⟩ := ltH Z
                            have cAa := cellH Aa
                            obtain ⟨lAa, lAa1, lAa2⟩ := ltH Aa
                            have cAb := cellH Ab
                            obtain ⟨lAb, lAb1, lAb2⟩ := ltH Ab
                            go_wp2_with fail
                            refine (refSub_any z x _ HZ.out HX.out).mono ?_
                            rintro e w80 ⟨⟨n', d', c', rfl, hr⟩, hb80⟩
                            have hw80 : Below w.heap.size w w80 := stepH (by (repeat' (first | with_reducible exact Below.refl _ _ | with_reducible assumption | with_reducible refine Below.drew ?_ | with_reducible refine below_drewN ?_ _ | with_reducible refine Below.setCell ?_ ?_ _ | with_reducible refine Below.alloc ?_ ?_ _ | omega | (simp; done) | (simp; omega)))) hb80
                            obtain ⟨rfl, rfl, rfl⟩ := resC_ok hr (goodR_ok (decide_eq_true G1.out))
                            clear hr
                            replace X := keepH hb80 (blk_old X.out)
                            replace Z := keepH hb80 (blk_old Z.out)
                            replace Aa := keepH hb80 (blk_old Aa.out)
                            replace Ab := keepH hb80 (blk_old Ab.out)
                            have Rr := keepH hb80 (g := w79.heap.size) (blk_new rfl)
                            have z80 := hw80.size
                            clear hb80 hw79 z79
                            clear cX lX lX1 lX2 cZ lZ lZ1 lZ2 cAa lAa lAa1 lAa2 cAb lAb lAb1 lAb2
                            have cX := cellH X
                            obtain ⟨lX, lX1, lX2⟩ := ltH X
                            have cZ := cellH Z
                            obtain ⟨lZ, lZ1, lZ2⟩ := ltH Z
                            have cAa := cellH Aa
                            obtain ⟨lAa, lAa1, lAa2⟩ := ltH Aa
                            have cAb := cellH Ab
                            obtain ⟨lAb, lAb1, lAb2⟩ := ltH Ab
                            have cRr := cellH Rr
                            obtain ⟨lRr, lRr1, lRr2⟩ := ltH Rr
                            go_wp2_with fail
                            refine (refMul_any r (z - x) _ KR.out G1.out).mono ?_
                            rintro e w81 ⟨⟨n', d', c', rfl, hr⟩, hb81⟩
                            have hw81 : Below w.heap.size w w81 := stepH (by (repeat' (first | with_reducible exact Below.refl _ _ | with_reducible assumption | with_reducible refine Below.drew ?_ | with_reducible refine below_drewN ?_ _ | with_reducible refine Below.setCell ?_ ?_ _ | with_reducible refine Below.alloc ?_ ?_ _ | omega | (simp; done) | (simp; omega)))) hb81
                            obtain ⟨rfl, rfl, rfl⟩ := resC_ok hr (goodR_ok (decide_eq_true G2.out))
                            clear hr
                            replace X := keepH hb81 (blk_old X.out)
                            replace Z := keepH hb81 (blk_old Z.out)
                            replace Aa := keepH hb81 (blk_old Aa.out)
                            replace Ab := keepH hb81 (blk_old Ab.out)
                            replace Rr := keepH hb81 (blk_old Rr.out)
                            have Dd := keepH hb81 (g := w80.heap.size) (blk_new rfl)
                            have z81 := hw81.size
                            clear hb81 hw80 z80
                            clear cX lX lX1 lX2 cZ lZ lZ1 lZ2 cAa lAa lAa1 lAa2 cAb lAb lAb1 lAb2 cRr lRr lRr1 lRr2
                            have cX := cellH X
                            obtain ⟨lX, lX1, lX2⟩ := ltH X
                            have cZ := cellH Z
                            obtain ⟨lZ, lZ1, lZ2⟩ := ltH Z
                            have cAa := cellH Aa
                            obtain ⟨lAa, lAa1, lAa2⟩ := ltH Aa
                            have cAb := cellH Ab
                            obtain ⟨lAb, lAb1, lAb2⟩ := ltH Ab
                            have cRr := cellH Rr
                            obtain ⟨lRr, lRr1, lRr2⟩ := ltH Rr
                            have cDd := cellH Dd
                            obtain ⟨lDd, lDd1, lDd2⟩ := ltH Dd
                            go_wp2_with fail
                            refine (refAdd_any a (r * (z - x)) _ KA.out G2.out).mono ?_
                            rintro e w82 ⟨⟨n', d', c', rfl, hr⟩, hb82⟩
                            have hw82 : Below w.heap.size w w82 := stepH (by (repeat' (first | with_reducible exact Below.refl _ _ | with_reducible assumption | with_reducible refine Below.drew ?_ | with_reducible refine below_drewN ?_ _ | with_reducible refine Below.setCell ?_ ?_ _ | with_reducible refine Below.alloc ?_ ?_ _ | omega | (simp; done) | (simp; omega)))) hb82
                            obtain ⟨rfl, rfl, hc3⟩ := resC_no hr (goodR_no (decide_eq_false G3.out))
                            clear hr
                            have hcn : (c' != 0) = true := by rcases hc3 with rfl | rfl | rfl <;> decide
                            clear hc3
                            replace X := keepH hb82 (blk_old X.out)
                            replace Z := keepH hb82 (blk_old Z.out)
                            replace Aa := keepH hb82 (blk_old Aa.out)
                            replace Ab := keepH hb82 (blk_old Ab.out)
                            replace Rr := keepH hb82 (blk_old Rr.out)
                            replace Dd := keepH hb82 (blk_old Dd.out)
                            have Mm := keepH hb82 (g := w81.heap.size) (blk_new rfl)
                            have z82 := hw82.size
                            clear hb82 hw81 z81
                            clear cX lX lX1 lX2 cZ lZ lZ1 lZ2 cAa lAa lAa1 lAa2 cAb lAb lAb1 lAb2 cRr lRr lRr1 lRr2 cDd lDd lDd1 lDd2
                            have cX := cellH X
                            obtain ⟨lX, lX1, lX2⟩ := ltH X
                            have cZ := cellH Z
                            obtain ⟨lZ, lZ1, lZ2⟩ := ltH Z
                            have cAa := cellH Aa
                            obtain ⟨lAa, lAa1, lAa2⟩ := ltH Aa
                            have cAb := cellH Ab
                            obtain ⟨lAb, lAb1, lAb2⟩ := ltH Ab
                            have cRr := cellH Rr
                            obtain ⟨lRr, lRr1, lRr2⟩ := ltH Rr
                            have cDd := cellH Dd
                            obtain ⟨lDd, lDd1, lDd2⟩ := ltH Dd
                            have cMm := cellH Mm
                            obtain ⟨lMm, lMm1, lMm2⟩ := ltH Mm
                            go_wp2_with fail
                            go_ret
                            exact ⟨rfl, by (repeat' (first | with_reducible exact Below.refl _ _ | with_reducible assumption | with_reducible refine Below.drew ?_ | with_reducible refine below_drewN ?_ _ | with_reducible refine Below.setCell ?_ ?_ _ | with_reducible refine Below.alloc ?_ ?_ _ | omega | (simp; done) | (simp; omega)))⟩
                        · have G2 := Lib.hid g2
                          clear g1 g2
                          have cX := cellH X
                          obtain ⟨lX, lX1, lX2⟩ := ltH X
                          have cZ := cellH Z
                          obtain ⟨lZ, lZ1, lZ2⟩ := ltH Z
                          go_wp2_with fail
                          refine (HAT.out x.num x.den _ (by (repeat' (first | with_reducible exact Below.refl _ _ | with_reducible assumption | with_reducible refine Below.drew ?_ | with_reducible refine below_drewN ?_ _ | with_reducible refine Below.setCell ?_ ?_ _ | with_reducible refine Below.alloc ?_ ?_ _ | omega | (simp; done) | (simp; omega)))) ⟨xb1, xb2⟩ ⟨xb3, xb4⟩).mono ?_
                          rintro e w83 ⟨⟨n', d', err, rfl, hr⟩, hb83⟩
                          have hw83 : Below w.heap.size w w83 := stepH (by (repeat' (first | with_reducible exact Below.refl _ _ | with_reducible assumption | with_reducible refine Below.drew ?_ | with_reducible refine below_drewN ?_ _ | with_reducible refine Below.setCell ?_ ?_ _ | with_reducible refine Below.alloc ?_ ?_ _ | omega | (simp; done) | (simp; omega)))) hb83
                          rw [HA.out] at hr
                          obtain ⟨rfl, rfl, rfl⟩ := hr
                          replace X := keepH hb83 X.out
                          replace Z := keepH hb83 Z.out
                          have z83 := hw83.size
                          clear hb83 hw0 z0
                          clear cX lX lX1 lX2 cZ lZ lZ1 lZ2
                          have cX := cellH X
                          obtain ⟨lX, lX1, lX2⟩ := ltH X
                          have cZ := cellH Z
                          obtain ⟨lZ, lZ1, lZ2⟩ := ltH Z
                          go_wp2_with fail
                          refine (HAT.out z.num z.den _ (by (repeat' (first | with_reducible exact Below.refl _ _ | with_reducible assumption | with_reducible refine Below.drew ?_ | with_reducible refine below_drewN ?_ _ | with_reducible refine Below.setCell ?_ ?_ _ | with_reducible refine Below.alloc ?_ ?_ _ | omega | (simp; done) | (simp; omega)))) ⟨zb1, zb2⟩ ⟨zb3, zb4⟩).mono ?_
                          rintro e w84 ⟨⟨n', d', err, rfl, hr⟩, hb84⟩
                          have hw84 : Below w.heap.size w w84 := stepH (by (repeat' (first | with_reducible exact Below.refl _ _ | with_reducible assumption | with_reducible refine Below.drew ?_ | with_reducible refine below_drewN ?_ _ | with_reducible refine Below.setCell ?_ ?_ _ | with_reducible refine Below.alloc ?_ ?_ _ | omega | (simp; done) | (simp; omega)))) hb84
                          rw [HBB.out] at hr
                          obtain ⟨rfl, rfl, rfl⟩ := hr
                          replace X := keepH hb84 (blk_old X.out)
                          replace Z := keepH hb84 (blk_old Z.out)
                          have Aa := keepH hb84 (g := w83.heap.size) (blk_new rfl)
                          have z84 := hw84.size
                          clear hb84 hw83 z83
                          clear cX lX lX1 lX2 cZ lZ lZ1 lZ2
                          have cX := cellH X
                          obtain ⟨lX, lX1, lX2⟩ := ltH X
                          have cZ := cellH Z
                          obtain ⟨lZ, lZ1, lZ2⟩ := ltH Z
                          have cAa := cellH Aa
                          obtain ⟨lAa, lAa1, lAa2⟩ := ltH Aa
                          go_wp2_with fail
                          refine (HRA.out z.num z.den _ (by (repeat' (first | with_reducible exact Below.refl _ _ | with_reducible assumption | with_reducible refine Below.drew ?_ | with_reducible refine below_drewN ?_ _ | with_reducible refine Below.setCell ?_ ?_ _ | with_reducible refine Below.alloc ?_ ?_ _ | omega | (simp; done) | (simp; omega)))) ⟨zb1, zb2⟩ ⟨zb3, zb4⟩).mono ?_
                          rintro e w85 ⟨⟨n', d', err, rfl, hr⟩, hb85⟩
                          have hw85 : Below w.heap.size w w85 := stepH (by (repeat' (first | with_reducible exact Below.refl _ _ | with_reducible assumption | with_reducible refine Below.drew ?_ | with_reducible refine below_drewN ?_ _ | with_reducible refine Below.setCell ?_ ?_ _ | with_reducible refine Below.alloc ?_ ?_ _ | omega | (simp; done) | (simp; omega)))) hb85
                          rw [HRR.out] at hr
                          obtain ⟨rfl, rfl, rfl⟩ := hr
                          replace X := keepH hb85 (blk_old X.out)
                          replace Z := keepH hb85 (blk_old Z.out)
                          replace Aa := keepH hb85 (blk_old Aa.out)
                          have Ab := keepH hb85 (g := w84.heap.size) (blk_new rfl)
                          have z85 := hw85.size
                          clear hb85 hw84 z84
                          clear cX lX lX1 lX2 cZ lZ lZ1 lZ2 cAa lAa lAa1 lAa2
                          have cX := cellH X
                          obtain ⟨lX, lX1, lX2⟩ := ltH X
                          have cZ := cellH Z
                          obtain ⟨lZ, lZ1, lZ2⟩ := ltH Z
                          have cAa := cellH Aa
                          obtain ⟨lAa, lAa1, lAa2⟩ := ltH Aa
                          have cAb := cellH Ab
                          obtain ⟨lAb, lAb1, lAb2⟩ := ltH Ab
                          go_wp2_with fail
                          refine (refSub_any z x _ HZ.out HX.out).mono ?_
                          rintro e w86 ⟨⟨n', d', c', rfl, hr⟩, hb86⟩
                          have hw86 : Below w.heap.size w w86 := stepH (by (repeat' (first | with_reducible exact Below.refl _ _ | with_reducible assumption | with_reducible refine Below.drew ?_ | with_reducible refine below_drewN ?_ _ | with_reducible refine Below.setCell ?_ ?_ _ | with_reducible refine Below.alloc ?_ ?_ _ | omega | (simp; done) | (simp; omega)))) hb86
                          obtain ⟨rfl, rfl, rfl⟩ := resC_ok hr (goodR_ok (decide_eq_true G1.out))
                          clear hr
                          replace X := keepH hb86 (blk_old X.out)
                          replace Z := keepH hb86 (blk_old Z.out)
                          replace Aa := keepH hb86 (blk_old Aa.out)
                          replace Ab := keepH hb86 (blk_old Ab.out)
                          have Rr := keepH hb86 (g := w85.heap.size) (blk_new rfl)
                          have z86 := hw86.size
                          clear hb86 hw85 z85
                          clear cX lX lX1 lX2 cZ lZ lZ1 lZ2 cAa lAa lAa1 lAa2 cAb lAb lAb1 lAb2
                          have cX := cellH X
                          obtain ⟨lX, lX1, lX2⟩ := ltH X
                          have cZ := cellH Z
                          obtain ⟨lZ, lZ1, lZ2⟩ := ltH Z
                          have cAa := cellH Aa
                          obtain ⟨lAa, lAa1, lAa2⟩ := ltH Aa
                          have cAb := cellH Ab
                          obtain ⟨lAb, lAb1, lAb2⟩ := ltH Ab
                          have cRr := cellH Rr
                          obtain ⟨lRr, lRr1, lRr2⟩ := ltH Rr
                          go_wp2_with fail
                          refine (refMul_any r (z - x) _ KR.out G1.out).mono ?_
                          rintro e w87 ⟨⟨n', d', c', rfl, hr⟩, hb87⟩
                          have hw87 : Below w.heap.size w w87 := stepH (by (repeat' (first | with_reducible exact Below.refl _ _ | with_reducible assumption | with_reducible refine Below.drew ?_ | with_reducible refine below_drewN ?_ _ | with_reducible refine Below.setCell ?_ ?_ _ | with_reducible refine Below.alloc ?_ ?_ _ | omega | (simp; done) | (simp; omega)))) hb87
                          obtain ⟨rfl, rfl, hc3⟩ := resC_no hr (goodR_no (decide_eq_false G2.out))
                          clear hr
                          have hcn : (c' != 0) = true := by rcases hc3 with rfl | rfl | rfl <;> decide
                          clear hc3
                          replace X := keepH hb87 (blk_old X.out)
                          replace Z := keepH hb87 (blk_old Z.out)
                          replace Aa := keepH hb87 (blk_old Aa.out)
                          replace Ab := keepH hb87 (blk_old Ab.out)
                          replace Rr := keepH hb87 (blk_old Rr.out)
                          have Dd := keepH hb87 (g := w86.heap.size) (blk_new rfl)
                          have z87 := hw87.size
                          clear hb87 hw86 z86
                          clear cX lX lX1 lX2 cZ lZ lZ1 lZ2 cAa lAa lAa1 lAa2 cAb lAb lAb1 lAb2 cRr lRr lRr1 lRr2
                          have cX := cellH X
                          obtain ⟨lX, lX1, lX2⟩ := ltH X
                          have cZ := cellH Z
                          obtain ⟨lZ, lZ1, lZ2⟩ := ltH Z
                          have cAa := cellH Aa
                          obtain ⟨lAa, lAa1, lAa2⟩ := ltH Aa
                          have cAb := cellH Ab
                          obtain ⟨lAb, lAb1, lAb2⟩ := ltH Ab
                          have cRr := cellH Rr
                          obtain ⟨lRr, lRr1, lRr2⟩ := ltH Rr
                          have cDd := cellH Dd
                          obtain ⟨lDd, lDd1, lDd2⟩ := ltH Dd
                          go_wp2_with fail
                          refine (refAdd_no a _ KA.out).mono ?_
                          rintro e w88 ⟨rfl, hb88⟩
                          have hw88 : Below w.heap.size w w88 := stepH (by (repeat' (first | with_reducible exact Below.refl _ _ | with_reducible assumption | with_reducible refine Below.drew ?_ | with_reducible refine below_drewN ?_ _ | with_reducible refine Below.setCell ?_ ?_ _ | with_reducible refine Below.alloc ?_ ?_ _ | omega | (simp; done) | (simp; omega)))) hb88
                          replace X := keepH hb88 (blk_old X.out)
                          replace Z := keepH hb88 (blk_old Z.out)
                          replace Aa := keepH hb88 (blk_old Aa.out)
                          replace Ab := keepH hb88 (blk_old Ab.out)
                          replace Rr := keepH hb88 (blk_old Rr.out)
                          replace Dd := keepH hb88 (blk_old Dd.out)
                          have Mm := keepH hb88 (g := w87.heap.size) (blk_new rfl)
                          have z88 := hw88.size
                          clear hb88 hw87 z87
                          clear cX lX lX1 lX2 cZ lZ lZ1 lZ2 cAa lAa lAa1 lAa2 cAb lAb lAb1 lAb2 cRr lRr lRr1 lRr2 cDd lDd lDd1 lDd2
                          have cX := cellH X
                          obtain ⟨lX, lX1, lX2⟩ := ltH X
                          have cZ := cellH Z
                          obtain ⟨lZ, lZ1, lZ2⟩ := ltH Z
                          have cAa := cellH Aa
                          obtain ⟨lAa, lAa1, lAa2⟩ := ltH Aa
                          have cAb := cellH Ab
                          obtain ⟨lAb, lAb1, lAb2⟩ := ltH Ab
                          have cRr := cellH Rr
                          obtain ⟨lRr, lRr1, lRr2⟩ := ltH Rr
                          have cDd := cellH Dd
                          obtain ⟨lDd, lDd1, lDd2⟩ := ltH Dd
                          have cMm := cellH Mm
                          obtain ⟨lMm, lMm1, lMm2⟩ := ltH Mm
                          go_wp2_with fail
                          go_ret
                          exact ⟨rfl, by (repeat' (first | with_reducible exact Below.refl _ _ | with_reducible assumption | with_reducible refine Below.drew ?_ | with_reducible refine below_drewN ?_ _ | with_reducible refine Below.setCell ?_ ?_ _ | with_reducible refine Below.alloc ?_ ?_ _ | omega | (simp; done) | (simp; omega)))⟩
                      · have G1 := Lib.hid g1
                        clear g1
                        have cX := cellH X
                        obtain ⟨lX, lX1, lX2⟩ := ltH X
                        have cZ := cellH Z
                        obtain ⟨lZ, lZ1, lZ2⟩ := ltH Z
                        go_wp2_with fail
                        refine (HAT.out x.num x.den _ (by (repeat' (first | with_reducible exact Below.refl _ _ | with_reducible assumption | with_reducible refine Below.drew ?_ | with_reducible refine below_drewN ?_ _ | with_reducible refine Below.setCell ?_ ?_ _ | with_reducible refine Below.alloc ?_ ?_ _ | omega | (simp; done) | (simp; omega)))) ⟨xb1, xb2⟩ ⟨xb3, xb4⟩).mono ?_
                        rintro e w89 ⟨⟨n', d', err, rfl, hr⟩, hb89⟩
                        have hw89 : Below w.heap.size w w89 := stepH (by (repeat' (first | with_reducible exact Below.refl _ _ | with_reducible assumption | with_reducible refine Below.drew ?_ | with_reducible refine below_drewN ?_ _ | with_reducible refine Below.setCell ?_ ?_ _ | with_reducible refine Below.alloc ?_ ?_ _ | omega | (simp; done) | (simp; omega)))) hb89
                        rw [HA.out] at hr
                        obtain ⟨rfl, rfl, rfl⟩ := hr
                        replace X := keepH hb89 X.out
                        replace Z := keepH hb89 Z.out
                        have z89 := hw89.size
                        clear hb89 hw0 z0
                        clear cX lX lX1 lX2 cZ lZ lZ1 lZ2
                        have cX := cellH X
                        obtain ⟨lX, lX1, lX2⟩ := ltH X
                        have cZ := cellH Z
                        obtain ⟨lZ, lZ1, lZ2⟩ := ltH Z
                        go_wp2_with fail
                        refine (HAT.out z.num z.den _ (by (repeat' (first | with_reducible exact Below.refl _ _ | with_reducible assumption | with_reducible refine Below.drew ?_ | with_reducible refine below_drewN ?_ _ | with_reducible refine Below.setCell ?_ ?_ _ | with_reducible refine Below.alloc ?_ ?_ _ | omega | (simp; done) | (simp; omega)))) ⟨zb1, zb2⟩ ⟨zb3, zb4⟩).mono ?_
                        rintro e w90 ⟨⟨n', d', err, rfl, hr⟩, hb90⟩
                        have hw90 : Below w.heap.size w w90 := stepH (by (repeat' (first | with_reducible exact Below.refl _ _ | with_reducible assumption | with_reducible refine Below.drew ?_ | with_reducible refine below_drewN ?_ _ | with_reducible refine Below.setCell ?_ ?_ _ | with_reducible refine Below.alloc ?_ ?_ _ | omega | (simp; done) | (simp; omega)))) hb90
                        rw [HBB.out] at hr
                        obtain ⟨rfl, rfl, rfl⟩ := hr
                        replace X := keepH hb90 (blk_old X.out)
                        replace Z := keepH hb90 (blk_old Z.out)
                        have Aa := keepH hb90 (g := w89.heap.size) (blk_new rfl)
                        have z90 := hw90.size
                        clear hb90 hw89 z89
                        clear cX lX lX1 lX2 cZ lZ lZ1 lZ2
                        have cX := cellH X
                        obtain ⟨lX, lX1, lX2⟩ := ltH X
                        have cZ := cellH Z
                        obtain ⟨lZ, lZ1, lZ2⟩ := ltH Z
                        have cAa := cellH Aa
                        obtain ⟨lAa, lAa1, lAa2⟩ := ltH Aa
                        go_wp2_with fail
                        refine (HRA.out z.num z.den _ (by (repeat' (first | with_reducible exact Below.refl _ _ | with_reducible assumption | with_reducible refine Below.drew ?_ | with_reducible refine below_drewN ?_ _ | with_reducible refine Below.setCell ?_ ?_ _ | with_reducible refine Below.alloc ?_ ?_ _ | omega | (simp; done) | (simp; omega)))) ⟨zb1, zb2⟩ ⟨zb3, zb4⟩).mono ?_
                        rintro e w91 ⟨⟨n', d', err, rfl, hr⟩, hb91⟩
                        have hw91 : Below w.heap.size w w91 := stepH (by (repeat' (first | with_reducible exact Below.refl _ _ | with_reducible assumption | with_reducible refine Below.drew ?_ | with_reducible refine below_drewN ?_ _ | with_reducible refine Below.setCell ?_ ?_ _ | with_reducible refine Below.alloc ?_ ?_ _ | omega | (simp; done) | (simp; omega)))) hb91
                        rw [HRR.out] at hr
                        obtain ⟨rfl, rfl, rfl⟩ := hr
                        replace X := keepH hb91 (blk_old X.out)
                        replace Z := keepH hb91 (blk_old Z.out)
                        replace Aa := keepH hb91 (blk_old Aa.out)
                        have Ab := keepH hb91 (g := w90.heap.size) (blk_new rfl)
                        have z91 := hw91.size
                        clear hb91 hw90 z90
                        clear cX lX lX1 lX2 cZ lZ lZ1 lZ2 cAa lAa lAa1 lAa2
                        have cX := cellH X
                        obtain ⟨lX, lX1, lX2⟩ := ltH X
                        have cZ := cellH Z
                        obtain ⟨lZ, lZ1, lZ2⟩ := ltH Z
                        have cAa := cellH Aa
                        obtain ⟨lAa, lAa1, lAa2⟩ := ltH Aa
                        have cAb := cellH Ab
                        obtain ⟨lAb, lAb1, lAb2⟩ := ltH Ab
                        go_wp2_with fail
                        refine (refSub_any z x _ HZ.out HX.out).mono ?_
                        rintro e w92 ⟨⟨n', d', c', rfl, hr⟩, hb92⟩
                        have hw92 : Below w.heap.size w w92 := stepH (by (repeat' (first | with_reducible exact Below.refl _ _ | with_reducible assumption | with_reducible refine Below.drew ?_ | with_reducible refine below_drewN ?_ _ | with_reducible refine Below.setCell ?_ ?_ _ | with_reducible refine Below.alloc ?_ ?_ _ | omega | (simp; done) | (simp; omega)))) hb92
                        obtain ⟨rfl, rfl, hc3⟩ := resC_no hr (goodR_no (decide_eq_false G1.out))
                        clear hr
                        have hcn : (c' != 0) = true := by rcases hc3 with rfl | rfl | rfl <;> decide
                        clear hc3
                        replace X := keepH hb92 (blk_old X.out)
                        replace Z := keepH hb92 (blk_old Z.out)
                        replace Aa := keepH hb92 (blk_old Aa.out)
                        replace Ab := keepH hb92 (blk_old Ab.out)
                        have Rr := keepH hb92 (g := w91.heap.size) (blk_new rfl)
                        have z92 := hw92.size
                        clear hb92 hw91 z91
                        clear cX lX lX1 lX2 cZ lZ lZ1 lZ2 cAa lAa lAa1 lAa2 cAb lAb lAb1 lAb2
                        have cX := cellH X
                        obtain ⟨lX, lX1, lX2⟩ := ltH X
                        have cZ := cellH Z
                        obtain ⟨lZ, lZ1, lZ2⟩ := ltH Z
                        have cAa := cellH Aa
                        obtain ⟨lAa, lAa1, lAa2⟩ := ltH Aa
                        have cAb := cellH Ab
                        obtain ⟨lAb, lAb1, lAb2⟩ := ltH Ab
                        have cRr := cellH Rr
                        obtain ⟨lRr, lRr1, lRr2⟩ := ltH Rr
                        go_wp2_with fail
                        refine (refMul_no r _ KR.out).mono ?_
                        rintro e w93 ⟨rfl, hb93⟩
                        have hw93 : Below w.heap.size w w93 := stepH (by (repeat' (first | with_reducible exact Below.refl _ _ | with_reducible assumption | with_reducible refine Below.drew ?_ | with_reducible refine below_drewN ?_ _ | with_reducible refine Below.setCell ?_ ?_ _ | with_reducible refine Below.alloc ?_ ?_ _ | omega | (simp; done) | (simp; omega)))) hb93
                        replace X := keepH hb93 (blk_old X.out)
                        replace Z := keepH hb93 (blk_old Z.out)
                        replace Aa := keepH hb93 (blk_old Aa.out)
                        replace Ab := keepH hb93 (blk_old Ab.out)
                        replace Rr := keepH hb93 (blk_old Rr.out)
                        have Dd := keepH hb93 (g := w92.heap.size) (blk_new rfl)
                        have z93 := hw93.size
                        clear hb93 hw92 z92
                        clear cX lX lX1 lX2 cZ lZ lZ1 lZ2 cAa lAa lAa1 lAa2 cAb lAb lAb1 lAb2 cRr lRr lRr1 lRr2
                        have cX := cellH X
                        obtain ⟨lX, lX1, lX2⟩ := ltH X
                        have cZ := cellH Z
                        obtain ⟨lZ, lZ1, lZ2⟩ := ltH Z
                        have cAa := cellH Aa
                        obtain ⟨lAa, lAa1, lAa2⟩ := ltH Aa
                        have cAb := cellH Ab
                        obtain ⟨lAb, lAb1, lAb2⟩ := ltH Ab
                        have cRr := cellH Rr
                        obtain ⟨lRr, lRr1, lRr2⟩ := ltH Rr
                        have cDd := cellH Dd
                        obtain ⟨lDd, lDd1, lDd2⟩ := ltH Dd
                        go_wp2_with fail
                        refine (refAdd_no a _ KA.out).mono ?_
                        rintro e w94 ⟨rfl, hb94⟩
                        have hw94 : Below w.heap.size w w94 := stepH (by (repeat' (first | with_reducible exact Below.refl _ _ | with_reducible assumption | with_reducible refine Below.drew ?_ | with_reducible refine below_drewN ?_ _ | with_reducible refine Below.setCell ?_ ?_ _ | with_reducible refine Below.alloc ?_ ?_ _ | omega | (simp; done) | (simp; omega)))) hb94
                        replace X := keepH hb94 (blk_old X.out)
                        replace Z := keepH hb94 (blk_old Z.out)
                        replace Aa := keepH hb94 (blk_old Aa.out)
                        replace Ab := keepH hb94 (blk_old Ab.out)
                        replace Rr := keepH hb94 (blk_old Rr.out)
                        replace Dd := keepH hb94 (blk_old Dd.out)
                        have Mm := keepH hb94 (g := w93.heap.size) (blk_new rfl)
                        have z94 := hw94.size
                        clear hb94 hw93 z93
                        clear cX lX lX1 lX2 cZ lZ lZ1 lZ2 cAa lAa lAa1 lAa2 cAb lAb lAb1 lAb2 cRr lRr lRr1 lRr2 cDd lDd lDd1 lDd2
                        have cX := cellH X
                        obtain ⟨lX, lX1, lX2⟩ := ltH X
                        have cZ := cellH Z
                        obtain ⟨lZ, lZ1, lZ2⟩ := ltH Z
                        have cAa := cellH Aa
                        obtain ⟨lAa, lAa1, lAa2⟩ := ltH Aa
                        have cAb := cellH Ab
                        obtain ⟨lAb, lAb1, lAb2⟩ := ltH Ab
                        have cRr := cellH Rr
                        obtain ⟨lRr, lRr1, lRr2⟩ := ltH Rr
                        have cDd := cellH Dd
                        obtain ⟨lDd, lDd1, lDd2⟩ := ltH Dd
                        have cMm := cellH Mm
                        obtain ⟨lMm, lMm1, lMm2⟩ := ltH Mm
                        go_wp2_with fail
                        go_ret
                        exact ⟨rfl, by (repeat' (first | with_reducible exact Below.refl _ _ | with_reducible assumption | with_reducible refine Below.drew ?_ | with_reducible refine below_drewN ?_ _ | with_reducible refine Below.setCell ?_ ?_ _ | with_reducible refine Below.alloc ?_ ?_ _ | omega | (simp; done) | (simp; omega)))⟩
        · obtain ⟨cc, hcc, hc0⟩ : ∃ cc, cmpQ x z = cc ∧ 0 ≤ cc := ⟨_, rfl, cmp_ge hxz⟩
          have HC := Lib.hid hcc
          clear hxz hcc
          go_enter Tryd.func3, Tryd.ntmps3
          go_wp2_with fail
          refine (first15_any E _ (HE.out.below (by (repeat' (first | with_reducible exact Below.refl _ _ | with_reducible assumption | with_reducible refine Below.drew ?_ | with_reducible refine below_drewN ?_ _ | with_reducible refine Below.setCell ?_ ?_ _ | with_reducible refine Below.alloc ?_ ?_ _ | omega | (simp; done) | (simp; omega)))))).mono ?_
          rintro e w91 ⟨rfl, hb91⟩
          have hw91 : Below w.heap.size w w91 := stepH (by (repeat' (first | with_reducible exact Below.refl _ _ | with_reducible assumption | with_reducible refine Below.drew ?_ | with_reducible refine below_drewN ?_ _ | with_reducible refine Below.setCell ?_ ?_ _ | with_reducible refine Below.alloc ?_ ?_ _ | omega | (simp; done) | (simp; omega)))) hb91
          have X := keepH hb91 (g := w.heap.size) (blk_old (blk_new rfl))
          have Z := keepH hb91 (g := w.heap.size + 1) (blk_new (by simp))
          have z91 := hw91.size
          clear hb91
          have cX := cellH X
          obtain ⟨lX, lX1, lX2⟩ := ltH X
          have cZ := cellH Z
          obtain ⟨lZ, lZ1, lZ2⟩ := ltH Z
          go_wp2_with fail
          refine (refv_is x.num x.den true _ HV.out xb1 xb2 xb3 xb4).mono ?_
          rintro e w92 ⟨rfl, hb92⟩
          have hw92 : Below w.heap.size w w92 := stepH (by (repeat' (first | with_reducible exact Below.refl _ _ | with_reducible assumption | with_reducible refine Below.drew ?_ | with_reducible refine below_drewN ?_ _ | with_reducible refine Below.setCell ?_ ?_ _ | with_reducible refine Below.alloc ?_ ?_ _ | omega | (simp; done) | (simp; omega)))) hb92
          replace X := keepH hb92 X.out
          replace Z := keepH hb92 Z.out
          have z92 := hw92.size
          clear hb92 hw91 z91
          clear cX lX lX1 lX2 cZ lZ lZ1 lZ2
          have cX := cellH X
          obtain ⟨lX, lX1, lX2⟩ := ltH X
          have cZ := cellH Z
          obtain ⟨lZ, lZ1, lZ2⟩ := ltH Z
          go_wp2_with fail
          refine (refv_is z.num z.den true _ HV2.out zb1 zb2 zb3 zb4).mono ?_
          rintro e w93 ⟨rfl, hb93⟩
          have hw93 : Below w.heap.size w w93 := stepH (by (repeat' (first | with_reducible exact Below.refl _ _ | with_reducible assumption | with_reducible refine Below.drew ?_ | with_reducible refine below_drewN ?_ _ | with_reducible refine Below.setCell ?_ ?_ _ | with_reducible refine Below.alloc ?_ ?_ _ | omega | (simp; done) | (simp; omega)))) hb93
          replace X := keepH hb93 X.out
          replace Z := keepH hb93 Z.out
          have z93 := hw93.size
          clear hb93 hw92 z92
          clear cX lX lX1 lX2 cZ lZ lZ1 lZ2
          have cX := cellH X
          obtain ⟨lX, lX1, lX2⟩ := ltH X
          have cZ := cellH Z
          obtain ⟨lZ, lZ1, lZ2⟩ := ltH Z
          go_wp2_with fail
          refine (refCmp_is x z cc _ HX.out HZ.out HC.out).mono ?_
          rintro e w94 ⟨rfl, hb94⟩
          have hw94 : Below w.heap.size w w94 := stepH (by (repeat' (first | with_reducible exact Below.refl _ _ | with_reducible assumption | with_reducible refine Below.drew ?_ | with_reducible refine below_drewN ?_ _ | with_reducible refine Below.setCell ?_ ?_ _ | with_reducible refine Below.alloc ?_ ?_ _ | omega | (simp; done) | (simp; omega)))) hb94
          replace X := keepH hb94 X.out
          replace Z := keepH hb94 Z.out
          have z94 := hw94.size
          clear hb94 hw93 z93
          clear cX lX lX1 lX2 cZ lZ lZ1 lZ2
          have cX := cellH X
          obtain ⟨lX, lX1, lX2⟩ := ltH X
          have cZ := cellH Z
          obtain ⟨lZ, lZ1, lZ2⟩ := ltH Z
          go_wp2_with fail
          go_ret
          exact ⟨rfl, by (repeat' (first | with_reducible exact Below.refl _ _ | with_reducible assumption | with_reducible refine Below.drew ?_ | with_reducible refine below_drewN ?_ _ | with_reducible refine Below.setCell ?_ ?_ _ | with_reducible refine Below.alloc ?_ ?_ _ | omega | (simp; done) | (simp; omega)))⟩

end Go.Proofs.YtaoecddmbhfnmaaDoor
