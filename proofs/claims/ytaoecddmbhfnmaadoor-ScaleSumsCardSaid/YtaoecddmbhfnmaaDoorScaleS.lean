/- The walk of ScaleSums. -/
import Derived.Test.YtaoecddmbhfnmaaDoorScaleR
import Derived.Test.YtaoecddmbhfnmaaDoorScaleM
namespace Go.Proofs.YtaoecddmbhfnmaaDoor
open Go.RowKit

set_option maxRecDepth 100000 in
set_option maxHeartbeats 16000000 in
theorem scaleSums_walk (s : List BI) (A : Option Addr) (c : Nat) (x1 x2 : Int) (E : Nat → Addr) (w : World) (hl : RowAt encR 4 w w.heap.size A s) (hm : s.length ≤ 9223372036854775807) (hI : ∀ b ∈ s, In4 b) (Bx1 : -9223372036854775808 ≤ x1 ∧ x1 ≤ 9223372036854775807) (Bx2 : -9223372036854775808 ≤ x2 ∧ x2 ≤ 9223372036854775807) (hE : Env LC E w) :
    Calls Tryd.prog 6 #[.slice A s.length c, .agg #[.int .i64 x1, .int .i64 x2]] w fun e w' => e = .returned (.bool true) ∧ Below w.heap.size w w' := by
  have HPA := Lib.hid (fun w' (h : Below w.heap.size w w') => parts15_any s A c x1 x2 E w' ((hl.below h (Nat.le_refl _)).more h.size) hm hI Bx1 Bx2 (hE.below h))
  obtain ⟨x1l, x1u⟩ := Bx1
  obtain ⟨x2l, x2u⟩ := Bx2
  have HAT := Lib.hid (fun n d w' (h : Below w.heap.size w w') b1 b2 => at15_any s A c n d E w' ((hl.below h (Nat.le_refl _)).more h.size) hm hI b1 b2 (hE.below h))
  have HL := Lib.hid hl
  have HE := Lib.hid hE
  clear hl hI hE
  by_cases h2 : 200 < s.length
  · go_enter Tryd.func6, Tryd.ntmps6
    go_wp2_with fail
    refine (first15_any E _ (HE.out.below (by (repeat' (first | with_reducible exact Below.refl _ _ | with_reducible assumption | with_reducible refine Below.drew ?_ | with_reducible refine below_drewN ?_ _ | with_reducible refine Below.setCell ?_ ?_ _ | with_reducible refine Below.alloc ?_ ?_ _ | omega | (simp; done) | (simp; omega)))))).mono ?_
    rintro e w1 ⟨rfl, hb1⟩
    have hw1 : Below w.heap.size w w1 := stepH (by (repeat' (first | with_reducible exact Below.refl _ _ | with_reducible assumption | with_reducible refine Below.drew ?_ | with_reducible refine below_drewN ?_ _ | with_reducible refine Below.setCell ?_ ?_ _ | with_reducible refine Below.alloc ?_ ?_ _ | omega | (simp; done) | (simp; omega)))) hb1
    have X := keepH hb1 (g := w.heap.size) (blk_new rfl)
    have z1 := hw1.size
    clear hb1
    have cX := cellH X
    obtain ⟨lX, lX1, lX2⟩ := ltH X
    go_wp2_with fail
    go_ret
    exact ⟨rfl, by (repeat' (first | with_reducible exact Below.refl _ _ | with_reducible assumption | with_reducible refine Below.drew ?_ | with_reducible refine below_drewN ?_ _ | with_reducible refine Below.setCell ?_ ?_ _ | with_reducible refine Below.alloc ?_ ?_ _ | omega | (simp; done) | (simp; omega)))⟩
  · cases ha : atI s x1 x2
    · rename_i g
      have HA := Lib.hid ha
      clear ha
      have hen := fun w => eql_nil (E g) w
      go_enter Tryd.func6, Tryd.ntmps6
      go_wp2_with fail
      refine (first15_any E _ (HE.out.below (by (repeat' (first | with_reducible exact Below.refl _ _ | with_reducible assumption | with_reducible refine Below.drew ?_ | with_reducible refine below_drewN ?_ _ | with_reducible refine Below.setCell ?_ ?_ _ | with_reducible refine Below.alloc ?_ ?_ _ | omega | (simp; done) | (simp; omega)))))).mono ?_
      rintro e w2 ⟨rfl, hb2⟩
      have hw2 : Below w.heap.size w w2 := stepH (by (repeat' (first | with_reducible exact Below.refl _ _ | with_reducible assumption | with_reducible refine Below.drew ?_ | with_reducible refine below_drewN ?_ _ | with_reducible refine Below.setCell ?_ ?_ _ | with_reducible refine Below.alloc ?_ ?_ _ | omega | (simp; done) | (simp; omega)))) hb2
      have X := keepH hb2 (g := w.heap.size) (blk_new rfl)
      have z2 := hw2.size
      clear hb2
      have cX := cellH X
      obtain ⟨lX, lX1, lX2⟩ := ltH X
      go_wp2_with fail
      refine (HAT.out x1 x2 _ (by (repeat' (first | with_reducible exact Below.refl _ _ | with_reducible assumption | with_reducible refine Below.drew ?_ | with_reducible refine below_drewN ?_ _ | with_reducible refine Below.setCell ?_ ?_ _ | with_reducible refine Below.alloc ?_ ?_ _ | omega | (simp; done) | (simp; omega)))) ⟨by omega, by omega⟩ ⟨by omega, by omega⟩).mono ?_
      rintro e w3 ⟨⟨n', d', err, rfl, hr⟩, hb3⟩
      have hw3 : Below w.heap.size w w3 := stepH (by (repeat' (first | with_reducible exact Below.refl _ _ | with_reducible assumption | with_reducible refine Below.drew ?_ | with_reducible refine below_drewN ?_ _ | with_reducible refine Below.setCell ?_ ?_ _ | with_reducible refine Below.alloc ?_ ?_ _ | omega | (simp; done) | (simp; omega)))) hb3
      rw [HA.out] at hr
      obtain ⟨rfl, rfl, rfl⟩ := hr
      replace X := keepH hb3 X.out
      have z3 := hw3.size
      clear hb3 hw2 z2
      clear cX lX lX1 lX2
      have cX := cellH X
      obtain ⟨lX, lX1, lX2⟩ := ltH X
      go_wp2_with fail
      refine (HPA.out _ (by (repeat' (first | with_reducible exact Below.refl _ _ | with_reducible assumption | with_reducible refine Below.drew ?_ | with_reducible refine below_drewN ?_ _ | with_reducible refine Below.setCell ?_ ?_ _ | with_reducible refine Below.alloc ?_ ?_ _ | omega | (simp; done) | (simp; omega))))).mono ?_
      rintro e w4 ⟨⟨v, err, rfl, hr⟩, hb4⟩
      have hw4 : Below w.heap.size w w4 := stepH (by (repeat' (first | with_reducible exact Below.refl _ _ | with_reducible assumption | with_reducible refine Below.drew ?_ | with_reducible refine below_drewN ?_ _ | with_reducible refine Below.setCell ?_ ?_ _ | with_reducible refine Below.alloc ?_ ?_ _ | omega | (simp; done) | (simp; omega)))) hb4
      replace X := keepH hb4 (blk_old X.out)
      have Aa := keepH hb4 (g := w3.heap.size) (blk_new rfl)
      have z4 := hw4.size
      clear hb4 hw3 z3
      clear cX lX lX1 lX2
      have cX := cellH X
      obtain ⟨lX, lX1, lX2⟩ := ltH X
      have cAa := cellH Aa
      obtain ⟨lAa, lAa1, lAa2⟩ := ltH Aa
      go_wp2_with fail
      go_ret
      exact ⟨rfl, by (repeat' (first | with_reducible exact Below.refl _ _ | with_reducible assumption | with_reducible refine Below.drew ?_ | with_reducible refine below_drewN ?_ _ | with_reducible refine Below.setCell ?_ ?_ _ | with_reducible refine Below.alloc ?_ ?_ _ | omega | (simp; done) | (simp; omega)))⟩
    · rename_i a
      have HA := Lib.hid ha
      obtain ⟨gs, x, l, rfl, hg, hx, rfl, rfl, hga, hpa, hlg, hfo, hle, h32, hlow, hup⟩ := sums_law ha
      rw [List.length_map] at *
      have HG := Lib.hid hg
      have HX := Lib.hid hx
      have HGA := Lib.hid hga
      have HPP := Lib.hid hpa
      have HLG := Lib.hid hlg
      have HFO := Lib.hid hfo
      have HLOW := Lib.hid hlow
      have HUP := Lib.hid hup
      clear ha hg hx hga hpa hlg hfo hlow hup h2
      have hin : Hid (∀ q ∈ l.map fq, In2 q) := by
        intro q hq
        obtain ⟨r, hr, rfl⟩ := List.mem_map.1 hq
        exact bds (HLG.out r hr)
      have HSI := Lib.hid (show sumI (l.map fq) = .ok a by rw [sumI_fq HLG.out]; exact HFO.out)
      have hd2 : decide ((200 : Int) < (gs.length : Int)) = false := decide_eq_false (by omega)
      have hd3 : decide (gs.length < l.length) = false := decide_eq_false (by omega)
      go_enter Tryd.func6, Tryd.ntmps6
      go_wp2_with fail
      refine (first15_any E _ (HE.out.below (by (repeat' (first | with_reducible exact Below.refl _ _ | with_reducible assumption | with_reducible refine Below.drew ?_ | with_reducible refine below_drewN ?_ _ | with_reducible refine Below.setCell ?_ ?_ _ | with_reducible refine Below.alloc ?_ ?_ _ | omega | (simp; done) | (simp; omega)))))).mono ?_
      rintro e w5 ⟨rfl, hb5⟩
      have hw5 : Below w.heap.size w w5 := stepH (by (repeat' (first | with_reducible exact Below.refl _ _ | with_reducible assumption | with_reducible refine Below.drew ?_ | with_reducible refine below_drewN ?_ _ | with_reducible refine Below.setCell ?_ ?_ _ | with_reducible refine Below.alloc ?_ ?_ _ | omega | (simp; done) | (simp; omega)))) hb5
      have X := keepH hb5 (g := w.heap.size) (blk_new rfl)
      have z5 := hw5.size
      clear hb5
      have cX := cellH X
      obtain ⟨lX, lX1, lX2⟩ := ltH X
      go_wp2_with fail
      refine (HAT.out x.num x.den _ (by (repeat' (first | with_reducible exact Below.refl _ _ | with_reducible assumption | with_reducible refine Below.drew ?_ | with_reducible refine below_drewN ?_ _ | with_reducible refine Below.setCell ?_ ?_ _ | with_reducible refine Below.alloc ?_ ?_ _ | omega | (simp; done) | (simp; omega)))) ⟨by omega, by omega⟩ ⟨by omega, by omega⟩).mono ?_
      rintro e w6 ⟨⟨n', d', err, rfl, hr⟩, hb6⟩
      have hw6 : Below w.heap.size w w6 := stepH (by (repeat' (first | with_reducible exact Below.refl _ _ | with_reducible assumption | with_reducible refine Below.drew ?_ | with_reducible refine below_drewN ?_ _ | with_reducible refine Below.setCell ?_ ?_ _ | with_reducible refine Below.alloc ?_ ?_ _ | omega | (simp; done) | (simp; omega)))) hb6
      rw [HA.out] at hr
      obtain ⟨rfl, rfl, rfl⟩ := hr
      replace X := keepH hb6 X.out
      have z6 := hw6.size
      clear hb6 hw5 z5
      clear cX lX lX1 lX2
      have cX := cellH X
      obtain ⟨lX, lX1, lX2⟩ := ltH X
      go_wp2_with fail
      refine (HPA.out _ (by (repeat' (first | with_reducible exact Below.refl _ _ | with_reducible assumption | with_reducible refine Below.drew ?_ | with_reducible refine below_drewN ?_ _ | with_reducible refine Below.setCell ?_ ?_ _ | with_reducible refine Below.alloc ?_ ?_ _ | omega | (simp; done) | (simp; omega))))).mono ?_
      rintro e w7 ⟨⟨v, err, rfl, hr⟩, hb7⟩
      have hw7 : Below w.heap.size w w7 := stepH (by (repeat' (first | with_reducible exact Below.refl _ _ | with_reducible assumption | with_reducible refine Below.drew ?_ | with_reducible refine below_drewN ?_ _ | with_reducible refine Below.setCell ?_ ?_ _ | with_reducible refine Below.alloc ?_ ?_ _ | omega | (simp; done) | (simp; omega)))) hb7
      rw [HPP.out] at hr
      obtain ⟨hown, rfl⟩ := hr
      obtain ⟨A2, c2, rfl, hc2, hm2, hrow⟩ := Own.rows (fun x _ => encF_len x) hown
      rw [List.length_map] at hc2 ⊢
      have HROW := Lib.hid hrow
      clear hown hrow
      replace X := keepH hb7 (blk_old X.out)
      have Aa := keepH hb7 (g := w6.heap.size) (blk_new rfl)
      have z7 := hw7.size
      clear hb7 hw6 z6
      clear cX lX lX1 lX2
      have cX := cellH X
      obtain ⟨lX, lX1, lX2⟩ := ltH X
      have cAa := cellH Aa
      obtain ⟨lAa, lAa1, lAa2⟩ := ltH Aa
      have ho7 : OnlyL [] w7 w7 := OnlyL.refl _ _
      go_wp2_with fail
      refine ((sum_at (l.map fq) l.length A2 c2 E _ (List.length_map _) hc2 hm2 ((HROW.out.below (OnlyL.all (by (repeat' (first | with_reducible exact OnlyL.refl _ _ | with_reducible assumption | with_reducible refine OnlyL.drew ?_ | with_reducible refine OnlyL.drewN ?_ _ | with_reducible refine OnlyL.setCell ?_ ?_ _ | with_reducible refine OnlyL.alloc ?_ _ | omega | (simp; done) | (simp; omega))))) (Nat.le_refl _)).more (OnlyL.size (L := []) (by (repeat' (first | with_reducible exact OnlyL.refl _ _ | with_reducible assumption | with_reducible refine OnlyL.drew ?_ | with_reducible refine OnlyL.drewN ?_ _ | with_reducible refine OnlyL.setCell ?_ ?_ _ | with_reducible refine OnlyL.alloc ?_ _ | omega | (simp; done) | (simp; omega)))))) hin.out ((HE.out.below (by (repeat' (first | with_reducible exact Below.refl _ _ | with_reducible assumption | with_reducible refine Below.drew ?_ | with_reducible refine below_drewN ?_ _ | with_reducible refine Below.setCell ?_ ?_ _ | with_reducible refine Below.alloc ?_ ?_ _ | omega | (simp; done) | (simp; omega))))).sub (by decide)))).mono ?_
      rintro e w8 ⟨⟨n', d', err, rfl, hr⟩, hb8⟩
      have hw8 : Below w.heap.size w w8 := stepH (by (repeat' (first | with_reducible exact Below.refl _ _ | with_reducible assumption | with_reducible refine Below.drew ?_ | with_reducible refine below_drewN ?_ _ | with_reducible refine Below.setCell ?_ ?_ _ | with_reducible refine Below.alloc ?_ ?_ _ | omega | (simp; done) | (simp; omega)))) hb8
      have ho8 : OnlyL [] w7 w8 := OnlyL.step (by (repeat' (first | with_reducible exact OnlyL.refl _ _ | with_reducible assumption | with_reducible refine OnlyL.drew ?_ | with_reducible refine OnlyL.drewN ?_ _ | with_reducible refine OnlyL.setCell ?_ ?_ _ | with_reducible refine OnlyL.alloc ?_ _ | omega | (simp; done) | (simp; omega)))) hb8
      obtain ⟨rfl, rfl, rfl⟩ := (by have h := hr; rw [HSI.out] at h; exact h : _ ∧ _ ∧ _)
      clear hr
      replace X := keepH hb8 X.out
      replace Aa := keepH hb8 Aa.out
      have z8 := hw8.size
      clear hb8 hw7 z7
      clear cX lX lX1 lX2 cAa lAa lAa1 lAa2
      have cX := cellH X
      obtain ⟨lX, lX1, lX2⟩ := ltH X
      have cAa := cellH Aa
      obtain ⟨lAa, lAa1, lAa2⟩ := ltH Aa
      go_wp2_with fail
      refine (first_same _ _ _).mono ?_
      rintro e w9 ⟨rfl, hb9⟩
      have hw9 : Below w.heap.size w w9 := stepH (by (repeat' (first | with_reducible exact Below.refl _ _ | with_reducible assumption | with_reducible refine Below.drew ?_ | with_reducible refine below_drewN ?_ _ | with_reducible refine Below.setCell ?_ ?_ _ | with_reducible refine Below.alloc ?_ ?_ _ | omega | (simp; done) | (simp; omega)))) hb9
      have ho9 : OnlyL [] w7 w9 := OnlyL.step (by (repeat' (first | with_reducible exact OnlyL.refl _ _ | with_reducible assumption | with_reducible refine OnlyL.drew ?_ | with_reducible refine OnlyL.drewN ?_ _ | with_reducible refine OnlyL.setCell ?_ ?_ _ | with_reducible refine OnlyL.alloc ?_ _ | omega | (simp; done) | (simp; omega)))) hb9
      replace X := keepH hb9 (blk_old X.out)
      replace Aa := keepH hb9 (blk_old Aa.out)
      have Su := keepH hb9 (g := w8.heap.size) (blk_new rfl)
      have z9 := hw9.size
      clear hb9 hw8 z8
      clear cX lX lX1 lX2 cAa lAa lAa1 lAa2
      have cX := cellH X
      obtain ⟨lX, lX1, lX2⟩ := ltH X
      have cAa := cellH Aa
      obtain ⟨lAa, lAa1, lAa2⟩ := ltH Aa
      have cSu := cellH Su
      obtain ⟨lSu, lSu1, lSu2⟩ := ltH Su
      go_wp2_with fail
      clear cX lX lX1 lX2 cAa lAa lAa1 lAa2 cSu lSu lSu1 lSu2
      go_loopw [12] (fun i wr => ∃ k : Nat, k ≤ l.length ∧ i = .int .i64 k ∧ Hid (wr.heap[w.heap.size]? = some (.cells #[.int .i64 x.num, .int .i64 x.den] 24 (0, 0))) ∧ Below w.heap.size w wr) (fun i _ => l.length - (intOf i).toNat)
      case atStart => exact ⟨0, Nat.zero_le _, rfl, X, hw9⟩
      case round =>
        clear X
        obtain ⟨k, hk, rfl, X, hw0⟩ := hrel
        have z0 := hw0.size
        by_cases hlt : k < l.length
        · have hlt2 : k < gs.length := by omega
          obtain ⟨b, hb⟩ : ∃ b, gs[k]? = some b := ⟨gs[k], List.getElem?_eq_getElem hlt2⟩
          have HGB := Lib.hid (HG.out b (List.mem_of_getElem? hb)).1
          have HBI := Lib.hid (show (gs.map bR)[k]? = some (bR b) by rw [List.getElem?_map, hb]; rfl)
          have HCM := Lib.hid (cmp_lt (HLOW.out k b hlt hb))
          clear hb
          have i1 : (k : Int) < (gs.length : Int) := by omega
          obtain ⟨g, off, hA, hgB, k0, k1, _, _⟩ := cells4 (HL.out.below hw0 (Nat.le_refl _)) HBI.out
          subst hA
          replace k0 : wr.cell? ⟨g, off + k * 4, none⟩ = some (.int .i64 b.1.num) := k0
          replace k1 : wr.cell? ⟨g, off + k * 4 + 1, none⟩ = some (.int .i64 b.1.den) := k1
          have x0 : wr.cell? ⟨w.heap.size, 0, none⟩ = some (.int .i64 x.num) := cellH X 0
          have x1 : wr.cell? ⟨w.heap.size, 1, none⟩ = some (.int .i64 x.den) := cellH X 1
          go_wp2_with fail
          go_region_held3 (fun w' => w'.cell? ⟨g, off + k * 4, none⟩ = some (.int .i64 b.1.num) ∧ w'.cell? ⟨g, off + k * 4 + 1, none⟩ = some (.int .i64 b.1.den) ∧ w'.cell? ⟨w.heap.size, 0, none⟩ = some (.int .i64 x.num) ∧ w'.cell? ⟨w.heap.size, 1, none⟩ = some (.int .i64 x.den)) (first | with_reducible exact ⟨k0, k1, x0, x1⟩ | go_keep)
            (first | (go_at_call 11; refine (refCmp_is b.1 x (-1) _ HGB.out HX.out HCM.out).mono ?_; rintro e w90 ⟨rfl, hb90⟩; have hw90 : Below w.heap.size w w90 := stepH (by (repeat' (first | with_reducible exact Below.refl _ _ | with_reducible assumption | with_reducible refine Below.drew ?_ | with_reducible refine below_drewN ?_ _ | with_reducible refine Below.setCell ?_ ?_ _ | with_reducible refine Below.alloc ?_ ?_ _ | omega | (simp; done) | (simp; omega)))) hb90; replace X := keepH hb90 (by exact X.out); replace k0 := cellOf hb90 (by first | exact k0 | exact cell_drew k0); replace k1 := cellOf hb90 (by first | exact k1 | exact cell_drew k1); replace x0 := cellOf hb90 (by first | exact x0 | exact cell_drew x0); replace x1 := cellOf hb90 (by first | exact x1 | exact cell_drew x1)))
          all_goals go_wp2_with fail
          go_roundw
          case rel => exact ⟨k + 1, by omega, by go_num, X, by (repeat' (first | with_reducible exact Below.refl _ _ | with_reducible assumption | with_reducible refine Below.drew ?_ | with_reducible refine below_drewN ?_ _ | with_reducible refine Below.setCell ?_ ?_ _ | with_reducible refine Below.alloc ?_ ?_ _ | omega | (simp; done) | (simp; omega)))⟩
          case measure => simp [intOf]; omega
        · obtain rfl : k = l.length := by omega
          by_cases hfull : l.length = gs.length
          · have hq : ((l.length : Int) == (gs.length : Int)) = true := by rw [hfull]; simp
            have cX := cellH X
            obtain ⟨lX, lX1, lX2⟩ := ltH X
            go_wp2_with fail
            go_quiet (fail)
            all_goals go_wp2_with fail
            all_goals go_ret
            all_goals exact ⟨rfl, by (repeat' (first | with_reducible exact Below.refl _ _ | with_reducible assumption | with_reducible refine Below.drew ?_ | with_reducible refine below_drewN ?_ _ | with_reducible refine Below.setCell ?_ ?_ _ | with_reducible refine Below.alloc ?_ ?_ _ | omega | (simp; done) | (simp; omega)))⟩
          · have hq : ((l.length : Int) == (gs.length : Int)) = false := beq_false_of_ne (by omega)
            have hlt2 : l.length < gs.length := by omega
            obtain ⟨b, hb⟩ : ∃ b, gs[l.length]? = some b := ⟨gs[l.length], List.getElem?_eq_getElem hlt2⟩
            have HGB := Lib.hid (HG.out b (List.mem_of_getElem? hb)).1
            have HBI := Lib.hid (show (gs.map bR)[l.length]? = some (bR b) by rw [List.getElem?_map, hb]; rfl)
            obtain ⟨cc, hcc, hc0⟩ : ∃ cc, cmpQ b.1 x = cc ∧ 0 ≤ cc := ⟨_, rfl, cmp_ge (Rat.not_lt.2 (HUP.out b hb))⟩
            have HCM := Lib.hid hcc
            clear hb hcc
            have i1 : (l.length : Int) < (gs.length : Int) := by omega
            obtain ⟨g, off, hA, hgB, k0, k1, _, _⟩ := cells4 (HL.out.below hw0 (Nat.le_refl _)) HBI.out
            subst hA
            replace k0 : wr.cell? ⟨g, off + l.length * 4, none⟩ = some (.int .i64 b.1.num) := k0
            replace k1 : wr.cell? ⟨g, off + l.length * 4 + 1, none⟩ = some (.int .i64 b.1.den) := k1
            have x0 : wr.cell? ⟨w.heap.size, 0, none⟩ = some (.int .i64 x.num) := cellH X 0
            have x1 : wr.cell? ⟨w.heap.size, 1, none⟩ = some (.int .i64 x.den) := cellH X 1
            go_wp2_with fail
            go_region_held3 (fun w' => w'.cell? ⟨g, off + l.length * 4, none⟩ = some (.int .i64 b.1.num) ∧ w'.cell? ⟨g, off + l.length * 4 + 1, none⟩ = some (.int .i64 b.1.den) ∧ w'.cell? ⟨w.heap.size, 0, none⟩ = some (.int .i64 x.num) ∧ w'.cell? ⟨w.heap.size, 1, none⟩ = some (.int .i64 x.den)) (first | with_reducible exact ⟨k0, k1, x0, x1⟩ | go_keep)
              (first | (go_at_call 11; refine (refCmp_is b.1 x cc _ HGB.out HX.out HCM.out).mono ?_; rintro e w90 ⟨rfl, hb90⟩; have hw90 : Below w.heap.size w w90 := stepH (by (repeat' (first | with_reducible exact Below.refl _ _ | with_reducible assumption | with_reducible refine Below.drew ?_ | with_reducible refine below_drewN ?_ _ | with_reducible refine Below.setCell ?_ ?_ _ | with_reducible refine Below.alloc ?_ ?_ _ | omega | (simp; done) | (simp; omega)))) hb90; replace X := keepH hb90 (by exact X.out); replace k0 := cellOf hb90 (by first | exact k0 | exact cell_drew k0); replace k1 := cellOf hb90 (by first | exact k1 | exact cell_drew k1); replace x0 := cellOf hb90 (by first | exact x0 | exact cell_drew x0); replace x1 := cellOf hb90 (by first | exact x1 | exact cell_drew x1)))
            all_goals go_wp2_with fail
            all_goals go_ret
            all_goals exact ⟨rfl, by (repeat' (first | with_reducible exact Below.refl _ _ | with_reducible assumption | with_reducible refine Below.drew ?_ | with_reducible refine below_drewN ?_ _ | with_reducible refine Below.setCell ?_ ?_ _ | with_reducible refine Below.alloc ?_ ?_ _ | omega | (simp; done) | (simp; omega)))⟩

end Go.Proofs.YtaoecddmbhfnmaaDoor
