/- The document's own scale at an amount: walk. -/
import Derived.Test.YtmodofbelpaelaaDoorRef15b
namespace Go.Proofs.YtmodofbelpaelaaDoor
open Go.RowKit

set_option maxRecDepth 100000 in
set_option maxHeartbeats 8000000 in
theorem refAt15_any (s : List BI) (A : Option Addr) (c : Nat) (n d : Int) (w : World) (hl : RowAt encR 4 w w.heap.size A s) (hm : s.length ≤ 9223372036854775807) (hI : ∀ b ∈ s, In4 b) (Bn : -9223372036854775808 ≤ n ∧ n ≤ 9223372036854775807) (Bd : -9223372036854775808 ≤ d ∧ d ≤ 9223372036854775807) :
    Calls Tryd.prog 10 #[.slice A s.length c, .agg #[.int .i64 n, .int .i64 d]] w fun e w' =>
      (∃ n' d' cd, e = .returned (.tuple #[.agg #[.int .i64 n', .int .i64 d'], .int .i64 cd]) ∧ ResD (atI s n d) n' d' cd) ∧ Below w.heap.size w w' := by
  have HASK := Lib.hid (fun w' (h : Below w.heap.size w w') => refAsk15_any s A c n d w' ((hl.below h (Nat.le_refl _)).more h.size) hm hI Bn Bd)
  cases hs : askE s n d
  · obtain ⟨hs1, hv⟩ := askE_none hs
    obtain ⟨gs, rfl, hgood, hlen, hpos, _⟩ := scaleE_none hs1
    obtain ⟨x, hx, rfl, rfl⟩ := good_of_validB hv
    have HATI := Lib.hid (atI_good hs)
    rw [List.length_map] at *
    have HS := Lib.hid hs
    have HG := Lib.hid hgood
    have HL := Lib.hid hl
    have HX := Lib.hid hx
    clear hs hs1 hv hI hgood hl hx hm Bn Bd
    go_enter Tryd.func10, Tryd.ntmps10
    go_wp2_with fail
    refine (HASK.out _ (by (repeat' (first | with_reducible exact Below.refl _ _ | with_reducible assumption | with_reducible refine Below.drew ?_ | with_reducible refine below_drewN ?_ _ | with_reducible refine Below.setCell ?_ ?_ _ | with_reducible refine Below.alloc ?_ ?_ _ | omega | (simp; done) | (simp; omega))))).mono ?_
    rintro e w1 ⟨rfl, hb1⟩
    have hw1 : Below w.heap.size w w1 := stepH (by (repeat' (first | with_reducible exact Below.refl _ _ | with_reducible assumption | with_reducible refine Below.drew ?_ | with_reducible refine below_drewN ?_ _ | with_reducible refine Below.setCell ?_ ?_ _ | with_reducible refine Below.alloc ?_ ?_ _ | omega | (simp; done) | (simp; omega)))) hb1
    rw [HS.out]
    unfold codeE
    have X := keepH hb1 (g := w.heap.size) (blk_old (blk_new rfl))
    have R4 := keepH hb1 (g := w.heap.size + 1) (blk_new (by simp))
    have z1 := hw1.size
    clear hb1
    have cX := cellH X
    obtain ⟨lX, lX1, lX2⟩ := ltH X
    have cR4 := cellH R4
    obtain ⟨lR4, lR41, lR42⟩ := ltH R4
    go_wp2_with fail
    refine (refZero_any _).mono ?_
    rintro e w2 ⟨rfl, hb2⟩
    have hw2 : Below w.heap.size w w2 := stepH (by (repeat' (first | with_reducible exact Below.refl _ _ | with_reducible assumption | with_reducible refine Below.drew ?_ | with_reducible refine below_drewN ?_ _ | with_reducible refine Below.setCell ?_ ?_ _ | with_reducible refine Below.alloc ?_ ?_ _ | omega | (simp; done) | (simp; omega)))) hb2
    replace X := keepH hb2 X.out
    replace R4 := keepH hb2 R4.out
    have z2 := hw2.size
    clear hb2 hw1 z1
    clear cX lX lX1 lX2 cR4 lR4 lR41 lR42
    have cX := cellH X
    obtain ⟨lX, lX1, lX2⟩ := ltH X
    have cR4 := cellH R4
    obtain ⟨lR4, lR41, lR42⟩ := ltH R4
    have hz2 : w.heap.size + 1 < w2.heap.size := lt_of_H R4
    go_wp2_with fail
    have hw3 : Below w.heap.size w (w2.alloc (.cells #[.int .i64 0, .int .i64 1] 29)) := by (repeat' (first | with_reducible exact Below.refl _ _ | with_reducible assumption | with_reducible refine Below.drew ?_ | with_reducible refine below_drewN ?_ _ | with_reducible refine Below.setCell ?_ ?_ _ | with_reducible refine Below.alloc ?_ ?_ _ | omega | (simp; done) | (simp; omega)))
    replace X : Hid ((w2.alloc (.cells #[.int .i64 0, .int .i64 1] 29)).heap[w.heap.size]? = some (.cells #[.int .i64 x.num, .int .i64 x.den] 29 (0, 0))) := (blk_old X.out)
    replace R4 : Hid ((w2.alloc (.cells #[.int .i64 0, .int .i64 1] 29)).heap[w.heap.size + 1]? = some (.cells #[.int .i64 0, .int .i64 0] 29 (0, 0))) := (blk_old R4.out)
    have Sm : Hid ((w2.alloc (.cells #[.int .i64 0, .int .i64 1] 29)).heap[w2.heap.size]? = some (.cells #[.int .i64 0, .int .i64 1] 29 (0, 0))) := (blk_new rfl)
    clear cX lX lX1 lX2 cR4 lR4 lR41 lR42
    generalize (w2.alloc (.cells #[.int .i64 0, .int .i64 1] 29)) = w3 at *
    have z3 := hw3.size
    have cX := cellH X
    obtain ⟨lX, lX1, lX2⟩ := ltH X
    have cR4 := cellH R4
    obtain ⟨lR4, lR41, lR42⟩ := ltH R4
    have cSm := cellH Sm
    obtain ⟨lSm, lSm1, lSm2⟩ := ltH Sm
    clear cX lX lX1 lX2 cR4 lR4 lR41 lR42 cSm lSm lSm1 lSm2
    go_loopw [8] (fun i wr => ∃ (k : Nat) (q : Rat), k ≤ gs.length ∧ i = .int .i64 k ∧ Hid (foldO 0 (bearsO x gs) = foldO q (bearsO x (gs.drop k))) ∧ Good q ∧ Hid (wr.heap[w2.heap.size]? = some (.cells #[.int .i64 q.num, .int .i64 q.den] 29 (0, 0))) ∧ Hid (wr.heap[w.heap.size]? = some (.cells #[.int .i64 x.num, .int .i64 x.den] 29 (0, 0))) ∧ Hid (wr.heap[w.heap.size + 1]? = some (.cells #[.int .i64 0, .int .i64 0] 29 (0, 0))) ∧ Below w.heap.size w wr) (fun i _ => gs.length - (intOf i).toNat)
    case atStart => exact ⟨0, 0, Nat.zero_le _, rfl, rfl, good_zero, Sm, X, R4, hw3⟩
    case round =>
      clear Sm X R4
      obtain ⟨k, q, hk, rfl, hfo, hgq, Sm, X, R4, hw0⟩ := hrel
      have z0 := hw0.size
      have HQ := Lib.hid hgq
      clear hgq
      have q1 : w2.heap.size ≠ w.heap.size := by omega
      have q2 : w2.heap.size ≠ w.heap.size + 1 := by omega
      have q3 : w.heap.size ≠ w.heap.size + 1 := by omega
      by_cases hlt : k < gs.length
      · obtain ⟨b, hb⟩ : ∃ b, gs[k]? = some b := ⟨gs[k], List.getElem?_eq_getElem hlt⟩
        have HB := Lib.hid hb
        have GB := Lib.hid (HG.out b (List.mem_of_getElem? hb))
        have HD := Lib.hid (drop_cons hb)
        clear hb
        have hdk : decide (k < gs.length) = true := decide_eq_true hlt
        by_cases hbx : b.1 < x
        · have HBX := Lib.hid (decide_eq_true hbx)
          have hle : ¬ x ≤ b.1 := Rat.not_le.2 hbx
          cases hpo : partO b (topQ x (gs.drop (k + 1)))
          · have HPO := Lib.hid (partR_no hpo)
            have HBE := Lib.hid (bears_none (x := x) hle hpo)
            clear hpo hbx hle
            have cSm := cellH Sm
            obtain ⟨lSm, lSm1, lSm2⟩ := ltH Sm
            have fzSm := frozH Sm
            have cX := cellH X
            obtain ⟨lX, lX1, lX2⟩ := ltH X
            have cR4 := cellH R4
            obtain ⟨lR4, lR41, lR42⟩ := ltH R4
            have fzR4 := frozH R4
            go_wp2_with fail
            refine (refAbove_is gs A c k b x true _ ((HL.out.below (by (repeat' (first | with_reducible exact Below.refl _ _ | with_reducible assumption | with_reducible refine Below.drew ?_ | with_reducible refine below_drewN ?_ _ | with_reducible refine Below.setCell ?_ ?_ _ | with_reducible refine Below.alloc ?_ ?_ _ | omega | (simp; done) | (simp; omega)))) (Nat.le_refl _)).more (by first | omega | (simp; omega))) HB.out hlen GB.out.1 HX.out HBX.out).mono ?_
            rintro e w11 ⟨rfl, hb11⟩
            have hw11 : Below w.heap.size w w11 := stepH (by (repeat' (first | with_reducible exact Below.refl _ _ | with_reducible assumption | with_reducible refine Below.drew ?_ | with_reducible refine below_drewN ?_ _ | with_reducible refine Below.setCell ?_ ?_ _ | with_reducible refine Below.alloc ?_ ?_ _ | omega | (simp; done) | (simp; omega)))) hb11
            replace Sm := keepH hb11 Sm.out
            replace X := keepH hb11 X.out
            replace R4 := keepH hb11 R4.out
            have z11 := hw11.size
            clear hb11 hw0 z0
            clear cSm lSm lSm1 lSm2 fzSm cX lX lX1 lX2 cR4 lR4 lR41 lR42 fzR4
            have cSm := cellH Sm
            obtain ⟨lSm, lSm1, lSm2⟩ := ltH Sm
            have fzSm := frozH Sm
            have cX := cellH X
            obtain ⟨lX, lX1, lX2⟩ := ltH X
            have cR4 := cellH R4
            obtain ⟨lR4, lR41, lR42⟩ := ltH R4
            have fzR4 := frozH R4
            go_wp2_with fail
            refine (refPart_any gs A c k b x _ ((HL.out.below (by (repeat' (first | with_reducible exact Below.refl _ _ | with_reducible assumption | with_reducible refine Below.drew ?_ | with_reducible refine below_drewN ?_ _ | with_reducible refine Below.setCell ?_ ?_ _ | with_reducible refine Below.alloc ?_ ?_ _ | omega | (simp; done) | (simp; omega)))) (Nat.le_refl _)).more (by first | omega | (simp; omega))) HB.out hlen HG.out HX.out).mono ?_
            rintro e w12 ⟨⟨n', d', c', rfl, hr⟩, hb12⟩
            have hw12 : Below w.heap.size w w12 := stepH (by (repeat' (first | with_reducible exact Below.refl _ _ | with_reducible assumption | with_reducible refine Below.drew ?_ | with_reducible refine below_drewN ?_ _ | with_reducible refine Below.setCell ?_ ?_ _ | with_reducible refine Below.alloc ?_ ?_ _ | omega | (simp; done) | (simp; omega)))) hb12
            obtain ⟨rfl, rfl, hc3⟩ := resC_no hr HPO.out
            clear hr
            have hcn : (c' != 0) = true := by rcases hc3 with rfl | rfl | rfl <;> decide
            have HC3 := Lib.hid hc3
            clear hc3
            replace Sm := keepH hb12 Sm.out
            replace X := keepH hb12 X.out
            replace R4 := keepH hb12 R4.out
            have z12 := hw12.size
            clear hb12 hw11 z11
            clear cSm lSm lSm1 lSm2 fzSm cX lX lX1 lX2 cR4 lR4 lR41 lR42 fzR4
            have cSm := cellH Sm
            obtain ⟨lSm, lSm1, lSm2⟩ := ltH Sm
            have fzSm := frozH Sm
            have cX := cellH X
            obtain ⟨lX, lX1, lX2⟩ := ltH X
            have cR4 := cellH R4
            obtain ⟨lR4, lR41, lR42⟩ := ltH R4
            have fzR4 := frozH R4
            have HR : Hid (foldO 0 (bearsO x gs) = .error 8) := by have h := hfo.out; rw [HD.out, HBE.out] at h; exact h
            go_wp2_with fail
            refine bodyPost_ret (v := .tuple #[.agg #[.int .i64 0, .int .i64 0], .int .i64 c']) (by simp [results, Tryd.results10, go_sem, cR4, lR4]) rfl ⟨⟨_, _, _, rfl, resD_no (HATI.out.trans HR.out) (by rcases HC3.out with h | h | h <;> omega)⟩, by (repeat' (first | with_reducible exact Below.refl _ _ | with_reducible assumption | with_reducible refine Below.drew ?_ | with_reducible refine below_drewN ?_ _ | with_reducible refine Below.setCell ?_ ?_ _ | with_reducible refine Below.alloc ?_ ?_ _ | omega | (simp; done) | (simp; omega)))⟩
          · rename_i p
            have HPO := Lib.hid (partR_ok hpo)
            have HP := Lib.hid p.2
            have HBE := Lib.hid (bears_some (x := x) hle hpo)
            clear hpo hbx hle
            have cSm := cellH Sm
            obtain ⟨lSm, lSm1, lSm2⟩ := ltH Sm
            have fzSm := frozH Sm
            have cX := cellH X
            obtain ⟨lX, lX1, lX2⟩ := ltH X
            have cR4 := cellH R4
            obtain ⟨lR4, lR41, lR42⟩ := ltH R4
            have fzR4 := frozH R4
            go_wp2_with fail
            refine (refAbove_is gs A c k b x true _ ((HL.out.below (by (repeat' (first | with_reducible exact Below.refl _ _ | with_reducible assumption | with_reducible refine Below.drew ?_ | with_reducible refine below_drewN ?_ _ | with_reducible refine Below.setCell ?_ ?_ _ | with_reducible refine Below.alloc ?_ ?_ _ | omega | (simp; done) | (simp; omega)))) (Nat.le_refl _)).more (by first | omega | (simp; omega))) HB.out hlen GB.out.1 HX.out HBX.out).mono ?_
            rintro e w13 ⟨rfl, hb13⟩
            have hw13 : Below w.heap.size w w13 := stepH (by (repeat' (first | with_reducible exact Below.refl _ _ | with_reducible assumption | with_reducible refine Below.drew ?_ | with_reducible refine below_drewN ?_ _ | with_reducible refine Below.setCell ?_ ?_ _ | with_reducible refine Below.alloc ?_ ?_ _ | omega | (simp; done) | (simp; omega)))) hb13
            replace Sm := keepH hb13 Sm.out
            replace X := keepH hb13 X.out
            replace R4 := keepH hb13 R4.out
            have z13 := hw13.size
            clear hb13 hw0 z0
            clear cSm lSm lSm1 lSm2 fzSm cX lX lX1 lX2 cR4 lR4 lR41 lR42 fzR4
            have cSm := cellH Sm
            obtain ⟨lSm, lSm1, lSm2⟩ := ltH Sm
            have fzSm := frozH Sm
            have cX := cellH X
            obtain ⟨lX, lX1, lX2⟩ := ltH X
            have cR4 := cellH R4
            obtain ⟨lR4, lR41, lR42⟩ := ltH R4
            have fzR4 := frozH R4
            go_wp2_with fail
            refine (refPart_any gs A c k b x _ ((HL.out.below (by (repeat' (first | with_reducible exact Below.refl _ _ | with_reducible assumption | with_reducible refine Below.drew ?_ | with_reducible refine below_drewN ?_ _ | with_reducible refine Below.setCell ?_ ?_ _ | with_reducible refine Below.alloc ?_ ?_ _ | omega | (simp; done) | (simp; omega)))) (Nat.le_refl _)).more (by first | omega | (simp; omega))) HB.out hlen HG.out HX.out).mono ?_
            rintro e w14 ⟨⟨n', d', c', rfl, hr⟩, hb14⟩
            have hw14 : Below w.heap.size w w14 := stepH (by (repeat' (first | with_reducible exact Below.refl _ _ | with_reducible assumption | with_reducible refine Below.drew ?_ | with_reducible refine below_drewN ?_ _ | with_reducible refine Below.setCell ?_ ?_ _ | with_reducible refine Below.alloc ?_ ?_ _ | omega | (simp; done) | (simp; omega)))) hb14
            obtain ⟨rfl, rfl, rfl⟩ := resC_ok hr HPO.out
            clear hr
            replace Sm := keepH hb14 Sm.out
            replace X := keepH hb14 X.out
            replace R4 := keepH hb14 R4.out
            have z14 := hw14.size
            clear hb14 hw13 z13
            clear cSm lSm lSm1 lSm2 fzSm cX lX lX1 lX2 cR4 lR4 lR41 lR42 fzR4
            have cSm := cellH Sm
            obtain ⟨lSm, lSm1, lSm2⟩ := ltH Sm
            have fzSm := frozH Sm
            have cX := cellH X
            obtain ⟨lX, lX1, lX2⟩ := ltH X
            have cR4 := cellH R4
            obtain ⟨lR4, lR41, lR42⟩ := ltH R4
            have fzR4 := frozH R4
            have HFO2 : Hid (foldO 0 (bearsO x gs) = if Good (q + p.1) then foldO (q + p.1) (bearsO x (gs.drop (k + 1))) else .error 8) := by have h := hfo.out; rw [HD.out, HBE.out] at h; exact h
            by_cases g3 : Good (q + p.1)
            · have G3 := Lib.hid g3
              have HF3 : Hid (foldO 0 (bearsO x gs) = foldO (q + p.1) (bearsO x (gs.drop (k + 1)))) := by have h := HFO2.out; rw [if_pos g3] at h; exact h
              clear g3
              go_wp2_with fail
              refine (refAdd_any q p.1 _ HQ.out HP.out).mono ?_
              rintro e w15 ⟨⟨n', d', c', rfl, hr⟩, hb15⟩
              have hw15 : Below w.heap.size w w15 := stepH (by (repeat' (first | with_reducible exact Below.refl _ _ | with_reducible assumption | with_reducible refine Below.drew ?_ | with_reducible refine below_drewN ?_ _ | with_reducible refine Below.setCell ?_ ?_ _ | with_reducible refine Below.alloc ?_ ?_ _ | omega | (simp; done) | (simp; omega)))) hb15
              obtain ⟨rfl, rfl, rfl⟩ := resC_ok hr (goodR_ok (decide_eq_true G3.out))
              clear hr
              replace Sm := keepH hb15 (blk_old Sm.out)
              replace X := keepH hb15 (blk_old X.out)
              replace R4 := keepH hb15 (blk_old R4.out)
              have Pp := keepH hb15 (g := w14.heap.size) (blk_new rfl)
              have z15 := hw15.size
              clear hb15 hw14 z14
              clear cSm lSm lSm1 lSm2 fzSm cX lX lX1 lX2 cR4 lR4 lR41 lR42 fzR4
              have cSm := cellH Sm
              obtain ⟨lSm, lSm1, lSm2⟩ := ltH Sm
              have fzSm := frozH Sm
              have cX := cellH X
              obtain ⟨lX, lX1, lX2⟩ := ltH X
              have cR4 := cellH R4
              obtain ⟨lR4, lR41, lR42⟩ := ltH R4
              have fzR4 := frozH R4
              have cPp := cellH Pp
              obtain ⟨lPp, lPp1, lPp2⟩ := ltH Pp
              go_wp2_with fail
              clear cSm lSm lSm1 lSm2 fzSm cX lX lX1 lX2 cR4 lR4 lR41 lR42 fzR4 cPp lPp lPp1 lPp2
              have hw16 : Below w.heap.size w ((w15.setCell ⟨w2.heap.size, 0, none⟩ (.int .i64 (q + p.1).num)).setCell ⟨w2.heap.size, 1, none⟩ (.int .i64 (q + p.1).den)) := by (repeat' (first | with_reducible exact Below.refl _ _ | with_reducible assumption | with_reducible refine Below.drew ?_ | with_reducible refine below_drewN ?_ _ | with_reducible refine Below.setCell ?_ ?_ _ | with_reducible refine Below.alloc ?_ ?_ _ | omega | (simp; done) | (simp; omega)))
              replace Sm : Hid (((w15.setCell ⟨w2.heap.size, 0, none⟩ (.int .i64 (q + p.1).num)).setCell ⟨w2.heap.size, 1, none⟩ (.int .i64 (q + p.1).den)).heap[w2.heap.size]? = some (.cells #[.int .i64 (q + p.1).num, .int .i64 (q + p.1).den] 29 (0, 0))) := setH2 Sm.out
              replace X : Hid (((w15.setCell ⟨w2.heap.size, 0, none⟩ (.int .i64 (q + p.1).num)).setCell ⟨w2.heap.size, 1, none⟩ (.int .i64 (q + p.1).den)).heap[w.heap.size]? = some (.cells #[.int .i64 x.num, .int .i64 x.den] 29 (0, 0))) := setH2o X (by first | assumption | omega)
              replace R4 : Hid (((w15.setCell ⟨w2.heap.size, 0, none⟩ (.int .i64 (q + p.1).num)).setCell ⟨w2.heap.size, 1, none⟩ (.int .i64 (q + p.1).den)).heap[w.heap.size + 1]? = some (.cells #[.int .i64 0, .int .i64 0] 29 (0, 0))) := setH2o R4 (by first | assumption | omega)
              generalize ((w15.setCell ⟨w2.heap.size, 0, none⟩ (.int .i64 (q + p.1).num)).setCell ⟨w2.heap.size, 1, none⟩ (.int .i64 (q + p.1).den)) = w16 at *
              have z16 := hw16.size
              have cSm := cellH Sm
              obtain ⟨lSm, lSm1, lSm2⟩ := ltH Sm
              have fzSm := frozH Sm
              have cX := cellH X
              obtain ⟨lX, lX1, lX2⟩ := ltH X
              have cR4 := cellH R4
              obtain ⟨lR4, lR41, lR42⟩ := ltH R4
              have fzR4 := frozH R4
              go_roundw
              case rel => exact ⟨k + 1, q + p.1, by omega, by go_num, HF3, G3.out, Sm, X, R4, hw16⟩
              case measure => simp [intOf]; omega
            · have G3 := Lib.hid g3
              have HR : Hid (foldO 0 (bearsO x gs) = .error 8) := by have h := HFO2.out; rw [if_neg g3] at h; exact h
              clear g3
              go_wp2_with fail
              refine (refAdd_any q p.1 _ HQ.out HP.out).mono ?_
              rintro e w17 ⟨⟨n', d', c', rfl, hr⟩, hb17⟩
              have hw17 : Below w.heap.size w w17 := stepH (by (repeat' (first | with_reducible exact Below.refl _ _ | with_reducible assumption | with_reducible refine Below.drew ?_ | with_reducible refine below_drewN ?_ _ | with_reducible refine Below.setCell ?_ ?_ _ | with_reducible refine Below.alloc ?_ ?_ _ | omega | (simp; done) | (simp; omega)))) hb17
              obtain ⟨rfl, rfl, hc3⟩ := resC_no hr (goodR_no (decide_eq_false G3.out))
              clear hr
              have hcn : (c' != 0) = true := by rcases hc3 with rfl | rfl | rfl <;> decide
              have HC3 := Lib.hid hc3
              clear hc3
              replace Sm := keepH hb17 (blk_old Sm.out)
              replace X := keepH hb17 (blk_old X.out)
              replace R4 := keepH hb17 (blk_old R4.out)
              have Pp := keepH hb17 (g := w14.heap.size) (blk_new rfl)
              have z17 := hw17.size
              clear hb17 hw14 z14
              clear cSm lSm lSm1 lSm2 fzSm cX lX lX1 lX2 cR4 lR4 lR41 lR42 fzR4
              have cSm := cellH Sm
              obtain ⟨lSm, lSm1, lSm2⟩ := ltH Sm
              have fzSm := frozH Sm
              have cX := cellH X
              obtain ⟨lX, lX1, lX2⟩ := ltH X
              have cR4 := cellH R4
              obtain ⟨lR4, lR41, lR42⟩ := ltH R4
              have fzR4 := frozH R4
              have cPp := cellH Pp
              obtain ⟨lPp, lPp1, lPp2⟩ := ltH Pp
              go_wp2_with fail
              refine bodyPost_ret (v := .tuple #[.agg #[.int .i64 0, .int .i64 0], .int .i64 c']) (by simp [results, Tryd.results10, go_sem, cR4]) rfl ⟨⟨_, _, _, rfl, resD_no (HATI.out.trans HR.out) (by rcases HC3.out with h | h | h <;> omega)⟩, by (repeat' (first | with_reducible exact Below.refl _ _ | with_reducible assumption | with_reducible refine Below.drew ?_ | with_reducible refine below_drewN ?_ _ | with_reducible refine Below.setCell ?_ ?_ _ | with_reducible refine Below.alloc ?_ ?_ _ | omega | (simp; done) | (simp; omega)))⟩
        · have HBX := Lib.hid (decide_eq_false hbx)
          have HR : Hid (atI (gs.map bR) x.num x.den = .ok q) := by show _ = _; rw [HATI.out, hfo.out, HD.out, bears_stop (Rat.not_lt.1 hbx)]; rfl
          clear hbx
          have cSm := cellH Sm
          obtain ⟨lSm, lSm1, lSm2⟩ := ltH Sm
          have fzSm := frozH Sm
          have cX := cellH X
          obtain ⟨lX, lX1, lX2⟩ := ltH X
          have cR4 := cellH R4
          obtain ⟨lR4, lR41, lR42⟩ := ltH R4
          have fzR4 := frozH R4
          go_wp2_with fail
          refine (refAbove_is gs A c k b x false _ ((HL.out.below (by (repeat' (first | with_reducible exact Below.refl _ _ | with_reducible assumption | with_reducible refine Below.drew ?_ | with_reducible refine below_drewN ?_ _ | with_reducible refine Below.setCell ?_ ?_ _ | with_reducible refine Below.alloc ?_ ?_ _ | omega | (simp; done) | (simp; omega)))) (Nat.le_refl _)).more (by first | omega | (simp; omega))) HB.out hlen GB.out.1 HX.out HBX.out).mono ?_
          rintro e w18 ⟨rfl, hb18⟩
          have hw18 : Below w.heap.size w w18 := stepH (by (repeat' (first | with_reducible exact Below.refl _ _ | with_reducible assumption | with_reducible refine Below.drew ?_ | with_reducible refine below_drewN ?_ _ | with_reducible refine Below.setCell ?_ ?_ _ | with_reducible refine Below.alloc ?_ ?_ _ | omega | (simp; done) | (simp; omega)))) hb18
          replace Sm := keepH hb18 Sm.out
          replace X := keepH hb18 X.out
          replace R4 := keepH hb18 R4.out
          have z18 := hw18.size
          clear hb18 hw0 z0
          clear cSm lSm lSm1 lSm2 fzSm cX lX lX1 lX2 cR4 lR4 lR41 lR42 fzR4
          have cSm := cellH Sm
          obtain ⟨lSm, lSm1, lSm2⟩ := ltH Sm
          have fzSm := frozH Sm
          have cX := cellH X
          obtain ⟨lX, lX1, lX2⟩ := ltH X
          have cR4 := cellH R4
          obtain ⟨lR4, lR41, lR42⟩ := ltH R4
          have fzR4 := frozH R4
          go_wp2_with fail
          refine bodyPost_ret (v := .tuple #[.agg #[.int .i64 q.num, .int .i64 q.den], .int .i64 0]) (by simp [results, Tryd.results10, go_sem, cR4]) rfl ⟨⟨_, _, _, rfl, resD_ok HR.out⟩, by (repeat' (first | with_reducible exact Below.refl _ _ | with_reducible assumption | with_reducible refine Below.drew ?_ | with_reducible refine below_drewN ?_ _ | with_reducible refine Below.setCell ?_ ?_ _ | with_reducible refine Below.alloc ?_ ?_ _ | omega | (simp; done) | (simp; omega)))⟩
      · obtain rfl : k = gs.length := by omega
        have HR : Hid (atI (gs.map bR) x.num x.den = .ok q) := by show _ = _; rw [HATI.out, hfo.out, List.drop_length]; rfl
        have cSm := cellH Sm
        obtain ⟨lSm, lSm1, lSm2⟩ := ltH Sm
        have fzSm := frozH Sm
        have cX := cellH X
        obtain ⟨lX, lX1, lX2⟩ := ltH X
        have cR4 := cellH R4
        obtain ⟨lR4, lR41, lR42⟩ := ltH R4
        have fzR4 := frozH R4
        go_wp2_with fail
        refine bodyPost_ret (v := .tuple #[.agg #[.int .i64 q.num, .int .i64 q.den], .int .i64 0]) (by simp [results, Tryd.results10, go_sem, cR4]) rfl ⟨⟨_, _, _, rfl, resD_ok HR.out⟩, by (repeat' (first | with_reducible exact Below.refl _ _ | with_reducible assumption | with_reducible refine Below.drew ?_ | with_reducible refine below_drewN ?_ _ | with_reducible refine Below.setCell ?_ ?_ _ | with_reducible refine Below.alloc ?_ ?_ _ | omega | (simp; done) | (simp; omega)))⟩
  · rename_i g
    have HS := Lib.hid hs
    clear hs
    obtain ⟨cd, hcd⟩ : ∃ cd, codeE (some g) = cd := ⟨_, rfl⟩
    have hc0 : cd ≠ 0 := by rw [← hcd]; exact codeE_ne
    have hne : (cd != 0) = true := bne_iff_ne.2 hc0
    have HC0 := Lib.hid hc0
    have HCD := Lib.hid hcd
    clear hcd hc0
    go_enter Tryd.func10, Tryd.ntmps10
    go_wp2_with fail
    refine (HASK.out _ (by (repeat' (first | with_reducible exact Below.refl _ _ | with_reducible assumption | with_reducible refine Below.drew ?_ | with_reducible refine below_drewN ?_ _ | with_reducible refine Below.setCell ?_ ?_ _ | with_reducible refine Below.alloc ?_ ?_ _ | omega | (simp; done) | (simp; omega))))).mono ?_
    rintro e w51 ⟨rfl, hb51⟩
    have hw51 : Below w.heap.size w w51 := stepH (by (repeat' (first | with_reducible exact Below.refl _ _ | with_reducible assumption | with_reducible refine Below.drew ?_ | with_reducible refine below_drewN ?_ _ | with_reducible refine Below.setCell ?_ ?_ _ | with_reducible refine Below.alloc ?_ ?_ _ | omega | (simp; done) | (simp; omega)))) hb51
    rw [HS.out, HCD.out]
    have X := keepH hb51 (g := w.heap.size) (blk_old (blk_new rfl))
    have R4 := keepH hb51 (g := w.heap.size + 1) (blk_new (by simp))
    have z51 := hw51.size
    clear hb51
    have cX := cellH X
    obtain ⟨lX, lX1, lX2⟩ := ltH X
    have cR4 := cellH R4
    obtain ⟨lR4, lR41, lR42⟩ := ltH R4
    have fzR4 := frozH R4
    go_wp2_with fail
    refine bodyPost_ret (v := .tuple #[.agg #[.int .i64 0, .int .i64 0], .int .i64 cd]) (by simp [results, Tryd.results10, go_sem, cR4]) rfl ⟨⟨_, _, _, rfl, resD_no (atI_err HS.out) HC0.out⟩, by (repeat' (first | with_reducible exact Below.refl _ _ | with_reducible assumption | with_reducible refine Below.drew ?_ | with_reducible refine below_drewN ?_ _ | with_reducible refine Below.setCell ?_ ?_ _ | with_reducible refine Below.alloc ?_ ?_ _ | omega | (simp; done) | (simp; omega)))⟩

end Go.Proofs.YtmodofbelpaelaaDoor
