/- The walk of FracBack. -/
import Derived.Deep.DeepCutAuto
import Derived.Test.YtbmkbhclkaopaaaDoorOrder
namespace Go.Proofs.YtbmkbhclkaopaaaDoor
open Go.RowKit

theorem resF_fix (E : Nat → Addr) (r : Except Nat Rat) : ∃ n d err, (∀ n' d' err', ResF E r n' d' err' → n' = n ∧ d' = d ∧ err' = err) ∧ (err = .nilIface ∨ ∃ a, err = .iface 62 (.pointer (some a))) := by
  cases r with
  | ok q => exact ⟨q.num, q.den, .nilIface, fun _ _ _ h => h, .inl rfl⟩
  | error g => exact ⟨0, 0, _, fun _ _ _ h => h, .inr ⟨_, rfl⟩⟩

set_option maxRecDepth 100000 in
set_option maxHeartbeats 8000000 in
theorem fracBack_walk (n1 d1 n2 d2 : Int) (E : Nat → Addr) (w : World) (ln1 : -9223372036854775808 ≤ n1) (un1 : n1 ≤ 9223372036854775807) (ld1 : -9223372036854775808 ≤ d1) (ud1 : d1 ≤ 9223372036854775807) (ln2 : -9223372036854775808 ≤ n2) (un2 : n2 ≤ 9223372036854775807) (ld2 : -9223372036854775808 ≤ d2) (ud2 : d2 ≤ 9223372036854775807) (hE : Env LF E w) :
    Calls Tryd.prog 7 #[.agg #[.int .i64 n1, .int .i64 d1], .agg #[.int .i64 n2, .int .i64 d2]] w fun e w' => e = .returned (.bool true) ∧ Below w.heap.size w w' := by
  have HE : Hid (Env LF E w) := hE
  clear hE
  have V := three_any n1 d1 n2 d2 n1 d1
  cases hv : (validB n1 d1 && validB n2 d2 && validB n1 d1)
  · rw [hv] at V
    clear hv
    have HV := Lib.hid V
    clear V
    go_enter Tryd.func7, Tryd.ntmps7
    go_wp2_with fail
    refine (first_any E _ (HE.out.below (by (repeat (first | exact Below.refl _ _ | assumption | refine Below.drew ?_ | refine below_drewN ?_ _ | refine Below.setCell ?_ (by first | omega | (simp; done) | (simp; omega)) _ | refine Below.alloc ?_ (by first | omega | (simp; done) | (simp; omega)) _))))).mono ?_
    rintro e w1 ⟨rfl, hb1⟩
    have hw1 : Below w.heap.size w w1 := stepH (by (repeat (first | exact Below.refl _ _ | assumption | refine Below.drew ?_ | refine below_drewN ?_ _ | refine Below.setCell ?_ (by first | omega | (simp; done) | (simp; omega)) _ | refine Below.alloc ?_ (by first | omega | (simp; done) | (simp; omega)) _))) hb1
    have A := keepH hb1 (g := w.heap.size) (blk_old (blk_new rfl))
    have B := keepH hb1 (g := w.heap.size + 1) (blk_new (by simp))
    have z1 := hw1.size
    clear hb1
    have cA := cellH A
    obtain ⟨lA, lA1, lA2⟩ := ltH A
    have cB := cellH B
    obtain ⟨lB, lB1, lB2⟩ := ltH B
    go_wp2_with fail
    refine (HV.out _ (by omega) (by omega) (by omega) (by omega) (by omega) (by omega) (by omega) (by omega) (by omega) (by omega) (by omega) (by omega)).mono ?_
    rintro e w2 ⟨rfl, hb2⟩
    have hw2 : Below w.heap.size w w2 := stepH (by (repeat (first | exact Below.refl _ _ | assumption | refine Below.drew ?_ | refine below_drewN ?_ _ | refine Below.setCell ?_ (by first | omega | (simp; done) | (simp; omega)) _ | refine Below.alloc ?_ (by first | omega | (simp; done) | (simp; omega)) _))) hb2
    replace A := keepH hb2 A.out
    replace B := keepH hb2 B.out
    have z2 := hw2.size
    clear hb2 hw1 z1
    clear cA lA lA1 lA2 cB lB lB1 lB2
    have cA := cellH A
    obtain ⟨lA, lA1, lA2⟩ := ltH A
    have cB := cellH B
    obtain ⟨lB, lB1, lB2⟩ := ltH B
    go_wp2_with fail
    go_ret
    exact ⟨rfl, hw2⟩
  · rw [hv] at V
    simp only [Bool.and_eq_true] at hv
    obtain ⟨⟨h1, h2⟩, _⟩ := hv
    obtain ⟨p, hp, rfl, rfl⟩ := good_of_validB h1
    obtain ⟨q, hq, rfl, rfl⟩ := good_of_validB h2
    clear h1 h2
    obtain ⟨a1, a2, a3, a4⟩ := num_le hp
    obtain ⟨b1, b2, b3, b4⟩ := num_le hq
    have g0 : Good 0 := by decide
    have g1 : Good 1 := by decide
    have gn : Good (-p) := by unfold Good; rw [Rat.neg_num, Rat.neg_den]; omega
    have gm : Good (-q) := by unfold Good; rw [Rat.neg_num, Rat.neg_den]; omega
    have ok : ∀ {x y : Rat}, Good y → x = y → goodR x = .ok y := fun {x y} hy e => by rw [e]; unfold goodR; rw [if_pos hy]
    have A1 : Hid (∀ w, Env LF E w → Calls Tryd.prog 24 #[.agg #[.int .i64 p.num, .int .i64 p.den], .agg #[.int .i64 q.num, .int .i64 q.den]] w fun e w' => (∃ n d err, e = .returned (.tuple #[.agg #[.int .i64 n, .int .i64 d], err]) ∧ ResF E (goodR (p + q)) n d err) ∧ Below w.heap.size w w') := by
      have b1 := num_le (hp)
      have b2 := num_le (hq)
      have := fun w => add_any (p).num (p).den (q).num (q).den E w (by omega) (by omega) (by omega) (by omega) (by omega) (by omega) (by omega) (by omega)
      rw [opI_good _ (hp) (hq)] at this; exact this
    have M1 : Hid (∀ w, Env LF E w → Calls Tryd.prog 25 #[.agg #[.int .i64 p.num, .int .i64 p.den], .agg #[.int .i64 q.num, .int .i64 q.den]] w fun e w' => (∃ n d err, e = .returned (.tuple #[.agg #[.int .i64 n, .int .i64 d], err]) ∧ ResF E (goodR (p * q)) n d err) ∧ Below w.heap.size w w') := by
      have b1 := num_le (hp)
      have b2 := num_le (hq)
      have := fun w => mul_any (p).num (p).den (q).num (q).den E w (by omega) (by omega) (by omega) (by omega) (by omega) (by omega) (by omega) (by omega)
      rw [opI_good _ (hp) (hq)] at this; exact this
    have S1 : Hid (∀ w, Env LF E w → Calls Tryd.prog 26 #[.agg #[.int .i64 p.num, .int .i64 p.den], .agg #[.int .i64 q.num, .int .i64 q.den]] w fun e w' => (∃ n d err, e = .returned (.tuple #[.agg #[.int .i64 n, .int .i64 d], err]) ∧ ResF E (goodR (p - q)) n d err) ∧ Below w.heap.size w w') := by
      have b1 := num_le (hp)
      have b2 := num_le (hq)
      have := fun w => sub_any (p).num (p).den (q).num (q).den E w (by omega) (by omega) (by omega) (by omega) (by omega) (by omega) (by omega) (by omega)
      rw [opI_good _ (hp) (hq)] at this; exact this
    have A2 : Hid (∀ w, Env LF E w → Calls Tryd.prog 24 #[.agg #[.int .i64 p.num, .int .i64 p.den], .agg #[.int .i64 (-q.num), .int .i64 q.den]] w fun e w' => (∃ n d err, e = .returned (.tuple #[.agg #[.int .i64 n, .int .i64 d], err]) ∧ ResF E (goodR (p - q)) n d err) ∧ Below w.heap.size w w') := by
      have := fun w => add_any p.num p.den (-q).num (-q).den E w (by omega) (by omega) (by omega) (by omega) (by rw [Rat.neg_num]; omega) (by rw [Rat.neg_num]; omega) (by rw [Rat.neg_den]; omega) (by rw [Rat.neg_den]; omega)
      rw [opI_good _ hp gm] at this
      unfold addR at this
      rw [← Rat.sub_eq_add_neg] at this
      exact this
    have S2 : Hid (Good (p + q) → ∀ w, Env LF E w → Calls Tryd.prog 26 #[.agg #[.int .i64 (p + q).num, .int .i64 (p + q).den], .agg #[.int .i64 q.num, .int .i64 q.den]] w fun e w' => e = .returned (.tuple #[.agg #[.int .i64 p.num, .int .i64 p.den], .nilIface]) ∧ Below w.heap.size w w') := by
      intro hs
      have K : Hid (∀ w, Env LF E w → Calls Tryd.prog 26 #[.agg #[.int .i64 (p + q).num, .int .i64 (p + q).den], .agg #[.int .i64 q.num, .int .i64 q.den]] w fun e w' => e = .returned (.tuple #[.agg #[.int .i64 p.num, .int .i64 p.den], .nilIface]) ∧ Below w.heap.size w w') := by
        intro w hEw
        have b1 := num_le (hs)
        have b2 := num_le (hq)
        have h := sub_any ((p + q)).num ((p + q)).den (q).num (q).den E w (by omega) (by omega) (by omega) (by omega) (by omega) (by omega) (by omega) (by omega) hEw
        rw [opI_good _ (hs) (hq)] at h
        refine h.mono ?_
        rintro e w' ⟨⟨n, d, err, rfl, hr⟩, hb⟩
        obtain ⟨rfl, rfl, rfl⟩ := resF_ok (q := p) hr (ok hp (by grind)) rfl rfl
        exact ⟨rfl, hb⟩
      exact K.out
    have D2 : Hid (Good (p * q) → q.num ≠ 0 → ∀ w, Env LF E w → Calls Tryd.prog 27 #[.agg #[.int .i64 (p * q).num, .int .i64 (p * q).den], .agg #[.int .i64 q.num, .int .i64 q.den]] w fun e w' => e = .returned (.tuple #[.agg #[.int .i64 p.num, .int .i64 p.den], .nilIface]) ∧ Below w.heap.size w w') := by
      intro hs hz
      have hq0 : q ≠ 0 := fun e => hz (Rat.num_eq_zero.2 e)
      have hdv : divR (p * q) q = .ok p := by unfold divR; rw [if_neg hq0]; exact ok hp (by grind)
      have K : Hid (∀ w, Env LF E w → Calls Tryd.prog 27 #[.agg #[.int .i64 (p * q).num, .int .i64 (p * q).den], .agg #[.int .i64 q.num, .int .i64 q.den]] w fun e w' => e = .returned (.tuple #[.agg #[.int .i64 p.num, .int .i64 p.den], .nilIface]) ∧ Below w.heap.size w w') := by
        intro w hEw
        have b1 := num_le (hs)
        have b2 := num_le (hq)
        have h := div_any ((p * q)).num ((p * q)).den (q).num (q).den E w (by omega) (by omega) (by omega) (by omega) (by omega) (by omega) (by omega) (by omega) hEw
        rw [opI_good _ (hs) (hq)] at h
        refine h.mono ?_
        rintro e w' ⟨⟨n, d, err, rfl, hr⟩, hb⟩
        obtain ⟨rfl, rfl, rfl⟩ := resF_ok (q := p) hr (hdv) rfl rfl
        exact ⟨rfl, hb⟩
      exact K.out
    have Z1 : Hid (∀ w, Env LF E w → Calls Tryd.prog 24 #[.agg #[.int .i64 p.num, .int .i64 p.den], .agg #[.int .i64 0, .int .i64 1]] w fun e w' => e = .returned (.tuple #[.agg #[.int .i64 p.num, .int .i64 p.den], .nilIface]) ∧ Below w.heap.size w w') := by
      intro w hEw
      have h := add_any p.num p.den (0 : Rat).num (0 : Rat).den E w (by omega) (by omega) (by omega) (by omega) (by decide) (by decide) (by decide) (by decide) hEw
      rw [opI_good _ hp (g0)] at h
      refine h.mono ?_
      rintro e w' ⟨⟨n, d, err, rfl, hr⟩, hb⟩
      obtain ⟨rfl, rfl, rfl⟩ := resF_ok (q := p) hr (ok hp (by grind)) rfl rfl
      exact ⟨rfl, hb⟩
    have O1 : Hid (∀ w, Env LF E w → Calls Tryd.prog 25 #[.agg #[.int .i64 p.num, .int .i64 p.den], .agg #[.int .i64 1, .int .i64 1]] w fun e w' => e = .returned (.tuple #[.agg #[.int .i64 p.num, .int .i64 p.den], .nilIface]) ∧ Below w.heap.size w w') := by
      intro w hEw
      have h := mul_any p.num p.den (1 : Rat).num (1 : Rat).den E w (by omega) (by omega) (by omega) (by omega) (by decide) (by decide) (by decide) (by decide) hEw
      rw [opI_good _ hp (g1)] at h
      refine h.mono ?_
      rintro e w' ⟨⟨n, d, err, rfl, hr⟩, hb⟩
      obtain ⟨rfl, rfl, rfl⟩ := resF_ok (q := p) hr (ok hp (by grind)) rfl rfl
      exact ⟨rfl, hb⟩
    have N1 : Hid (∀ w, Env LF E w → Calls Tryd.prog 24 #[.agg #[.int .i64 p.num, .int .i64 p.den], .agg #[.int .i64 (-p.num), .int .i64 p.den]] w fun e w' => e = .returned (.tuple #[.agg #[.int .i64 0, .int .i64 1], .nilIface]) ∧ Below w.heap.size w w') := by
      intro w hEw
      have h := add_any p.num p.den (-p).num (-p).den E w (by omega) (by omega) (by omega) (by omega) (by rw [Rat.neg_num]; omega) (by rw [Rat.neg_num]; omega) (by rw [Rat.neg_den]; omega) (by rw [Rat.neg_den]; omega) hEw
      rw [opI_good _ hp (gn)] at h
      refine h.mono ?_
      rintro e w' ⟨⟨n, d, err, rfl, hr⟩, hb⟩
      obtain ⟨rfl, rfl, rfl⟩ := resF_ok (q := 0) hr (ok g0 (by grind)) rfl rfl
      exact ⟨rfl, hb⟩
    have G1 := Lib.hid fun w => neg_good p.num p.den w (by omega) (by omega)
    have G2 := Lib.hid fun w => neg_good q.num q.den w (by omega) (by omega)
    clear ok
    obtain ⟨n0, d0, e0, fx, ec⟩ := resF_fix E (goodR (p - q))
    have SF1 : Hid (∀ w, Env LF E w → Calls Tryd.prog 26 #[.agg #[.int .i64 p.num, .int .i64 p.den], .agg #[.int .i64 q.num, .int .i64 q.den]] w fun e w' => e = .returned (.tuple #[.agg #[.int .i64 n0, .int .i64 d0], e0]) ∧ Below w.heap.size w w') := fun w hE => (S1.out w hE).mono fun e w' ⟨⟨n, d, err, he, hr⟩, hb⟩ => by
      obtain ⟨rfl, rfl, rfl⟩ := fx _ _ _ hr; exact ⟨he, hb⟩
    have SF2 : Hid (∀ w, Env LF E w → Calls Tryd.prog 24 #[.agg #[.int .i64 p.num, .int .i64 p.den], .agg #[.int .i64 (-q.num), .int .i64 q.den]] w fun e w' => e = .returned (.tuple #[.agg #[.int .i64 n0, .int .i64 d0], e0]) ∧ Below w.heap.size w w') := fun w hE => (A2.out w hE).mono fun e w' ⟨⟨n, d, err, he, hr⟩, hb⟩ => by
      obtain ⟨rfl, rfl, rfl⟩ := fx _ _ _ hr; exact ⟨he, hb⟩
    clear fx S1 A2
    have HV := Lib.hid V
    clear V
    go_enter Tryd.func7, Tryd.ntmps7
    go_wp2_with fail
    refine (first_any E _ (HE.out.below (by (repeat (first | exact Below.refl _ _ | assumption | refine Below.drew ?_ | refine below_drewN ?_ _ | refine Below.setCell ?_ (by first | omega | (simp; done) | (simp; omega)) _ | refine Below.alloc ?_ (by first | omega | (simp; done) | (simp; omega)) _))))).mono ?_
    rintro e w1 ⟨rfl, hb1⟩
    have hw1 : Below w.heap.size w w1 := stepH (by (repeat (first | exact Below.refl _ _ | assumption | refine Below.drew ?_ | refine below_drewN ?_ _ | refine Below.setCell ?_ (by first | omega | (simp; done) | (simp; omega)) _ | refine Below.alloc ?_ (by first | omega | (simp; done) | (simp; omega)) _))) hb1
    have A := keepH hb1 (g := w.heap.size) (blk_old (blk_new rfl))
    have B := keepH hb1 (g := w.heap.size + 1) (blk_new (by simp))
    have z1 := hw1.size
    clear hb1
    have cA := cellH A
    obtain ⟨lA, lA1, lA2⟩ := ltH A
    have cB := cellH B
    obtain ⟨lB, lB1, lB2⟩ := ltH B
    go_wp2_with fail
    refine (HV.out _ (by omega) (by omega) (by omega) (by omega) (by omega) (by omega) (by omega) (by omega) (by omega) (by omega) (by omega) (by omega)).mono ?_
    rintro e w2 ⟨rfl, hb2⟩
    have hw2 : Below w.heap.size w w2 := stepH (by (repeat (first | exact Below.refl _ _ | assumption | refine Below.drew ?_ | refine below_drewN ?_ _ | refine Below.setCell ?_ (by first | omega | (simp; done) | (simp; omega)) _ | refine Below.alloc ?_ (by first | omega | (simp; done) | (simp; omega)) _))) hb2
    replace A := keepH hb2 A.out
    replace B := keepH hb2 B.out
    have z2 := hw2.size
    clear hb2 hw1 z1
    clear cA lA lA1 lA2 cB lB lB1 lB2
    have cA := cellH A
    obtain ⟨lA, lA1, lA2⟩ := ltH A
    have cB := cellH B
    obtain ⟨lB, lB1, lB2⟩ := ltH B
    go_wp2_with fail
    refine (A1.out _ (HE.out.below (by (repeat (first | exact Below.refl _ _ | assumption | refine Below.drew ?_ | refine below_drewN ?_ _ | refine Below.setCell ?_ (by first | omega | (simp; done) | (simp; omega)) _ | refine Below.alloc ?_ (by first | omega | (simp; done) | (simp; omega)) _))))).mono ?_
    rintro e w3 ⟨⟨x1, y1, err1, rfl, hr1⟩, hb3⟩
    have hw3 : Below w.heap.size w w3 := stepH (by (repeat (first | exact Below.refl _ _ | assumption | refine Below.drew ?_ | refine below_drewN ?_ _ | refine Below.setCell ?_ (by first | omega | (simp; done) | (simp; omega)) _ | refine Below.alloc ?_ (by first | omega | (simp; done) | (simp; omega)) _))) hb3
    replace A := keepH hb3 A.out
    replace B := keepH hb3 B.out
    have z3 := hw3.size
    clear hb3 hw2 z2
    clear cA lA lA1 lA2 cB lB lB1 lB2
    have cA := cellH A
    obtain ⟨lA, lA1, lA2⟩ := ltH A
    have cB := cellH B
    obtain ⟨lB, lB1, lB2⟩ := ltH B
    have R1 := Lib.hid hr1
    clear hr1
    go_upto_region 6 with fail
    go_cut [45] (fun s45 wx => (∃ b : Bool, s45 = .bool b ∧ (b = true → Hid (Good (p + q) ∧ x1 = (p + q).num ∧ y1 = (p + q).den))) ∧ Below w.heap.size w wx ∧ Hid (wx.heap[w.heap.size]? = some (.cells #[.int .i64 p.num, .int .i64 p.den] 23 (0, 0))) ∧ Hid (wx.heap[w.heap.size + 1]? = some (.cells #[.int .i64 q.num, .int .i64 q.den] 23 (0, 0))) ∧ Hid (wx.heap[w3.heap.size]? = some (.cells #[.int .i64 x1, .int .i64 y1] 23 (0, 0))))
    case first =>
      rcases resF_cases R1.out with ⟨gg, e1, e2, rfl⟩ | ⟨z1, z2, rfl⟩
      · have K := Lib.hid (And.intro gg (And.intro e1 e2))
        clear gg e1 e2
        go_wp2_with fail
        go_meet
        exact ⟨⟨true, rfl, fun _ => K⟩, (by (repeat (first | exact Below.refl _ _ | assumption | refine Below.drew ?_ | refine below_drewN ?_ _ | refine Below.setCell ?_ (by first | omega | (simp; done) | (simp; omega)) _ | refine Below.alloc ?_ (by first | omega | (simp; done) | (simp; omega)) _))), (blk_old A.out), (blk_old B.out), (blk_new rfl)⟩
      · clear z1 z2
        go_wp2_with fail
        go_meet
        exact ⟨⟨false, rfl, fun h => by cases h⟩, (by (repeat (first | exact Below.refl _ _ | assumption | refine Below.drew ?_ | refine below_drewN ?_ _ | refine Below.setCell ?_ (by first | omega | (simp; done) | (simp; omega)) _ | refine Below.alloc ?_ (by first | omega | (simp; done) | (simp; omega)) _))), (blk_old A.out), (blk_old B.out), (blk_new rfl)⟩
    case rest =>
      as_aux_lemma =>
        clear cA lA lA1 lA2 cB lB lB1 lB2
        clear A B
        obtain ⟨⟨b, rfl, hbt⟩, hw4, A, B, X⟩ := hcut
        obtain ⟨w4, rfl⟩ : ∃ x : World, x = wc := ⟨_, rfl⟩
        have z4 := hw4.size
        have cA := cellH A
        obtain ⟨lA, lA1, lA2⟩ := ltH A
        have cB := cellH B
        obtain ⟨lB, lB1, lB2⟩ := ltH B
        have cX := cellH X
        obtain ⟨lX, lX1, lX2⟩ := ltH X
        clear R1
        go_upto_if 45 with fail
        go_cut [] (fun  wx => Below w.heap.size w wx ∧ Hid (wx.heap[w.heap.size]? = some (.cells #[.int .i64 p.num, .int .i64 p.den] 23 (0, 0))) ∧ Hid (wx.heap[w.heap.size + 1]? = some (.cells #[.int .i64 q.num, .int .i64 q.den] 23 (0, 0))) ∧ Hid (wx.heap[w3.heap.size]? = some (.cells #[.int .i64 x1, .int .i64 y1] 23 (0, 0))))
        case first =>
          cases b
          · clear hbt
            go_wp2_with fail
            go_meet
            exact ⟨(by (repeat (first | exact Below.refl _ _ | assumption | refine Below.drew ?_ | refine below_drewN ?_ _ | refine Below.setCell ?_ (by first | omega | (simp; done) | (simp; omega)) _ | refine Below.alloc ?_ (by first | omega | (simp; done) | (simp; omega)) _))), A, B, X⟩
          · obtain ⟨gg, rfl, rfl⟩ := (hbt rfl).out
            clear hbt
            go_wp2_with fail
            refine (S2.out gg _ (HE.out.below (by (repeat (first | exact Below.refl _ _ | assumption | refine Below.drew ?_ | refine below_drewN ?_ _ | refine Below.setCell ?_ (by first | omega | (simp; done) | (simp; omega)) _ | refine Below.alloc ?_ (by first | omega | (simp; done) | (simp; omega)) _))))).mono ?_
            rintro e w5 ⟨rfl, hb5⟩
            have hw5 : Below w.heap.size w w5 := stepH (by (repeat (first | exact Below.refl _ _ | assumption | refine Below.drew ?_ | refine below_drewN ?_ _ | refine Below.setCell ?_ (by first | omega | (simp; done) | (simp; omega)) _ | refine Below.alloc ?_ (by first | omega | (simp; done) | (simp; omega)) _))) hb5
            replace A := keepH hb5 A.out
            replace B := keepH hb5 B.out
            replace X := keepH hb5 X.out
            have z5 := hw5.size
            clear hb5 hw4 z4
            clear cA lA lA1 lA2 cB lB lB1 lB2 cX lX lX1 lX2
            have cA := cellH A
            obtain ⟨lA, lA1, lA2⟩ := ltH A
            have cB := cellH B
            obtain ⟨lB, lB1, lB2⟩ := ltH B
            have cX := cellH X
            obtain ⟨lX, lX1, lX2⟩ := ltH X
            go_wp2_with fail
            refine (first_same _ _ _).mono ?_
            rintro e w6 ⟨rfl, hb6⟩
            have hw6 : Below w.heap.size w w6 := stepH (by (repeat (first | exact Below.refl _ _ | assumption | refine Below.drew ?_ | refine below_drewN ?_ _ | refine Below.setCell ?_ (by first | omega | (simp; done) | (simp; omega)) _ | refine Below.alloc ?_ (by first | omega | (simp; done) | (simp; omega)) _))) hb6
            replace A := keepH hb6 (blk_old A.out)
            replace B := keepH hb6 (blk_old B.out)
            replace X := keepH hb6 (blk_old X.out)
            have D := keepH hb6 (g := w5.heap.size) (blk_new rfl)
            have z6 := hw6.size
            clear hb6 hw5 z5
            clear cA lA lA1 lA2 cB lB lB1 lB2 cX lX lX1 lX2
            have cA := cellH A
            obtain ⟨lA, lA1, lA2⟩ := ltH A
            have cB := cellH B
            obtain ⟨lB, lB1, lB2⟩ := ltH B
            have cX := cellH X
            obtain ⟨lX, lX1, lX2⟩ := ltH X
            have cD := cellH D
            obtain ⟨lD, lD1, lD2⟩ := ltH D
            go_wp2_with fail
            go_meet
            exact ⟨(by (repeat (first | exact Below.refl _ _ | assumption | refine Below.drew ?_ | refine below_drewN ?_ _ | refine Below.setCell ?_ (by first | omega | (simp; done) | (simp; omega)) _ | refine Below.alloc ?_ (by first | omega | (simp; done) | (simp; omega)) _))), A, B, X⟩
        case rest =>
          as_aux_lemma =>
            clear cA lA lA1 lA2 cB lB lB1 lB2 cX lX lX1 lX2
            clear A B X
            obtain ⟨hw7, A, B, X⟩ := hcut
            obtain ⟨w7, rfl⟩ : ∃ x : World, x = wc := ⟨_, rfl⟩
            have z7 := hw7.size
            have cA := cellH A
            obtain ⟨lA, lA1, lA2⟩ := ltH A
            have cB := cellH B
            obtain ⟨lB, lB1, lB2⟩ := ltH B
            have cX := cellH X
            obtain ⟨lX, lX1, lX2⟩ := ltH X
            clear hbt
            go_wp2_with fail
            refine (M1.out _ (HE.out.below (by (repeat (first | exact Below.refl _ _ | assumption | refine Below.drew ?_ | refine below_drewN ?_ _ | refine Below.setCell ?_ (by first | omega | (simp; done) | (simp; omega)) _ | refine Below.alloc ?_ (by first | omega | (simp; done) | (simp; omega)) _))))).mono ?_
            rintro e w8 ⟨⟨x1, y1, err2, rfl, hr1⟩, hb8⟩
            have hw8 : Below w.heap.size w w8 := stepH (by (repeat (first | exact Below.refl _ _ | assumption | refine Below.drew ?_ | refine below_drewN ?_ _ | refine Below.setCell ?_ (by first | omega | (simp; done) | (simp; omega)) _ | refine Below.alloc ?_ (by first | omega | (simp; done) | (simp; omega)) _))) hb8
            replace A := keepH hb8 A.out
            replace B := keepH hb8 B.out
            have z8 := hw8.size
            clear hb8 hw7 z7
            clear cA lA lA1 lA2 cB lB lB1 lB2 cX lX lX1 lX2
            have cA := cellH A
            obtain ⟨lA, lA1, lA2⟩ := ltH A
            have cB := cellH B
            obtain ⟨lB, lB1, lB2⟩ := ltH B
            have R1 := Lib.hid hr1
            clear hr1
            go_upto_region 11 with fail
            go_cut [72] (fun s72 wx => (∃ b : Bool, s72 = .bool b ∧ (b = true → Hid (Good (p * q) ∧ q.num ≠ 0 ∧ x1 = (p * q).num ∧ y1 = (p * q).den))) ∧ Below w.heap.size w wx ∧ Hid (wx.heap[w.heap.size]? = some (.cells #[.int .i64 p.num, .int .i64 p.den] 23 (0, 0))) ∧ Hid (wx.heap[w.heap.size + 1]? = some (.cells #[.int .i64 q.num, .int .i64 q.den] 23 (0, 0))) ∧ Hid (wx.heap[w8.heap.size]? = some (.cells #[.int .i64 x1, .int .i64 y1] 23 (0, 0))))
            case first =>
              rcases resF_cases R1.out with ⟨gg, e1, e2, rfl⟩ | ⟨z1, z2, rfl⟩
              · have K := Lib.hid (And.intro gg (And.intro e1 e2))
                clear gg e1 e2
                by_cases hz : q.num = 0
                · have hz1 : (q.num != 0) = false := by simpa using hz
                  clear hz
                  go_wp2_with fail
                  go_meet
                  exact ⟨⟨false, rfl, fun h => by cases h⟩, (by (repeat (first | exact Below.refl _ _ | assumption | refine Below.drew ?_ | refine below_drewN ?_ _ | refine Below.setCell ?_ (by first | omega | (simp; done) | (simp; omega)) _ | refine Below.alloc ?_ (by first | omega | (simp; done) | (simp; omega)) _))), (blk_old A.out), (blk_old B.out), (blk_new rfl)⟩
                · have hz1 : (q.num != 0) = true := by simpa using hz
                  go_wp2_with fail
                  go_meet
                  exact ⟨⟨true, rfl, fun _ => ⟨K.out.1, hz, K.out.2⟩⟩, (by (repeat (first | exact Below.refl _ _ | assumption | refine Below.drew ?_ | refine below_drewN ?_ _ | refine Below.setCell ?_ (by first | omega | (simp; done) | (simp; omega)) _ | refine Below.alloc ?_ (by first | omega | (simp; done) | (simp; omega)) _))), (blk_old A.out), (blk_old B.out), (blk_new rfl)⟩
              · clear z1 z2
                go_wp2_with fail
                go_meet
                exact ⟨⟨false, rfl, fun h => by cases h⟩, (by (repeat (first | exact Below.refl _ _ | assumption | refine Below.drew ?_ | refine below_drewN ?_ _ | refine Below.setCell ?_ (by first | omega | (simp; done) | (simp; omega)) _ | refine Below.alloc ?_ (by first | omega | (simp; done) | (simp; omega)) _))), (blk_old A.out), (blk_old B.out), (blk_new rfl)⟩
            case rest =>
              as_aux_lemma =>
                clear cA lA lA1 lA2 cB lB lB1 lB2
                clear A B
                obtain ⟨⟨b, rfl, hbt⟩, hw9, A, B, X⟩ := hcut
                obtain ⟨w9, rfl⟩ : ∃ x : World, x = wc := ⟨_, rfl⟩
                have z9 := hw9.size
                have cA := cellH A
                obtain ⟨lA, lA1, lA2⟩ := ltH A
                have cB := cellH B
                obtain ⟨lB, lB1, lB2⟩ := ltH B
                have cX := cellH X
                obtain ⟨lX, lX1, lX2⟩ := ltH X
                clear R1
                go_upto_if 72 with fail
                go_cut [] (fun  wx => Below w.heap.size w wx ∧ Hid (wx.heap[w.heap.size]? = some (.cells #[.int .i64 p.num, .int .i64 p.den] 23 (0, 0))) ∧ Hid (wx.heap[w.heap.size + 1]? = some (.cells #[.int .i64 q.num, .int .i64 q.den] 23 (0, 0))) ∧ Hid (wx.heap[w8.heap.size]? = some (.cells #[.int .i64 x1, .int .i64 y1] 23 (0, 0))))
                case first =>
                  cases b
                  · clear hbt
                    go_wp2_with fail
                    go_meet
                    exact ⟨(by (repeat (first | exact Below.refl _ _ | assumption | refine Below.drew ?_ | refine below_drewN ?_ _ | refine Below.setCell ?_ (by first | omega | (simp; done) | (simp; omega)) _ | refine Below.alloc ?_ (by first | omega | (simp; done) | (simp; omega)) _))), A, B, X⟩
                  · obtain ⟨gg, hz, rfl, rfl⟩ := (hbt rfl).out
                    clear hbt
                    go_wp2_with fail
                    refine (D2.out gg hz _ (HE.out.below (by (repeat (first | exact Below.refl _ _ | assumption | refine Below.drew ?_ | refine below_drewN ?_ _ | refine Below.setCell ?_ (by first | omega | (simp; done) | (simp; omega)) _ | refine Below.alloc ?_ (by first | omega | (simp; done) | (simp; omega)) _))))).mono ?_
                    rintro e w10 ⟨rfl, hb10⟩
                    have hw10 : Below w.heap.size w w10 := stepH (by (repeat (first | exact Below.refl _ _ | assumption | refine Below.drew ?_ | refine below_drewN ?_ _ | refine Below.setCell ?_ (by first | omega | (simp; done) | (simp; omega)) _ | refine Below.alloc ?_ (by first | omega | (simp; done) | (simp; omega)) _))) hb10
                    replace A := keepH hb10 A.out
                    replace B := keepH hb10 B.out
                    replace X := keepH hb10 X.out
                    have z10 := hw10.size
                    clear hb10 hw9 z9
                    clear cA lA lA1 lA2 cB lB lB1 lB2 cX lX lX1 lX2
                    have cA := cellH A
                    obtain ⟨lA, lA1, lA2⟩ := ltH A
                    have cB := cellH B
                    obtain ⟨lB, lB1, lB2⟩ := ltH B
                    have cX := cellH X
                    obtain ⟨lX, lX1, lX2⟩ := ltH X
                    go_wp2_with fail
                    refine (first_same _ _ _).mono ?_
                    rintro e w11 ⟨rfl, hb11⟩
                    have hw11 : Below w.heap.size w w11 := stepH (by (repeat (first | exact Below.refl _ _ | assumption | refine Below.drew ?_ | refine below_drewN ?_ _ | refine Below.setCell ?_ (by first | omega | (simp; done) | (simp; omega)) _ | refine Below.alloc ?_ (by first | omega | (simp; done) | (simp; omega)) _))) hb11
                    replace A := keepH hb11 (blk_old A.out)
                    replace B := keepH hb11 (blk_old B.out)
                    replace X := keepH hb11 (blk_old X.out)
                    have D := keepH hb11 (g := w10.heap.size) (blk_new rfl)
                    have z11 := hw11.size
                    clear hb11 hw10 z10
                    clear cA lA lA1 lA2 cB lB lB1 lB2 cX lX lX1 lX2
                    have cA := cellH A
                    obtain ⟨lA, lA1, lA2⟩ := ltH A
                    have cB := cellH B
                    obtain ⟨lB, lB1, lB2⟩ := ltH B
                    have cX := cellH X
                    obtain ⟨lX, lX1, lX2⟩ := ltH X
                    have cD := cellH D
                    obtain ⟨lD, lD1, lD2⟩ := ltH D
                    go_wp2_with fail
                    go_meet
                    exact ⟨(by (repeat (first | exact Below.refl _ _ | assumption | refine Below.drew ?_ | refine below_drewN ?_ _ | refine Below.setCell ?_ (by first | omega | (simp; done) | (simp; omega)) _ | refine Below.alloc ?_ (by first | omega | (simp; done) | (simp; omega)) _))), A, B, X⟩
                case rest =>
                  as_aux_lemma =>
                    clear cA lA lA1 lA2 cB lB lB1 lB2 cX lX lX1 lX2
                    clear A B X
                    obtain ⟨hw12, A, B, X⟩ := hcut
                    obtain ⟨w12, rfl⟩ : ∃ x : World, x = wc := ⟨_, rfl⟩
                    have z12 := hw12.size
                    have cA := cellH A
                    obtain ⟨lA, lA1, lA2⟩ := ltH A
                    have cB := cellH B
                    obtain ⟨lB, lB1, lB2⟩ := ltH B
                    have cX := cellH X
                    obtain ⟨lX, lX1, lX2⟩ := ltH X
                    clear hbt
                    go_upto_region 15 with fail
                    go_cut [15, 16] (fun s15 s16 wx => ∃ g : Nat, s15 = .pointer (some ⟨g, 0, none⟩) ∧ s16 = .nilIface ∧ Below w.heap.size w wx ∧ Hid (wx.heap[w.heap.size]? = some (.cells #[.int .i64 p.num, .int .i64 p.den] 23 (0, 0))) ∧ Hid (wx.heap[w.heap.size + 1]? = some (.cells #[.int .i64 q.num, .int .i64 q.den] 23 (0, 0))) ∧ Hid (wx.heap[g]? = some (.cells #[.int .i64 p.num, .int .i64 p.den] 23 (0, 0))))
                    case first =>
                      as_aux_lemma =>
                        clear cA lA lA1 lA2 cB lB lB1 lB2 cX lX lX1 lX2
                        have kA0 : w12.cell? ⟨w.heap.size, 0, none⟩ = some (.int .i64 p.num) := cellH A 0
                        have kA1 : w12.cell? ⟨w.heap.size, 1, none⟩ = some (.int .i64 p.den) := cellH A 1
                        have lA := lt_of_H A
                        have nA : w.heap.size ≠ w12.heap.size := Nat.ne_of_lt lA
                        have lB := lt_of_H B
                        have nB : w.heap.size + 1 ≠ w12.heap.size := Nat.ne_of_lt lB
                        go_region_held3 (fun w' => w'.cell? ⟨w.heap.size, 0, none⟩ = some (.int .i64 p.num) ∧ w'.cell? ⟨w.heap.size, 1, none⟩ = some (.int .i64 p.den)) (first | with_reducible exact ⟨kA0, kA1⟩ | with_reducible exact ⟨cell_set (cell_set kA0 (by first | assumption | (dsimp only; assumption) | (dsimp only; omega))) (by first | assumption | (dsimp only; assumption) | (dsimp only; omega)), cell_set (cell_set kA1 (by first | assumption | (dsimp only; assumption) | (dsimp only; omega))) (by first | assumption | (dsimp only; assumption) | (dsimp only; omega))⟩ | go_keep)
                          (first | (go_at_call 28; refine (fr_any _ _ _).mono ?_; rintro e w13 ⟨rfl, hb13⟩; have hw13 : Below w.heap.size w w13 := stepH (by (repeat (first | exact Below.refl _ _ | assumption | refine Below.drew ?_ | refine below_drewN ?_ _ | refine Below.setCell ?_ (by first | omega | (simp; done) | (simp; omega)) _ | refine Below.alloc ?_ (by first | omega | (simp; done) | (simp; omega)) _))) hb13; have zw13 := hw13.size; (try (have NB := keepH hb13 (by with_reducible first | exact blk_new rfl | exact drew_old (blk_new rfl) | exact NB.out | exact drew_old NB.out); have cNB := cellH NB; have fNB := frozH NB)); replace A := keepH hb13 (by first | with_reducible exact A.out | with_reducible exact blk_old A.out | with_reducible exact drew_old A.out | with_reducible exact drew_old (blk_old A.out)); replace B := keepH hb13 (by first | with_reducible exact B.out | with_reducible exact blk_old B.out | with_reducible exact drew_old B.out | with_reducible exact drew_old (blk_old B.out)); have kA0 : w13.cell? ⟨w.heap.size, 0, none⟩ = some (.int .i64 p.num) := cellH A 0; have kA1 : w13.cell? ⟨w.heap.size, 1, none⟩ = some (.int .i64 p.den) := cellH A 1; have lA := lt_of_H A; have nA : w.heap.size ≠ w13.heap.size := Nat.ne_of_lt lA; have lB := lt_of_H B; have nB : w.heap.size + 1 ≠ w13.heap.size := Nat.ne_of_lt lB) | (go_at_call 24; refine (Z1.out _ (HE.out.below (by (repeat (first | exact Below.refl _ _ | assumption | refine Below.drew ?_ | refine below_drewN ?_ _ | refine Below.setCell ?_ (by first | omega | (simp; done) | (simp; omega)) _ | refine Below.alloc ?_ (by first | omega | (simp; done) | (simp; omega)) _))))).mono ?_; rintro e w13 ⟨rfl, hb13⟩; have hw13 : Below w.heap.size w w13 := stepH (by (repeat (first | exact Below.refl _ _ | assumption | refine Below.drew ?_ | refine below_drewN ?_ _ | refine Below.setCell ?_ (by first | omega | (simp; done) | (simp; omega)) _ | refine Below.alloc ?_ (by first | omega | (simp; done) | (simp; omega)) _))) hb13; have zw13 := hw13.size; (try (have NB := keepH hb13 (by with_reducible first | exact blk_new rfl | exact drew_old (blk_new rfl) | exact NB.out | exact drew_old NB.out); have cNB := cellH NB; have fNB := frozH NB)); replace A := keepH hb13 (by first | with_reducible exact A.out | with_reducible exact blk_old A.out | with_reducible exact drew_old A.out | with_reducible exact drew_old (blk_old A.out)); replace B := keepH hb13 (by first | with_reducible exact B.out | with_reducible exact blk_old B.out | with_reducible exact drew_old B.out | with_reducible exact drew_old (blk_old B.out)); have kA0 : w13.cell? ⟨w.heap.size, 0, none⟩ = some (.int .i64 p.num) := cellH A 0; have kA1 : w13.cell? ⟨w.heap.size, 1, none⟩ = some (.int .i64 p.den) := cellH A 1; have lA := lt_of_H A; have nA : w.heap.size ≠ w13.heap.size := Nat.ne_of_lt lA; have lB := lt_of_H B; have nB : w.heap.size + 1 ≠ w13.heap.size := Nat.ne_of_lt lB))
                        all_goals go_wp2_with fail
                        all_goals go_meet
                        all_goals exact ⟨_, rfl, rfl, (by (repeat (first | exact Below.refl _ _ | assumption | refine Below.drew ?_ | refine below_drewN ?_ _ | refine Below.setCell ?_ (by first | omega | (simp; done) | (simp; omega)) _ | refine Below.alloc ?_ (by first | omega | (simp; done) | (simp; omega)) _))), (by with_reducible first | exact A | exact setH2o A (by assumption) | exact Lib.hid (blk_old A.out)), (by with_reducible first | exact B | exact setH2o B (by assumption) | exact Lib.hid (blk_old B.out)), (by first | with_reducible exact setH2 NB.out | exact blk_new rfl)⟩
                    case rest =>
                      as_aux_lemma =>
                        clear A B
                        obtain ⟨gZ, rfl, rfl, hw14, A, B, Z⟩ := hcut
                        obtain ⟨w14, rfl⟩ : ∃ x : World, x = wc := ⟨_, rfl⟩
                        have z14 := hw14.size
                        have cA := cellH A
                        obtain ⟨lA, lA1, lA2⟩ := ltH A
                        have cB := cellH B
                        obtain ⟨lB, lB1, lB2⟩ := ltH B
                        have cZ := cellH Z
                        obtain ⟨lZ, lZ1, lZ2⟩ := ltH Z
                        go_upto_region 16 with fail
                        go_cut [17, 18] (fun s17 s18 wx => ∃ g : Nat, s17 = .pointer (some ⟨g, 0, none⟩) ∧ s18 = .nilIface ∧ Below w.heap.size w wx ∧ Hid (wx.heap[w.heap.size]? = some (.cells #[.int .i64 p.num, .int .i64 p.den] 23 (0, 0))) ∧ Hid (wx.heap[w.heap.size + 1]? = some (.cells #[.int .i64 q.num, .int .i64 q.den] 23 (0, 0))) ∧ Hid (wx.heap[gZ]? = some (.cells #[.int .i64 p.num, .int .i64 p.den] 23 (0, 0))) ∧ Hid (wx.heap[g]? = some (.cells #[.int .i64 p.num, .int .i64 p.den] 23 (0, 0))))
                        case first =>
                          as_aux_lemma =>
                            clear cA lA lA1 lA2 cB lB lB1 lB2 cZ lZ lZ1 lZ2
                            have kA0 : w14.cell? ⟨w.heap.size, 0, none⟩ = some (.int .i64 p.num) := cellH A 0
                            have kA1 : w14.cell? ⟨w.heap.size, 1, none⟩ = some (.int .i64 p.den) := cellH A 1
                            have lA := lt_of_H A
                            have nA : w.heap.size ≠ w14.heap.size := Nat.ne_of_lt lA
                            have lB := lt_of_H B
                            have nB : w.heap.size + 1 ≠ w14.heap.size := Nat.ne_of_lt lB
                            have lZ := lt_of_H Z
                            have nZ : gZ ≠ w14.heap.size := Nat.ne_of_lt lZ
                            go_region_held3 (fun w' => w'.cell? ⟨w.heap.size, 0, none⟩ = some (.int .i64 p.num) ∧ w'.cell? ⟨w.heap.size, 1, none⟩ = some (.int .i64 p.den)) (first | with_reducible exact ⟨kA0, kA1⟩ | with_reducible exact ⟨cell_set (cell_set kA0 (by first | assumption | (dsimp only; assumption) | (dsimp only; omega))) (by first | assumption | (dsimp only; assumption) | (dsimp only; omega)), cell_set (cell_set kA1 (by first | assumption | (dsimp only; assumption) | (dsimp only; omega))) (by first | assumption | (dsimp only; assumption) | (dsimp only; omega))⟩ | go_keep)
                              (first | (go_at_call 28; refine (fr_any _ _ _).mono ?_; rintro e w15 ⟨rfl, hb15⟩; have hw15 : Below w.heap.size w w15 := stepH (by (repeat (first | exact Below.refl _ _ | assumption | refine Below.drew ?_ | refine below_drewN ?_ _ | refine Below.setCell ?_ (by first | omega | (simp; done) | (simp; omega)) _ | refine Below.alloc ?_ (by first | omega | (simp; done) | (simp; omega)) _))) hb15; have zw15 := hw15.size; (try (have NB := keepH hb15 (by with_reducible first | exact blk_new rfl | exact drew_old (blk_new rfl) | exact NB.out | exact drew_old NB.out); have cNB := cellH NB; have fNB := frozH NB)); replace A := keepH hb15 (by first | with_reducible exact A.out | with_reducible exact blk_old A.out | with_reducible exact drew_old A.out | with_reducible exact drew_old (blk_old A.out)); replace B := keepH hb15 (by first | with_reducible exact B.out | with_reducible exact blk_old B.out | with_reducible exact drew_old B.out | with_reducible exact drew_old (blk_old B.out)); replace Z := keepH hb15 (by first | with_reducible exact Z.out | with_reducible exact blk_old Z.out | with_reducible exact drew_old Z.out | with_reducible exact drew_old (blk_old Z.out)); have kA0 : w15.cell? ⟨w.heap.size, 0, none⟩ = some (.int .i64 p.num) := cellH A 0; have kA1 : w15.cell? ⟨w.heap.size, 1, none⟩ = some (.int .i64 p.den) := cellH A 1; have lA := lt_of_H A; have nA : w.heap.size ≠ w15.heap.size := Nat.ne_of_lt lA; have lB := lt_of_H B; have nB : w.heap.size + 1 ≠ w15.heap.size := Nat.ne_of_lt lB; have lZ := lt_of_H Z; have nZ : gZ ≠ w15.heap.size := Nat.ne_of_lt lZ) | (go_at_call 25; refine (O1.out _ (HE.out.below (by (repeat (first | exact Below.refl _ _ | assumption | refine Below.drew ?_ | refine below_drewN ?_ _ | refine Below.setCell ?_ (by first | omega | (simp; done) | (simp; omega)) _ | refine Below.alloc ?_ (by first | omega | (simp; done) | (simp; omega)) _))))).mono ?_; rintro e w15 ⟨rfl, hb15⟩; have hw15 : Below w.heap.size w w15 := stepH (by (repeat (first | exact Below.refl _ _ | assumption | refine Below.drew ?_ | refine below_drewN ?_ _ | refine Below.setCell ?_ (by first | omega | (simp; done) | (simp; omega)) _ | refine Below.alloc ?_ (by first | omega | (simp; done) | (simp; omega)) _))) hb15; have zw15 := hw15.size; (try (have NB := keepH hb15 (by with_reducible first | exact blk_new rfl | exact drew_old (blk_new rfl) | exact NB.out | exact drew_old NB.out); have cNB := cellH NB; have fNB := frozH NB)); replace A := keepH hb15 (by first | with_reducible exact A.out | with_reducible exact blk_old A.out | with_reducible exact drew_old A.out | with_reducible exact drew_old (blk_old A.out)); replace B := keepH hb15 (by first | with_reducible exact B.out | with_reducible exact blk_old B.out | with_reducible exact drew_old B.out | with_reducible exact drew_old (blk_old B.out)); replace Z := keepH hb15 (by first | with_reducible exact Z.out | with_reducible exact blk_old Z.out | with_reducible exact drew_old Z.out | with_reducible exact drew_old (blk_old Z.out)); have kA0 : w15.cell? ⟨w.heap.size, 0, none⟩ = some (.int .i64 p.num) := cellH A 0; have kA1 : w15.cell? ⟨w.heap.size, 1, none⟩ = some (.int .i64 p.den) := cellH A 1; have lA := lt_of_H A; have nA : w.heap.size ≠ w15.heap.size := Nat.ne_of_lt lA; have lB := lt_of_H B; have nB : w.heap.size + 1 ≠ w15.heap.size := Nat.ne_of_lt lB; have lZ := lt_of_H Z; have nZ : gZ ≠ w15.heap.size := Nat.ne_of_lt lZ))
                            all_goals go_wp2_with fail
                            all_goals go_meet
                            all_goals exact ⟨_, rfl, rfl, (by (repeat (first | exact Below.refl _ _ | assumption | refine Below.drew ?_ | refine below_drewN ?_ _ | refine Below.setCell ?_ (by first | omega | (simp; done) | (simp; omega)) _ | refine Below.alloc ?_ (by first | omega | (simp; done) | (simp; omega)) _))), (by with_reducible first | exact A | exact setH2o A (by assumption) | exact Lib.hid (blk_old A.out)), (by with_reducible first | exact B | exact setH2o B (by assumption) | exact Lib.hid (blk_old B.out)), (by with_reducible first | exact Z | exact setH2o Z (by assumption) | exact Lib.hid (blk_old Z.out)), (by first | with_reducible exact setH2 NB.out | exact blk_new rfl)⟩
                        case rest =>
                          as_aux_lemma =>
                            clear A B Z
                            obtain ⟨gO, rfl, rfl, hw16, A, B, Z, O⟩ := hcut
                            obtain ⟨w16, rfl⟩ : ∃ x : World, x = wc := ⟨_, rfl⟩
                            have z16 := hw16.size
                            have cA := cellH A
                            obtain ⟨lA, lA1, lA2⟩ := ltH A
                            have cB := cellH B
                            obtain ⟨lB, lB1, lB2⟩ := ltH B
                            have cZ := cellH Z
                            obtain ⟨lZ, lZ1, lZ2⟩ := ltH Z
                            have cO := cellH O
                            obtain ⟨lO, lO1, lO2⟩ := ltH O
                            go_upto_region 17 with fail
                            go_cut [19, 20] (fun s19 s20 wx => ∃ g : Nat, s19 = .pointer (some ⟨g, 0, none⟩) ∧ s20 = .nilIface ∧ Below w.heap.size w wx ∧ Hid (wx.heap[w.heap.size]? = some (.cells #[.int .i64 p.num, .int .i64 p.den] 23 (0, 0))) ∧ Hid (wx.heap[w.heap.size + 1]? = some (.cells #[.int .i64 q.num, .int .i64 q.den] 23 (0, 0))) ∧ Hid (wx.heap[gZ]? = some (.cells #[.int .i64 p.num, .int .i64 p.den] 23 (0, 0))) ∧ Hid (wx.heap[gO]? = some (.cells #[.int .i64 p.num, .int .i64 p.den] 23 (0, 0))) ∧ Hid (wx.heap[g]? = some (.cells #[.int .i64 0, .int .i64 1] 23 (0, 0))))
                            case first =>
                              as_aux_lemma =>
                                clear cA lA lA1 lA2 cB lB lB1 lB2 cZ lZ lZ1 lZ2 cO lO lO1 lO2
                                have kA0 : w16.cell? ⟨w.heap.size, 0, none⟩ = some (.int .i64 p.num) := cellH A 0
                                have kA1 : w16.cell? ⟨w.heap.size, 1, none⟩ = some (.int .i64 p.den) := cellH A 1
                                have lA := lt_of_H A
                                have nA : w.heap.size ≠ w16.heap.size := Nat.ne_of_lt lA
                                have lB := lt_of_H B
                                have nB : w.heap.size + 1 ≠ w16.heap.size := Nat.ne_of_lt lB
                                have lZ := lt_of_H Z
                                have nZ : gZ ≠ w16.heap.size := Nat.ne_of_lt lZ
                                have lO := lt_of_H O
                                have nO : gO ≠ w16.heap.size := Nat.ne_of_lt lO
                                go_region_held3 (fun w' => w'.cell? ⟨w.heap.size, 0, none⟩ = some (.int .i64 p.num) ∧ w'.cell? ⟨w.heap.size, 1, none⟩ = some (.int .i64 p.den)) (first | with_reducible exact ⟨kA0, kA1⟩ | with_reducible exact ⟨cell_set (cell_set kA0 (by first | assumption | (dsimp only; assumption) | (dsimp only; omega))) (by first | assumption | (dsimp only; assumption) | (dsimp only; omega)), cell_set (cell_set kA1 (by first | assumption | (dsimp only; assumption) | (dsimp only; omega))) (by first | assumption | (dsimp only; assumption) | (dsimp only; omega))⟩ | go_keep)
                                  (first | (go_at_call 12; refine (G1.out _).mono ?_; rintro e w17 ⟨rfl, hb17⟩; have hw17 : Below w.heap.size w w17 := stepH (by (repeat (first | exact Below.refl _ _ | assumption | refine Below.drew ?_ | refine below_drewN ?_ _ | refine Below.setCell ?_ (by first | omega | (simp; done) | (simp; omega)) _ | refine Below.alloc ?_ (by first | omega | (simp; done) | (simp; omega)) _))) hb17; have zw17 := hw17.size; (try (have NB := keepH hb17 (by with_reducible first | exact blk_new rfl | exact drew_old (blk_new rfl) | exact NB.out | exact drew_old NB.out); have cNB := cellH NB; have fNB := frozH NB)); replace A := keepH hb17 (by first | with_reducible exact A.out | with_reducible exact blk_old A.out | with_reducible exact drew_old A.out | with_reducible exact drew_old (blk_old A.out)); replace B := keepH hb17 (by first | with_reducible exact B.out | with_reducible exact blk_old B.out | with_reducible exact drew_old B.out | with_reducible exact drew_old (blk_old B.out)); replace Z := keepH hb17 (by first | with_reducible exact Z.out | with_reducible exact blk_old Z.out | with_reducible exact drew_old Z.out | with_reducible exact drew_old (blk_old Z.out)); replace O := keepH hb17 (by first | with_reducible exact O.out | with_reducible exact blk_old O.out | with_reducible exact drew_old O.out | with_reducible exact drew_old (blk_old O.out)); have kA0 : w17.cell? ⟨w.heap.size, 0, none⟩ = some (.int .i64 p.num) := cellH A 0; have kA1 : w17.cell? ⟨w.heap.size, 1, none⟩ = some (.int .i64 p.den) := cellH A 1; have lA := lt_of_H A; have nA : w.heap.size ≠ w17.heap.size := Nat.ne_of_lt lA; have lB := lt_of_H B; have nB : w.heap.size + 1 ≠ w17.heap.size := Nat.ne_of_lt lB; have lZ := lt_of_H Z; have nZ : gZ ≠ w17.heap.size := Nat.ne_of_lt lZ; have lO := lt_of_H O; have nO : gO ≠ w17.heap.size := Nat.ne_of_lt lO) | (go_at_call 24; refine (N1.out _ (HE.out.below (by (repeat (first | exact Below.refl _ _ | assumption | refine Below.drew ?_ | refine below_drewN ?_ _ | refine Below.setCell ?_ (by first | omega | (simp; done) | (simp; omega)) _ | refine Below.alloc ?_ (by first | omega | (simp; done) | (simp; omega)) _))))).mono ?_; rintro e w17 ⟨rfl, hb17⟩; have hw17 : Below w.heap.size w w17 := stepH (by (repeat (first | exact Below.refl _ _ | assumption | refine Below.drew ?_ | refine below_drewN ?_ _ | refine Below.setCell ?_ (by first | omega | (simp; done) | (simp; omega)) _ | refine Below.alloc ?_ (by first | omega | (simp; done) | (simp; omega)) _))) hb17; have zw17 := hw17.size; (try (have NB := keepH hb17 (by with_reducible first | exact blk_new rfl | exact drew_old (blk_new rfl) | exact NB.out | exact drew_old NB.out); have cNB := cellH NB; have fNB := frozH NB)); replace A := keepH hb17 (by first | with_reducible exact A.out | with_reducible exact blk_old A.out | with_reducible exact drew_old A.out | with_reducible exact drew_old (blk_old A.out)); replace B := keepH hb17 (by first | with_reducible exact B.out | with_reducible exact blk_old B.out | with_reducible exact drew_old B.out | with_reducible exact drew_old (blk_old B.out)); replace Z := keepH hb17 (by first | with_reducible exact Z.out | with_reducible exact blk_old Z.out | with_reducible exact drew_old Z.out | with_reducible exact drew_old (blk_old Z.out)); replace O := keepH hb17 (by first | with_reducible exact O.out | with_reducible exact blk_old O.out | with_reducible exact drew_old O.out | with_reducible exact drew_old (blk_old O.out)); have kA0 : w17.cell? ⟨w.heap.size, 0, none⟩ = some (.int .i64 p.num) := cellH A 0; have kA1 : w17.cell? ⟨w.heap.size, 1, none⟩ = some (.int .i64 p.den) := cellH A 1; have lA := lt_of_H A; have nA : w.heap.size ≠ w17.heap.size := Nat.ne_of_lt lA; have lB := lt_of_H B; have nB : w.heap.size + 1 ≠ w17.heap.size := Nat.ne_of_lt lB; have lZ := lt_of_H Z; have nZ : gZ ≠ w17.heap.size := Nat.ne_of_lt lZ; have lO := lt_of_H O; have nO : gO ≠ w17.heap.size := Nat.ne_of_lt lO))
                                all_goals go_wp2_with fail
                                all_goals go_meet
                                all_goals exact ⟨_, rfl, rfl, (by (repeat (first | exact Below.refl _ _ | assumption | refine Below.drew ?_ | refine below_drewN ?_ _ | refine Below.setCell ?_ (by first | omega | (simp; done) | (simp; omega)) _ | refine Below.alloc ?_ (by first | omega | (simp; done) | (simp; omega)) _))), (by with_reducible first | exact A | exact setH2o A (by assumption) | exact Lib.hid (blk_old A.out)), (by with_reducible first | exact B | exact setH2o B (by assumption) | exact Lib.hid (blk_old B.out)), (by with_reducible first | exact Z | exact setH2o Z (by assumption) | exact Lib.hid (blk_old Z.out)), (by with_reducible first | exact O | exact setH2o O (by assumption) | exact Lib.hid (blk_old O.out)), (by first | with_reducible exact setH2 NB.out | exact blk_new rfl)⟩
                            case rest =>
                              as_aux_lemma =>
                                clear A B Z O
                                obtain ⟨gN, rfl, rfl, hw18, A, B, Z, O, N⟩ := hcut
                                obtain ⟨w18, rfl⟩ : ∃ x : World, x = wc := ⟨_, rfl⟩
                                have z18 := hw18.size
                                have cA := cellH A
                                obtain ⟨lA, lA1, lA2⟩ := ltH A
                                have cB := cellH B
                                obtain ⟨lB, lB1, lB2⟩ := ltH B
                                have cZ := cellH Z
                                obtain ⟨lZ, lZ1, lZ2⟩ := ltH Z
                                have cO := cellH O
                                obtain ⟨lO, lO1, lO2⟩ := ltH O
                                have cN := cellH N
                                obtain ⟨lN, lN1, lN2⟩ := ltH N
                                go_wp2_with fail
                                go_region_held3 (fun w' => w'.cell? ⟨w.heap.size, 0, none⟩ = some (.int .i64 p.num) ∧ w'.cell? ⟨w.heap.size, 1, none⟩ = some (.int .i64 p.den) ∧ w'.cell? ⟨gZ, 0, none⟩ = some (.int .i64 p.num) ∧ w'.cell? ⟨gZ, 1, none⟩ = some (.int .i64 p.den) ∧ w'.cell? ⟨gO, 0, none⟩ = some (.int .i64 p.num) ∧ w'.cell? ⟨gO, 1, none⟩ = some (.int .i64 p.den) ∧ w'.cell? ⟨gN, 0, none⟩ = some (.int .i64 0) ∧ w'.cell? ⟨gN, 1, none⟩ = some (.int .i64 1)) (first | exact ⟨cellH A 0, cellH A 1, cellH Z 0, cellH Z 1, cellH O 0, cellH O 1, cellH N 0, cellH N 1⟩ | go_keep)
                                  (first | (go_at_call 28; refine (fr_any _ _ _).mono ?_; rintro e w19 ⟨rfl, hb19⟩; have hw19 : Below w.heap.size w w19 := stepH (by (repeat (first | exact Below.refl _ _ | assumption | refine Below.drew ?_ | refine below_drewN ?_ _ | refine Below.setCell ?_ (by first | omega | (simp; done) | (simp; omega)) _ | refine Below.alloc ?_ (by first | omega | (simp; done) | (simp; omega)) _))) hb19; replace A := keepH hb19 A.out; replace B := keepH hb19 B.out; replace Z := keepH hb19 Z.out; replace O := keepH hb19 O.out; replace N := keepH hb19 N.out) | (go_at_call 11; refine (first_same _ _ _).mono ?_; rintro e w19 ⟨rfl, hb19⟩; have hw19 : Below w.heap.size w w19 := stepH (by (repeat (first | exact Below.refl _ _ | assumption | refine Below.drew ?_ | refine below_drewN ?_ _ | refine Below.setCell ?_ (by first | omega | (simp; done) | (simp; omega)) _ | refine Below.alloc ?_ (by first | omega | (simp; done) | (simp; omega)) _))) hb19; replace A := keepH hb19 A.out; replace B := keepH hb19 B.out; replace Z := keepH hb19 Z.out; replace O := keepH hb19 O.out; replace N := keepH hb19 N.out))
                                clear cA lA lA1 lA2 cB lB lB1 lB2 cZ lZ lZ1 lZ2 cO lO lO1 lO2 cN lN lN1 lN2
                                have z19 := hw19.size
                                have cA := cellH A
                                obtain ⟨lA, lA1, lA2⟩ := ltH A
                                have cB := cellH B
                                obtain ⟨lB, lB1, lB2⟩ := ltH B
                                go_wp2_with fail
                                refine (SF1.out _ (HE.out.below (by (repeat (first | exact Below.refl _ _ | assumption | refine Below.drew ?_ | refine below_drewN ?_ _ | refine Below.setCell ?_ (by first | omega | (simp; done) | (simp; omega)) _ | refine Below.alloc ?_ (by first | omega | (simp; done) | (simp; omega)) _))))).mono ?_
                                rintro e w20 ⟨rfl, hb20⟩
                                have hw20 : Below w.heap.size w w20 := stepH (by (repeat (first | exact Below.refl _ _ | assumption | refine Below.drew ?_ | refine below_drewN ?_ _ | refine Below.setCell ?_ (by first | omega | (simp; done) | (simp; omega)) _ | refine Below.alloc ?_ (by first | omega | (simp; done) | (simp; omega)) _))) hb20
                                replace A := keepH hb20 A.out
                                replace B := keepH hb20 B.out
                                have z20 := hw20.size
                                clear hb20 hw19 z19
                                clear cA lA lA1 lA2 cB lB lB1 lB2
                                have cA := cellH A
                                obtain ⟨lA, lA1, lA2⟩ := ltH A
                                have cB := cellH B
                                obtain ⟨lB, lB1, lB2⟩ := ltH B
                                go_wp2_with fail
                                have hw21 : Below w.heap.size w (w20.alloc (.cells #[.int .i64 n0, .int .i64 d0] 23)) := by (repeat (first | exact Below.refl _ _ | assumption | refine Below.drew ?_ | refine below_drewN ?_ _ | refine Below.setCell ?_ (by first | omega | (simp; done) | (simp; omega)) _ | refine Below.alloc ?_ (by first | omega | (simp; done) | (simp; omega)) _))
                                replace A : Hid ((w20.alloc (.cells #[.int .i64 n0, .int .i64 d0] 23)).heap[w.heap.size]? = some (.cells #[.int .i64 p.num, .int .i64 p.den] 23 (0, 0))) := (blk_old A.out)
                                replace B : Hid ((w20.alloc (.cells #[.int .i64 n0, .int .i64 d0] 23)).heap[w.heap.size + 1]? = some (.cells #[.int .i64 q.num, .int .i64 q.den] 23 (0, 0))) := (blk_old B.out)
                                have X : Hid ((w20.alloc (.cells #[.int .i64 n0, .int .i64 d0] 23)).heap[w20.heap.size]? = some (.cells #[.int .i64 n0, .int .i64 d0] 23 (0, 0))) := (blk_new rfl)
                                clear cA lA lA1 lA2 cB lB lB1 lB2
                                generalize (w20.alloc (.cells #[.int .i64 n0, .int .i64 d0] 23)) = w21 at *
                                have z21 := hw21.size
                                have cA := cellH A
                                obtain ⟨lA, lA1, lA2⟩ := ltH A
                                have cB := cellH B
                                obtain ⟨lB, lB1, lB2⟩ := ltH B
                                have cX := cellH X
                                obtain ⟨lX, lX1, lX2⟩ := ltH X
                                go_upto_region 20 with fail
                                go_cut [24, 25] (fun s24 s25 wx => ∃ g : Nat, s24 = .pointer (some ⟨g, 0, none⟩) ∧ s25 = e0 ∧ Below w.heap.size w wx ∧ Hid (wx.heap[w.heap.size]? = some (.cells #[.int .i64 p.num, .int .i64 p.den] 23 (0, 0))) ∧ Hid (wx.heap[w.heap.size + 1]? = some (.cells #[.int .i64 q.num, .int .i64 q.den] 23 (0, 0))) ∧ Hid (wx.heap[w20.heap.size]? = some (.cells #[.int .i64 n0, .int .i64 d0] 23 (0, 0))) ∧ Hid (wx.heap[g]? = some (.cells #[.int .i64 n0, .int .i64 d0] 23 (0, 0))))
                                case first =>
                                  as_aux_lemma =>
                                    clear cA lA lA1 lA2 cB lB lB1 lB2 cX lX lX1 lX2
                                    have kA0 : w21.cell? ⟨w.heap.size, 0, none⟩ = some (.int .i64 p.num) := cellH A 0
                                    have kA1 : w21.cell? ⟨w.heap.size, 1, none⟩ = some (.int .i64 p.den) := cellH A 1
                                    have kB0 : w21.cell? ⟨w.heap.size + 1, 0, none⟩ = some (.int .i64 q.num) := cellH B 0
                                    have kB1 : w21.cell? ⟨w.heap.size + 1, 1, none⟩ = some (.int .i64 q.den) := cellH B 1
                                    have lA := lt_of_H A
                                    have nA : w.heap.size ≠ w21.heap.size := Nat.ne_of_lt lA
                                    have lB := lt_of_H B
                                    have nB : w.heap.size + 1 ≠ w21.heap.size := Nat.ne_of_lt lB
                                    have lX := lt_of_H X
                                    have nX : w20.heap.size ≠ w21.heap.size := Nat.ne_of_lt lX
                                    go_region_held3 (fun w' => w'.cell? ⟨w.heap.size, 0, none⟩ = some (.int .i64 p.num) ∧ w'.cell? ⟨w.heap.size, 1, none⟩ = some (.int .i64 p.den) ∧ w'.cell? ⟨w.heap.size + 1, 0, none⟩ = some (.int .i64 q.num) ∧ w'.cell? ⟨w.heap.size + 1, 1, none⟩ = some (.int .i64 q.den)) (first | with_reducible exact ⟨kA0, kA1, kB0, kB1⟩ | with_reducible exact ⟨cell_set (cell_set kA0 (by first | assumption | (dsimp only; assumption) | (dsimp only; omega))) (by first | assumption | (dsimp only; assumption) | (dsimp only; omega)), cell_set (cell_set kA1 (by first | assumption | (dsimp only; assumption) | (dsimp only; omega))) (by first | assumption | (dsimp only; assumption) | (dsimp only; omega)), cell_set (cell_set kB0 (by first | assumption | (dsimp only; assumption) | (dsimp only; omega))) (by first | assumption | (dsimp only; assumption) | (dsimp only; omega)), cell_set (cell_set kB1 (by first | assumption | (dsimp only; assumption) | (dsimp only; omega))) (by first | assumption | (dsimp only; assumption) | (dsimp only; omega))⟩ | go_keep)
                                      (first | (go_at_call 12; refine (G2.out _).mono ?_; rintro e w22 ⟨rfl, hb22⟩; have hw22 : Below w.heap.size w w22 := stepH (by (repeat (first | exact Below.refl _ _ | assumption | refine Below.drew ?_ | refine below_drewN ?_ _ | refine Below.setCell ?_ (by first | omega | (simp; done) | (simp; omega)) _ | refine Below.alloc ?_ (by first | omega | (simp; done) | (simp; omega)) _))) hb22; have zw22 := hw22.size; (try (have NB := keepH hb22 (by with_reducible first | exact blk_new rfl | exact drew_old (blk_new rfl) | exact NB.out | exact drew_old NB.out); have cNB := cellH NB; have fNB := frozH NB)); replace A := keepH hb22 (by first | with_reducible exact A.out | with_reducible exact blk_old A.out | with_reducible exact drew_old A.out | with_reducible exact drew_old (blk_old A.out)); replace B := keepH hb22 (by first | with_reducible exact B.out | with_reducible exact blk_old B.out | with_reducible exact drew_old B.out | with_reducible exact drew_old (blk_old B.out)); replace X := keepH hb22 (by first | with_reducible exact X.out | with_reducible exact blk_old X.out | with_reducible exact drew_old X.out | with_reducible exact drew_old (blk_old X.out)); have kA0 : w22.cell? ⟨w.heap.size, 0, none⟩ = some (.int .i64 p.num) := cellH A 0; have kA1 : w22.cell? ⟨w.heap.size, 1, none⟩ = some (.int .i64 p.den) := cellH A 1; have kB0 : w22.cell? ⟨w.heap.size + 1, 0, none⟩ = some (.int .i64 q.num) := cellH B 0; have kB1 : w22.cell? ⟨w.heap.size + 1, 1, none⟩ = some (.int .i64 q.den) := cellH B 1; have lA := lt_of_H A; have nA : w.heap.size ≠ w22.heap.size := Nat.ne_of_lt lA; have lB := lt_of_H B; have nB : w.heap.size + 1 ≠ w22.heap.size := Nat.ne_of_lt lB; have lX := lt_of_H X; have nX : w20.heap.size ≠ w22.heap.size := Nat.ne_of_lt lX) | (go_at_call 24; refine (SF2.out _ (HE.out.below (by (repeat (first | exact Below.refl _ _ | assumption | refine Below.drew ?_ | refine below_drewN ?_ _ | refine Below.setCell ?_ (by first | omega | (simp; done) | (simp; omega)) _ | refine Below.alloc ?_ (by first | omega | (simp; done) | (simp; omega)) _))))).mono ?_; rintro e w22 ⟨rfl, hb22⟩; have hw22 : Below w.heap.size w w22 := stepH (by (repeat (first | exact Below.refl _ _ | assumption | refine Below.drew ?_ | refine below_drewN ?_ _ | refine Below.setCell ?_ (by first | omega | (simp; done) | (simp; omega)) _ | refine Below.alloc ?_ (by first | omega | (simp; done) | (simp; omega)) _))) hb22; have zw22 := hw22.size; (try (have NB := keepH hb22 (by with_reducible first | exact blk_new rfl | exact drew_old (blk_new rfl) | exact NB.out | exact drew_old NB.out); have cNB := cellH NB; have fNB := frozH NB)); replace A := keepH hb22 (by first | with_reducible exact A.out | with_reducible exact blk_old A.out | with_reducible exact drew_old A.out | with_reducible exact drew_old (blk_old A.out)); replace B := keepH hb22 (by first | with_reducible exact B.out | with_reducible exact blk_old B.out | with_reducible exact drew_old B.out | with_reducible exact drew_old (blk_old B.out)); replace X := keepH hb22 (by first | with_reducible exact X.out | with_reducible exact blk_old X.out | with_reducible exact drew_old X.out | with_reducible exact drew_old (blk_old X.out)); have kA0 : w22.cell? ⟨w.heap.size, 0, none⟩ = some (.int .i64 p.num) := cellH A 0; have kA1 : w22.cell? ⟨w.heap.size, 1, none⟩ = some (.int .i64 p.den) := cellH A 1; have kB0 : w22.cell? ⟨w.heap.size + 1, 0, none⟩ = some (.int .i64 q.num) := cellH B 0; have kB1 : w22.cell? ⟨w.heap.size + 1, 1, none⟩ = some (.int .i64 q.den) := cellH B 1; have lA := lt_of_H A; have nA : w.heap.size ≠ w22.heap.size := Nat.ne_of_lt lA; have lB := lt_of_H B; have nB : w.heap.size + 1 ≠ w22.heap.size := Nat.ne_of_lt lB; have lX := lt_of_H X; have nX : w20.heap.size ≠ w22.heap.size := Nat.ne_of_lt lX))
                                    all_goals go_wp2_with fail
                                    all_goals go_meet
                                    all_goals exact ⟨_, rfl, rfl, (by (repeat (first | exact Below.refl _ _ | assumption | refine Below.drew ?_ | refine below_drewN ?_ _ | refine Below.setCell ?_ (by first | omega | (simp; done) | (simp; omega)) _ | refine Below.alloc ?_ (by first | omega | (simp; done) | (simp; omega)) _))), (by with_reducible first | exact A | exact setH2o A (by assumption) | exact Lib.hid (blk_old A.out)), (by with_reducible first | exact B | exact setH2o B (by assumption) | exact Lib.hid (blk_old B.out)), (by with_reducible first | exact X | exact setH2o X (by assumption) | exact Lib.hid (blk_old X.out)), (by first | with_reducible exact setH2 NB.out | exact blk_new rfl)⟩
                                case rest =>
                                  as_aux_lemma =>
                                    clear A B X
                                    obtain ⟨gY, rfl, rfl, hw23, A, B, X, Y⟩ := hcut
                                    obtain ⟨w23, rfl⟩ : ∃ x : World, x = wc := ⟨_, rfl⟩
                                    have z23 := hw23.size
                                    have cA := cellH A
                                    obtain ⟨lA, lA1, lA2⟩ := ltH A
                                    have cB := cellH B
                                    obtain ⟨lB, lB1, lB2⟩ := ltH B
                                    have cX := cellH X
                                    obtain ⟨lX, lX1, lX2⟩ := ltH X
                                    have cY := cellH Y
                                    obtain ⟨lY, lY1, lY2⟩ := ltH Y
                                    rcases ec with rfl | ⟨ea, rfl⟩
                                    · go_wp2_with fail
                                      go_region_held3 (fun w' => w'.cell? ⟨w20.heap.size, 0, none⟩ = some (.int .i64 n0) ∧ w'.cell? ⟨w20.heap.size, 1, none⟩ = some (.int .i64 d0) ∧ w'.cell? ⟨gY, 0, none⟩ = some (.int .i64 n0) ∧ w'.cell? ⟨gY, 1, none⟩ = some (.int .i64 d0)) (first | exact ⟨cellH X 0, cellH X 1, cellH Y 0, cellH Y 1⟩ | go_keep)
                                        (first | (go_at_call 11; refine (first_same _ _ _).mono ?_; rintro e w24 ⟨rfl, hb24⟩; have hw24 : Below w.heap.size w w24 := stepH (by (repeat (first | exact Below.refl _ _ | assumption | refine Below.drew ?_ | refine below_drewN ?_ _ | refine Below.setCell ?_ (by first | omega | (simp; done) | (simp; omega)) _ | refine Below.alloc ?_ (by first | omega | (simp; done) | (simp; omega)) _))) hb24; replace A := keepH hb24 A.out; replace B := keepH hb24 B.out; replace X := keepH hb24 X.out; replace Y := keepH hb24 Y.out))
                                      clear cA lA lA1 lA2 cB lB lB1 lB2 cX lX lX1 lX2 cY lY lY1 lY2
                                      have z24 := hw24.size
                                      go_wp2_with fail
                                      go_ret
                                      exact ⟨rfl, hw24⟩
                                    · have hen := fun w => eql_nil ea w
                                      go_wp2_with fail
                                      go_region_held3 (fun w' => w'.cell? ⟨w20.heap.size, 0, none⟩ = some (.int .i64 n0) ∧ w'.cell? ⟨w20.heap.size, 1, none⟩ = some (.int .i64 d0) ∧ w'.cell? ⟨gY, 0, none⟩ = some (.int .i64 n0) ∧ w'.cell? ⟨gY, 1, none⟩ = some (.int .i64 d0)) (first | exact ⟨cellH X 0, cellH X 1, cellH Y 0, cellH Y 1⟩ | go_keep)
                                        (first | (go_at_call 11; refine (first_same _ _ _).mono ?_; rintro e w25 ⟨rfl, hb25⟩; have hw25 : Below w.heap.size w w25 := stepH (by (repeat (first | exact Below.refl _ _ | assumption | refine Below.drew ?_ | refine below_drewN ?_ _ | refine Below.setCell ?_ (by first | omega | (simp; done) | (simp; omega)) _ | refine Below.alloc ?_ (by first | omega | (simp; done) | (simp; omega)) _))) hb25; replace A := keepH hb25 A.out; replace B := keepH hb25 B.out; replace X := keepH hb25 X.out; replace Y := keepH hb25 Y.out))
                                      clear cA lA lA1 lA2 cB lB lB1 lB2 cX lX lX1 lX2 cY lY lY1 lY2
                                      have z25 := hw25.size
                                      go_wp2_with fail
                                      go_ret
                                      exact ⟨rfl, hw25⟩
end Go.Proofs.YtbmkbhclkaopaaaDoor
