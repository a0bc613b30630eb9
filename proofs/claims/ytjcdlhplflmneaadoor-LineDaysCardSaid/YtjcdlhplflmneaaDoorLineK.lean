/- The walk of LineDays. -/
import Derived.Test.YtjcdlhplflmneaaDoorLineJ
import Derived.Test.YtjcdlhplflmneaaDoorLineP
import Derived.Deep.DeepCutAuto
namespace Go.Proofs.YtjcdlhplflmneaaDoor
open Go.RowKit

set_option maxRecDepth 100000 in
set_option maxHeartbeats 16000000 in
theorem lineDays_walk (l : List (Pc Int)) (A : Option Addr) (c : Nat) (n m : Int) (E : Nat → Addr) (w : World) (hl : RowAt encP 3 w w.heap.size A l) (hm : l.length ≤ 9223372036854775807) (hE : Env L6 E w) :
    Calls Tryd.prog 7 #[.slice A l.length c, .int .i64 n, .int .i64 m] w fun e w' => e = .returned (.bool true) ∧ Below w.heap.size w w' := by
  have HL := Lib.hid hl
  have HE := Lib.hid hE
  clear hl hE
  by_cases h2 : 200 < l.length
  · have hd : decide ((200 : Int) < (l.length : Int)) = true := decide_eq_true (by omega)
    go_enter Tryd.func7, Tryd.ntmps7
    go_wp2_with fail
    refine (first6_any _).mono ?_
    rintro e w1 ⟨rfl, hb1⟩
    have hw1 : Below w.heap.size w w1 := stepH (by (repeat' (first | with_reducible exact Below.refl _ _ | with_reducible assumption | with_reducible refine Below.drew ?_ | with_reducible refine below_drewN ?_ _ | with_reducible refine Below.setCell ?_ ?_ _ | with_reducible refine Below.alloc ?_ ?_ _ | omega | (simp; done) | (simp; omega)))) hb1
    clear hb1
    go_wp2_with fail
    go_ret
    exact ⟨rfl, hw1⟩
  · have hd : decide ((200 : Int) < (l.length : Int)) = false := decide_eq_false (by omega)
    have h3 : l.length ≤ 200 := by omega
    clear h2 hm
    go_enter Tryd.func7, Tryd.ntmps7
    go_wp2_with fail
    refine (first6_any _).mono ?_
    rintro e w1 ⟨rfl, hb1⟩
    have hw1 : Below w.heap.size w w1 := stepH (by (repeat' (first | with_reducible exact Below.refl _ _ | with_reducible assumption | with_reducible refine Below.drew ?_ | with_reducible refine below_drewN ?_ _ | with_reducible refine Below.setCell ?_ ?_ _ | with_reducible refine Below.alloc ?_ ?_ _ | omega | (simp; done) | (simp; omega)))) hb1
    clear hb1
    go_wp2_with fail
    refine (piecesL_any l A c _ ((HL.out.below (by (repeat' (first | with_reducible exact Below.refl _ _ | with_reducible assumption | with_reducible refine Below.drew ?_ | with_reducible refine below_drewN ?_ _ | with_reducible refine Below.setCell ?_ ?_ _ | with_reducible refine Below.alloc ?_ ?_ _ | omega | (simp; done) | (simp; omega)))) (Nat.le_refl _)).more hw1.size) (by omega)).mono ?_
    rintro e w2 ⟨⟨A2, c2, rfl, hrow2⟩, hb2⟩
    have hw2 : Below w.heap.size w w2 := stepH (by (repeat' (first | with_reducible exact Below.refl _ _ | with_reducible assumption | with_reducible refine Below.drew ?_ | with_reducible refine below_drewN ?_ _ | with_reducible refine Below.setCell ?_ ?_ _ | with_reducible refine Below.alloc ?_ ?_ _ | omega | (simp; done) | (simp; omega)))) hb2
    have z2 := hw2.size
    clear hb2 hw1
    go_wp2_with fail
    by_cases hv : ∀ p ∈ l, ValidP MD p
    · refine (make6_ok l A2 c2 _ hrow2 (by omega) hv).mono ?_
      rintro e w3 ⟨⟨A3, c3, r, rfl, hrow3, hA3, hmade⟩, hb3⟩
      have hw3 : Below w.heap.size w w3 := stepH (by (repeat' (first | with_reducible exact Below.refl _ _ | with_reducible assumption | with_reducible refine Below.drew ?_ | with_reducible refine below_drewN ?_ _ | with_reducible refine Below.setCell ?_ ?_ _ | with_reducible refine Below.alloc ?_ ?_ _ | omega | (simp; done) | (simp; omega)))) hb3
      have z3 := hw3.size
      have hrl : r.length ≤ 400 := by have h := hmade.len; omega
      have HROW := Lib.hid hrow3
      have HC := Lib.hid hmade.canon
      have HA3 := Lib.hid hA3
      clear hb3 hw2 z2 hrow3 hmade hrow2 hA3 hv
      have HAT := Lib.hid (fun (n : Int) (w' : World) (h : Below w3.heap.size w3 w') => At6_any r A3 c3 n w' ((HROW.out.below h (Nat.le_refl _)).more h.size) (by omega) 0 HC.out.rise)
      obtain ⟨o, ho⟩ : ∃ o, nextL MD r n = o := ⟨_, rfl⟩
      obtain ⟨o1, ho1⟩ : ∃ o1, valL r n = o1 := ⟨_, rfl⟩
      have HO := Lib.hid ho
      have HO1 := Lib.hid ho1
      clear ho ho1
      go_wp2_with fail
      refine (next6_any r A3 c3 n _ ((HROW.out.below (by (repeat' (first | with_reducible exact Below.refl _ _ | with_reducible assumption | with_reducible refine Below.drew ?_ | with_reducible refine below_drewN ?_ _ | with_reducible refine Below.setCell ?_ ?_ _ | with_reducible refine Below.alloc ?_ ?_ _ | omega | (simp; done) | (simp; omega)))) (Nat.le_refl _)).more (by simp)) (by omega)).mono ?_
      rintro e w4 ⟨rfl, hb4⟩
      rw [HO.out]
      have TB := keepH hb4 (g := w3.heap.size) (blk_new rfl)
      have hw4 : Below w.heap.size w w4 := stepH (by (repeat' (first | with_reducible exact Below.refl _ _ | with_reducible assumption | with_reducible refine Below.drew ?_ | with_reducible refine below_drewN ?_ _ | with_reducible refine Below.setCell ?_ ?_ _ | with_reducible refine Below.alloc ?_ ?_ _ | omega | (simp; done) | (simp; omega)))) hb4
      have hv4 : Below w3.heap.size w3 w4 := stepH (by (repeat' (first | with_reducible exact Below.refl _ _ | with_reducible assumption | with_reducible refine Below.drew ?_ | with_reducible refine below_drewN ?_ _ | with_reducible refine Below.setCell ?_ ?_ _ | with_reducible refine Below.alloc ?_ ?_ _ | omega | (simp; done) | (simp; omega)))) hb4
      have cT := cellH TB
      clear hb4
      go_wp2_with fail
      refine (HAT.out n _ (by (repeat' (first | with_reducible exact Below.refl _ _ | with_reducible assumption | with_reducible refine Below.drew ?_ | with_reducible refine below_drewN ?_ _ | with_reducible refine Below.setCell ?_ ?_ _ | with_reducible refine Below.alloc ?_ ?_ _ | omega | (simp; done) | (simp; omega))))).mono ?_
      rintro e w5 ⟨rfl, hb5⟩
      rw [HO1.out]
      replace TB := keepH hb5 TB.out
      replace hw4 : Below w.heap.size w w5 := stepH (by (repeat' (first | with_reducible exact Below.refl _ _ | with_reducible assumption | with_reducible refine Below.drew ?_ | with_reducible refine below_drewN ?_ _ | with_reducible refine Below.setCell ?_ ?_ _ | with_reducible refine Below.alloc ?_ ?_ _ | omega | (simp; done) | (simp; omega)))) hb5
      replace hv4 : Below w3.heap.size w3 w5 := stepH (by (repeat' (first | with_reducible exact Below.refl _ _ | with_reducible assumption | with_reducible refine Below.drew ?_ | with_reducible refine below_drewN ?_ _ | with_reducible refine Below.setCell ?_ ?_ _ | with_reducible refine Below.alloc ?_ ?_ _ | omega | (simp; done) | (simp; omega)))) hb5
      replace cT := cellH TB
      clear hb5
      go_upto_if 54 with fail
      go_cut [14] (fun s14 wx => s14 = .int .i64 (endO o) ∧ Below w.heap.size w wx ∧ Below w3.heap.size w3 wx ∧ Hid (wx.heap[w3.heap.size]? = some (.cells #[.slice A3 r.length c3] 61 (0, 0))))
      case first =>
        as_aux_lemma =>
          cases o with
          | none =>
            have e1 : vB6 none = false := rfl
            go_wp2_with fail
            go_meet
            exact ⟨rfl, hw4, hv4, TB⟩
          | some k =>
            have hk : n < k := nextL_gt HO.out
            have hne := Lib.hid (nextL_turns HC.out.rise HC.out.apart HO.out)
            obtain ⟨o2, ho2⟩ : ∃ o2, valL r k = o2 := ⟨_, rfl⟩
            have HO2 := Lib.hid ho2
            have e0 : decide (k ≤ n) = false := decide_eq_false (by omega)
            have hne2 : o2 ≠ o1 := by rw [← ho2, ← HO1.out]; exact hne.out
            clear ho2
            rw [show vN (some k) = k from rfl, show vB6 (some k) = true from rfl]
            go_wp2_with fail
            refine (HAT.out k _ (by (repeat' (first | with_reducible exact Below.refl _ _ | with_reducible assumption | with_reducible refine Below.drew ?_ | with_reducible refine below_drewN ?_ _ | with_reducible refine Below.setCell ?_ ?_ _ | with_reducible refine Below.alloc ?_ ?_ _ | omega | (simp; done) | (simp; omega))))).mono ?_
            rintro e w6 ⟨rfl, hb6⟩
            rw [HO2.out]
            replace TB := keepH hb6 TB.out
            replace hw4 : Below w.heap.size w w6 := stepH (by (repeat' (first | with_reducible exact Below.refl _ _ | with_reducible assumption | with_reducible refine Below.drew ?_ | with_reducible refine below_drewN ?_ _ | with_reducible refine Below.setCell ?_ ?_ _ | with_reducible refine Below.alloc ?_ ?_ _ | omega | (simp; done) | (simp; omega)))) hb6
            replace hv4 : Below w3.heap.size w3 w6 := stepH (by (repeat' (first | with_reducible exact Below.refl _ _ | with_reducible assumption | with_reducible refine Below.drew ?_ | with_reducible refine below_drewN ?_ _ | with_reducible refine Below.setCell ?_ ?_ _ | with_reducible refine Below.alloc ?_ ?_ _ | omega | (simp; done) | (simp; omega)))) hb6
            clear hb6 cT
            have hcase : (vB6 o1 == vB6 o2) = false ∨ ((vB6 o1 == vB6 o2) = true ∧ (vN o1 == vN o2) = false) := by
              cases o1 with
              | none => cases o2 with
                | none => exact absurd rfl hne2
                | some y => exact .inl rfl
              | some x => cases o2 with
                | none => exact .inl rfl
                | some y => exact .inr ⟨rfl, by simpa [vN] using fun e : x = y => hne2 (by rw [e])⟩
            clear hne2
            rcases hcase with e1 | ⟨e1, e2⟩
            · go_wp2_with fail
              go_meet
              exact ⟨rfl, hw4, hv4, TB⟩
            · go_wp2_with fail
              go_meet
              exact ⟨rfl, hw4, hv4, TB⟩
      case rest =>
        as_aux_lemma =>
          clear TB hw4 hv4 cT
          obtain ⟨rfl, hw4, hv4, TB⟩ := hcut
          obtain ⟨w7, rfl⟩ : ∃ x : World, x = wc := ⟨_, rfl⟩
          have cT := cellH TB
          obtain ⟨en, hen⟩ : ∃ en, endO o = en := ⟨_, rfl⟩
          have HEN := Lib.hid hen
          rw [hen]
          clear hen
          go_upto_region 15 with fail
          go_cut [90] (fun s90 wx => (∃ bb, s90 = .bool bb ∧ (bb = true → n < m ∧ m < en)) ∧ Below w.heap.size w wx ∧ Below w3.heap.size w3 wx ∧ Hid (wx.heap[w3.heap.size]? = some (.cells #[.slice A3 r.length c3] 61 (0, 0))))
          case first =>
            as_aux_lemma =>
              by_cases g0 : 0 ≤ n
              · have e0 : decide (0 ≤ n) = true := decide_eq_true g0
                by_cases g1 : n < m
                · have e1 : decide (n < m) = true := decide_eq_true g1
                  by_cases g2 : m < en
                  · have e2 : decide (m < en) = true := decide_eq_true g2
                    have hg := Lib.hid (show n < m ∧ m < en from ⟨g1, g2⟩)
                    clear g0 g1 g2
                    go_wp2_with fail
                    go_meet
                    exact ⟨⟨true, rfl, fun _ => hg.out⟩, hw4, hv4, TB⟩
                  · have e2 : decide (m < en) = false := decide_eq_false g2
                    clear g0 g1 g2
                    go_wp2_with fail
                    go_meet
                    exact ⟨⟨false, rfl, fun h => by cases h⟩, hw4, hv4, TB⟩
                · have e1 : decide (n < m) = false := decide_eq_false g1
                  clear g0 g1
                  go_wp2_with fail
                  go_meet
                  exact ⟨⟨false, rfl, fun h => by cases h⟩, hw4, hv4, TB⟩
              · have e0 : decide (0 ≤ n) = false := decide_eq_false g0
                clear g0
                go_wp2_with fail
                go_meet
                exact ⟨⟨false, rfl, fun h => by cases h⟩, hw4, hv4, TB⟩
          case rest =>
           as_aux_lemma =>
            clear TB hw4 hv4 cT
            obtain ⟨⟨bb, rfl, hbb⟩, hw4, hv4, TB⟩ := hcut
            obtain ⟨w8, rfl⟩ : ∃ x : World, x = wc := ⟨_, rfl⟩
            have cT := cellH TB
            go_upto_if 90 with fail
            go_cut [] (fun wx => Below w.heap.size w wx ∧ Below w3.heap.size w3 wx ∧ Hid (wx.heap[w3.heap.size]? = some (.cells #[.slice A3 r.length c3] 61 (0, 0))))
            case first =>
              as_aux_lemma =>
                cases bb with
                | false =>
                  go_wp2_with fail
                  go_meet
                  exact ⟨hw4, hv4, TB⟩
                | true =>
                  obtain ⟨g1, g2⟩ := hbb rfl
                  have hst : Hid (valL r m = o1) := (stays_at HC.out HO.out g1 (by rw [HEN.out]; exact g2)).trans HO1.out
                  clear g1 g2 hbb
                  go_wp2_with fail
                  refine (HAT.out m _ (by (repeat' (first | with_reducible exact Below.refl _ _ | with_reducible assumption | with_reducible refine Below.drew ?_ | with_reducible refine below_drewN ?_ _ | with_reducible refine Below.setCell ?_ ?_ _ | with_reducible refine Below.alloc ?_ ?_ _ | omega | (simp; done) | (simp; omega))))).mono ?_
                  rintro e w9 ⟨rfl, hb9⟩
                  rw [hst.out]
                  replace TB := keepH hb9 TB.out
                  replace hw4 : Below w.heap.size w w9 := stepH (by (repeat' (first | with_reducible exact Below.refl _ _ | with_reducible assumption | with_reducible refine Below.drew ?_ | with_reducible refine below_drewN ?_ _ | with_reducible refine Below.setCell ?_ ?_ _ | with_reducible refine Below.alloc ?_ ?_ _ | omega | (simp; done) | (simp; omega)))) hb9
                  replace hv4 : Below w3.heap.size w3 w9 := stepH (by (repeat' (first | with_reducible exact Below.refl _ _ | with_reducible assumption | with_reducible refine Below.drew ?_ | with_reducible refine below_drewN ?_ _ | with_reducible refine Below.setCell ?_ ?_ _ | with_reducible refine Below.alloc ?_ ?_ _ | omega | (simp; done) | (simp; omega)))) hb9
                  clear hb9 cT
                  have e3 : (vB6 o1 != vB6 o1) = false := bne_self_eq_false _
                  have e4 : (vN o1 != vN o1) = false := bne_self_eq_false _
                  go_wp2_with fail
                  go_meet
                  exact ⟨hw4, hv4, TB⟩
            case rest =>
              as_aux_lemma =>
                clear TB hw4 hv4 cT
                obtain ⟨hw4, hv4, TB⟩ := hcut
                obtain ⟨w9, rfl⟩ : ∃ x : World, x = wc := ⟨_, rfl⟩
                have cT := cellH TB
                go_wp2_with fail
                refine (pieces6_any r A3 c3 _ ((HROW.out.below (by (repeat' (first | with_reducible exact Below.refl _ _ | with_reducible assumption | with_reducible refine Below.drew ?_ | with_reducible refine below_drewN ?_ _ | with_reducible refine Below.setCell ?_ ?_ _ | with_reducible refine Below.alloc ?_ ?_ _ | omega | (simp; done) | (simp; omega)))) (Nat.le_refl _)).more hv4.size) (by omega) HA3.out).mono ?_
                rintro e w10 ⟨v, rfl, hown, hb10⟩
                obtain ⟨A5, c5, rfl, hr5, _, _⟩ := own_line (fun x _ => encP_len x) hown
                have TB0 := keepH hb10 TB.out
                have hw10 : Below w.heap.size w w10 := stepH (by (repeat' (first | with_reducible exact Below.refl _ _ | with_reducible assumption | with_reducible refine Below.drew ?_ | with_reducible refine below_drewN ?_ _ | with_reducible refine Below.setCell ?_ ?_ _ | with_reducible refine Below.alloc ?_ ?_ _ | omega | (simp; done) | (simp; omega)))) hb10
                have hv10 : Below w3.heap.size w3 w10 := stepH (by (repeat' (first | with_reducible exact Below.refl _ _ | with_reducible assumption | with_reducible refine Below.drew ?_ | with_reducible refine below_drewN ?_ _ | with_reducible refine Below.setCell ?_ ?_ _ | with_reducible refine Below.alloc ?_ ?_ _ | omega | (simp; done) | (simp; omega)))) hb10
                have HR5 := Lib.hid hr5
                clear hb10 cT TB hw4 hv4 hown hr5
                go_wp2_with fail
                go_loopw [20] (fun i wr => ∃ k : Nat, k ≤ r.length ∧ i = .int .i64 k ∧ Below w10.heap.size w10 wr) (fun i _ => r.length - (intOf i).toNat)
                case atStart => exact ⟨0, Nat.zero_le _, rfl, Below.refl _ _⟩
                case round =>
                  obtain ⟨k, hk, rfl, hwr⟩ := hrel
                  have hw0 : Below w.heap.size w wr := stepH hw10 hwr
                  have hv0 : Below w3.heap.size w3 wr := stepH hv10 hwr
                  have TB := keepH hwr TB0.out
                  have x0 : wr.cell? ⟨w3.heap.size, 0, none⟩ = some (.slice A3 r.length c3) := cellH TB 0
                  by_cases hlt : k < r.length
                  · obtain ⟨p, hp⟩ : ∃ p, r[k]? = some p := ⟨r[k], List.getElem?_eq_getElem hlt⟩
                    obtain ⟨g, off, rfl, hg, j0, j1, j2⟩ := cells3 (HR5.out.below hwr (Nat.le_refl _)) hp
                    have hlt2 : (k : Int) < (r.length : Int) := by omega
                    have hpm := List.mem_of_getElem? hp
                    have hpr := HC.out.rise.mem hpm
                    have hpt := HC.out.upTo p hpm
                    have hV1 := Lib.hid (HC.out.rise.at hpm (Int.le_refl _) hpr.2)
                    have hV2 := Lib.hid (HC.out.rise.at (n := p.t - 1) hpm (by omega) (by omega))
                    have HP := Lib.hid hp
                    have i7 : IntKind.i64.wrap (p.t - 1) = p.t - 1 := by have hpt : p.t ≤ 3652059 := hpt; rw [IntKind.wrap_i64]; omega
                    clear hp hpm
                    go_wp2_with fail
                    go_region_held3 (fun w' => w'.cell? ⟨w3.heap.size, 0, none⟩ = some (.slice A3 r.length c3) ∧ w'.cell? ⟨g, off + k * 3, none⟩ = some (.int .i64 p.f) ∧ w'.cell? ⟨g, off + k * 3 + 1, none⟩ = some (.int .i64 p.t) ∧ w'.cell? ⟨g, off + k * 3 + 2, none⟩ = some (.int .i64 p.v)) (first | with_reducible exact ⟨x0, j0, j1, j2⟩ | go_keep)
                      (first | (go_at_call 34; refine (HAT.out p.f _ (by (repeat' (first | with_reducible exact Below.refl _ _ | with_reducible assumption | with_reducible refine Below.drew ?_ | with_reducible refine below_drewN ?_ _ | with_reducible refine Below.setCell ?_ ?_ _ | with_reducible refine Below.alloc ?_ ?_ _ | omega | (simp; done) | (simp; omega))))).mono ?_; rintro e w11 ⟨rfl, hb11⟩; rw [hV1.out]; replace hw0 : Below w.heap.size w w11 := stepH (by (repeat' (first | with_reducible exact Below.refl _ _ | with_reducible assumption | with_reducible refine Below.drew ?_ | with_reducible refine below_drewN ?_ _ | with_reducible refine Below.setCell ?_ ?_ _ | with_reducible refine Below.alloc ?_ ?_ _ | omega | (simp; done) | (simp; omega)))) hb11; replace hv0 : Below w3.heap.size w3 w11 := stepH (by (repeat' (first | with_reducible exact Below.refl _ _ | with_reducible assumption | with_reducible refine Below.drew ?_ | with_reducible refine below_drewN ?_ _ | with_reducible refine Below.setCell ?_ ?_ _ | with_reducible refine Below.alloc ?_ ?_ _ | omega | (simp; done) | (simp; omega)))) hb11; replace hwr : Below w10.heap.size w10 w11 := stepH (by (repeat' (first | with_reducible exact Below.refl _ _ | with_reducible assumption | with_reducible refine Below.drew ?_ | with_reducible refine below_drewN ?_ _ | with_reducible refine Below.setCell ?_ ?_ _ | with_reducible refine Below.alloc ?_ ?_ _ | omega | (simp; done) | (simp; omega)))) hb11; replace x0 := cellOf hb11 (by first | exact x0 | exact cell_drew x0); replace j0 := cellOf hb11 (by first | exact j0 | exact cell_drew j0); replace j1 := cellOf hb11 (by first | exact j1 | exact cell_drew j1); replace j2 := cellOf hb11 (by first | exact j2 | exact cell_drew j2); clear hb11))
                    have e1 : vB6 (some p.v) = true := rfl
                    have e2 : vN (some p.v) = p.v := rfl
                    rw [e1, e2]
                    go_wp2_with fail
                    go_region_held3 (fun w' => w'.cell? ⟨w3.heap.size, 0, none⟩ = some (.slice A3 r.length c3) ∧ w'.cell? ⟨g, off + k * 3, none⟩ = some (.int .i64 p.f) ∧ w'.cell? ⟨g, off + k * 3 + 1, none⟩ = some (.int .i64 p.t) ∧ w'.cell? ⟨g, off + k * 3 + 2, none⟩ = some (.int .i64 p.v)) (first | with_reducible exact ⟨x0, j0, j1, j2⟩ | go_keep)
                      (first | (go_at_call 34; refine (HAT.out (p.t - 1) _ (by (repeat' (first | with_reducible exact Below.refl _ _ | with_reducible assumption | with_reducible refine Below.drew ?_ | with_reducible refine below_drewN ?_ _ | with_reducible refine Below.setCell ?_ ?_ _ | with_reducible refine Below.alloc ?_ ?_ _ | omega | (simp; done) | (simp; omega))))).mono ?_; rintro e w12 ⟨rfl, hb12⟩; rw [hV2.out]; replace hw0 : Below w.heap.size w w12 := stepH (by (repeat' (first | with_reducible exact Below.refl _ _ | with_reducible assumption | with_reducible refine Below.drew ?_ | with_reducible refine below_drewN ?_ _ | with_reducible refine Below.setCell ?_ ?_ _ | with_reducible refine Below.alloc ?_ ?_ _ | omega | (simp; done) | (simp; omega)))) hb12; replace hv0 : Below w3.heap.size w3 w12 := stepH (by (repeat' (first | with_reducible exact Below.refl _ _ | with_reducible assumption | with_reducible refine Below.drew ?_ | with_reducible refine below_drewN ?_ _ | with_reducible refine Below.setCell ?_ ?_ _ | with_reducible refine Below.alloc ?_ ?_ _ | omega | (simp; done) | (simp; omega)))) hb12; replace hwr : Below w10.heap.size w10 w12 := stepH (by (repeat' (first | with_reducible exact Below.refl _ _ | with_reducible assumption | with_reducible refine Below.drew ?_ | with_reducible refine below_drewN ?_ _ | with_reducible refine Below.setCell ?_ ?_ _ | with_reducible refine Below.alloc ?_ ?_ _ | omega | (simp; done) | (simp; omega)))) hb12; replace x0 := cellOf hb12 (by first | exact x0 | exact cell_drew x0); replace j0 := cellOf hb12 (by first | exact j0 | exact cell_drew j0); replace j1 := cellOf hb12 (by first | exact j1 | exact cell_drew j1); replace j2 := cellOf hb12 (by first | exact j2 | exact cell_drew j2); clear hb12))
                    have e3 : (p.v != p.v) = false := bne_self_eq_false _
                    have e4 : decide (p.t ≤ p.f) = false := decide_eq_false (by omega)
                    by_cases hk0 : k = 0
                    · have e5 : decide ((0 : Int) < (k : Int)) = false := decide_eq_false (by omega)
                      have e5b : decide (0 < k) = false := decide_eq_false (by omega)
                      clear hk0
                      go_wp2_with fail
                      go_quiet (fail)
                      go_wp2_with fail
                      go_quiet (fail)
                      go_wp2_with fail
                      go_roundw
                      case rel => exact ⟨k + 1, by omega, by go_num, by (repeat' (first | with_reducible exact Below.refl _ _ | with_reducible assumption | with_reducible refine Below.drew ?_ | with_reducible refine below_drewN ?_ _ | with_reducible refine Below.setCell ?_ ?_ _ | with_reducible refine Below.alloc ?_ ?_ _ | omega | (simp; done) | (simp; omega)))⟩
                      case measure => simp [intOf]; omega
                    · obtain ⟨k1, rfl⟩ : ∃ k1, k = k1 + 1 := ⟨k - 1, by omega⟩
                      obtain ⟨q, hq⟩ : ∃ q, r[k1]? = some q := ⟨r[k1], List.getElem?_eq_getElem (by omega)⟩
                      obtain ⟨_, _, eA, _, m0, m1, m2⟩ := cells3 (HR5.out.below hwr (Nat.le_refl _)) hq
                      cases eA
                      have hn1 := HC.out.rise.next hq HP.out
                      have hn2 := Lib.hid (HC.out.apart.next hq HP.out)
                      have e5 : decide ((0 : Int) < (k1 : Int) + 1) = true := decide_eq_true (by omega)
                      have e6 : decide (p.f < q.t) = false := decide_eq_false (by omega)
                      have f1 : (k1 : Int) + 1 - 1 = (k1 : Int) := by omega
                      have f2 : IntKind.i64.wrap (k1 : Int) = (k1 : Int) := by rw [IntKind.wrap_i64]; omega
                      have f3 : IntKind.i64.wrap ((k1 : Int) + 1 - 1) = (k1 : Int) := by rw [IntKind.wrap_i64]; omega
                      have f4 : (k1 : Int) < (r.length : Int) := by omega
                      have f5 : ((k1 : Int)).toNat = k1 := by omega
                      have f6 : ((k1 : Int) + 1).toNat = k1 + 1 := by omega
                      have f7 : (k1 : Int) + 1 < (r.length : Int) := by omega
                      clear hq
                      by_cases ht : q.t = p.f
                      · have e7 : (q.t == p.f) = true := by simp [ht]
                        have e8 : (q.v == p.v) = false := by simpa using fun h => hn2.out ⟨ht, h⟩
                        clear ht
                        go_wp2_with fail
                        go_quiet (fail)
                        go_wp2_with fail
                        go_quiet (fail)
                        go_wp2_with fail
                        go_roundw
                        case rel => exact ⟨k1 + 1 + 1, by omega, by go_num, by (repeat' (first | with_reducible exact Below.refl _ _ | with_reducible assumption | with_reducible refine Below.drew ?_ | with_reducible refine below_drewN ?_ _ | with_reducible refine Below.setCell ?_ ?_ _ | with_reducible refine Below.alloc ?_ ?_ _ | omega | (simp; done) | (simp; omega)))⟩
                        case measure => simp [intOf]; omega
                      · have e7 : (q.t == p.f) = false := by simp [ht]
                        clear ht
                        go_wp2_with fail
                        go_quiet (fail)
                        go_wp2_with fail
                        go_quiet (fail)
                        go_wp2_with fail
                        go_roundw
                        case rel => exact ⟨k1 + 1 + 1, by omega, by go_num, by (repeat' (first | with_reducible exact Below.refl _ _ | with_reducible assumption | with_reducible refine Below.drew ?_ | with_reducible refine below_drewN ?_ _ | with_reducible refine Below.setCell ?_ ?_ _ | with_reducible refine Below.alloc ?_ ?_ _ | omega | (simp; done) | (simp; omega)))⟩
                        case measure => simp [intOf]; omega
                  · go_wp2_with fail
                    go_ret
                    exact ⟨rfl, hw0⟩
    · have hb : ∃ p ∈ l, ¬ ValidP MD p := by
        refine Classical.byContradiction fun h => hv fun p hp => Classical.byContradiction fun hn => h ⟨p, hp, hn⟩
      have hen := fun w => eql_nil (E 0) w
      clear hv
      refine (make6_bad l A2 c2 E _ hrow2 (by omega) hb (HE.out.below (by (repeat' (first | with_reducible exact Below.refl _ _ | with_reducible assumption | with_reducible refine Below.drew ?_ | with_reducible refine below_drewN ?_ _ | with_reducible refine Below.setCell ?_ ?_ _ | with_reducible refine Below.alloc ?_ ?_ _ | omega | (simp; done) | (simp; omega)))))).mono ?_
      rintro e w3 ⟨rfl, hb3⟩
      have hw3 : Below w.heap.size w w3 := stepH (by (repeat' (first | with_reducible exact Below.refl _ _ | with_reducible assumption | with_reducible refine Below.drew ?_ | with_reducible refine below_drewN ?_ _ | with_reducible refine Below.setCell ?_ ?_ _ | with_reducible refine Below.alloc ?_ ?_ _ | omega | (simp; done) | (simp; omega)))) hb3
      have z3 := hw3.size
      go_wp2_with fail
      go_ret
      exact ⟨rfl, by (repeat' (first | with_reducible exact Below.refl _ _ | with_reducible assumption | with_reducible refine Below.drew ?_ | with_reducible refine below_drewN ?_ _ | with_reducible refine Below.setCell ?_ ?_ _ | with_reducible refine Below.alloc ?_ ?_ _ | omega | (simp; done) | (simp; omega)))⟩

end Go.Proofs.YtjcdlhplflmneaaDoor
