/- The walk of FracSums. -/
import Derived.Test.YtbmkbhclkaopaaaDoorSumsLaw
import Derived.Outline
import Derived.Deep.DeepCutAuto
namespace Go.Proofs.YtbmkbhclkaopaaaDoor
open Go.RowKit

set_option maxRecDepth 100000 in
set_option maxHeartbeats 8000000 in
theorem fracSums_walk (l : List (Int × Int)) (A : Option Addr) (c : Nat) (t : Int) (E : Nat → Addr) (w : World) (hc : l.length ≤ c) (hl : RowAt encF 2 w w.heap.size A l) (hI : ∀ x ∈ l, In2 x) (hE : Env LF E w) :
    Calls Tryd.prog 8 #[.slice A l.length c, .int .i64 t] w fun e w' => e = .returned (.bool true) ∧ Below w.heap.size w w' := by
  have HE := Lib.hid hE
  have HL := Lib.hid hl
  have HI := Lib.hid hI
  clear hE hl hI
  by_cases hn : l.length ≤ 2000
  · go_enter Tryd.func8, Tryd.ntmps8
    go_wp2_with fail
    refine (first_any E _ (HE.out.below (by (repeat (first | exact Below.refl _ _ | assumption | refine Below.drew ?_ | refine below_drewN ?_ _ | refine Below.setCell ?_ (by first | omega | (simp; done) | (simp; omega)) _ | refine Below.alloc ?_ (by first | omega | (simp; done) | (simp; omega)) _))))).mono ?_
    rintro e w1 ⟨rfl, hb1⟩
    have hw1 : Below w.heap.size w w1 := stepH (by (repeat (first | exact Below.refl _ _ | assumption | refine Below.drew ?_ | refine below_drewN ?_ _ | refine Below.setCell ?_ (by first | omega | (simp; done) | (simp; omega)) _ | refine Below.alloc ?_ (by first | omega | (simp; done) | (simp; omega)) _))) hb1
    have z1 := hw1.size
    clear hb1
    go_wp2_with fail
    obtain ⟨i0, hi, jz0, jz1, jz2⟩ := info_parts infoFrac
    go_loopw [7, 8, 9] (fun up back i wr => ∃ (k : Nat) (u : Bool), k ≤ l.length ∧ i = .int .i64 k ∧ up = .bool u ∧ Hid (u = upB (l.take k)) ∧ wr.ownsRow w.heap.size 23 2 back k ((l.reverse.take k).flatMap encF) ∧ Hid (∀ j x, j < k → l[j]? = some x → validB x.1 x.2 = true) ∧ Below w.heap.size w wr) (fun _ _ i _ => l.length - (intOf i).toNat)
    case atStart => exact ⟨0, true, Nat.zero_le _, rfl, rfl, rfl, World.ownsRow_nil _ _ _ _, fun j x h => by omega, hw1⟩
    case round =>
      obtain ⟨k, u, hk, rfl, rfl, hu, hown, hv, hb⟩ := hrel
      clear hw1 z1
      have hz := hb.size
      by_cases hlt : k < l.length
      · obtain ⟨⟨xn, xd⟩, hx⟩ : ∃ x, l[k]? = some x := ⟨l[k], List.getElem?_eq_getElem hlt⟩
        obtain ⟨⟨yn, yd⟩, hy⟩ : ∃ x, l[l.length - 1 - k]? = some x := ⟨l[l.length - 1 - k]'(by omega), List.getElem?_eq_getElem _⟩
        obtain ⟨b, off, rfl, hbB, hcell⟩ := HL.out.below hb (Nat.le_refl _) k _ hx
        obtain ⟨b', off', hbo, _, hcell2⟩ := HL.out.below hb (Nat.le_refl _) _ _ hy
        injection hbo with hbo
        injection hbo with hbo1 hbo2
        subst hbo1 hbo2
        have HCY : Hid (wr.cell? ⟨b, off + (l.length - 1 - k) * 2, none⟩ = some (.int .i64 yn) ∧ wr.cell? ⟨b, off + (l.length - 1 - k) * 2 + 1, none⟩ = some (.int .i64 yd)) := ⟨hcell2 0 _ rfl, hcell2 1 _ rfl⟩
        have HCX : Hid (wr.cell? ⟨b, off + k * 2, none⟩ = some (.int .i64 xn) ∧ wr.cell? ⟨b, off + k * 2 + 1, none⟩ = some (.int .i64 xd)) := ⟨hcell 0 _ rfl, hcell 1 _ rfl⟩
        obtain ⟨c0, c1⟩ := HCX.out
        have HX := Lib.hid hx
        have HY := Lib.hid hy
        clear hx hy hcell hcell2
        have I := Lib.hid (HI.out _ (List.mem_of_getElem? HX.out))
        have V := refValid_any xn xd
        unfold pv at V
        cases hvx : validB xn xd
        · rw [hvx] at V
          have HV := Lib.hid V
          clear V hvx
          go_wp2_with fail
          refine (HV.out _ I.out.1 I.out.2.1 I.out.2.2.1 I.out.2.2.2).mono ?_
          rintro e w2 ⟨rfl, hb2⟩
          have hw2 : Below w.heap.size w w2 := stepH (by (repeat (first | exact Below.refl _ _ | assumption | refine Below.drew ?_ | refine below_drewN ?_ _ | refine Below.setCell ?_ (by first | omega | (simp; done) | (simp; omega)) _ | refine Below.alloc ?_ (by first | omega | (simp; done) | (simp; omega)) _))) hb2
          go_wp2_with fail
          go_ret
          exact ⟨rfl, hw2⟩
        · rw [hvx] at V
          have HV := Lib.hid V
          have HVX := Lib.hid hvx
          clear V hvx
          go_wp2_with fail
          refine (HV.out _ I.out.1 I.out.2.1 I.out.2.2.1 I.out.2.2.2).mono ?_
          rintro e w2 ⟨rfl, hb2⟩
          have hw2 : Below w.heap.size w w2 := stepH (by (repeat (first | exact Below.refl _ _ | assumption | refine Below.drew ?_ | refine below_drewN ?_ _ | refine Below.setCell ?_ (by first | omega | (simp; done) | (simp; omega)) _ | refine Below.alloc ?_ (by first | omega | (simp; done) | (simp; omega)) _))) hb2
          have hz2 := hw2.size
          have hown2 := own_below hown hb2
          have D0 : w2.cell? ⟨b, off + k * 2, none⟩ = some (.int .i64 xn) := cellOf hb2 c0
          have D2 : w2.cell? ⟨b, off + (l.length - 1 - k) * 2, none⟩ = some (.int .i64 yn) := cellOf hb2 HCY.out.1
          have D3 : w2.cell? ⟨b, off + (l.length - 1 - k) * 2 + 1, none⟩ = some (.int .i64 yd) := cellOf hb2 HCY.out.2
          clear c0 c1
          have huk : upB (l.take (k + 1)) = (u && decide (0 ≤ xn)) := by rw [take_snoc HX.out, upB_snoc, hu.out]
          have HUK := Lib.hid huk
          clear huk
          by_cases h0 : 0 ≤ xn
          all_goals cases u
          all_goals
            go_wp2_with (at_builtin; go_must (refine wpList_append_own _ rfl (.tmp 53) (.tmp 61) 42 rfl w.heap.size 23 i0 _ 2 16 Tryd.underlying42 hi jz0 jz1 jz2 rfl (by decide) _ k _ rfl (hown2.alloc _) ⟨w2.heap.size, 0, none⟩ 1 1 [.int .i64 yn, .int .i64 yd] rfl rfl (cell_two_new _ _ _ _) (by simp [Value.oneCell']) (by unfold maxLen; omega) (by omega) (by simp; omega) ?_); intro v' w3 hown3 hgrow3 _)
            go_roundw
            case rel =>
              refine ⟨k + 1, _, by omega, by go_num, rfl, ?_, ?_, ?_, (Below.alloc hw2 hz2 _).grown hgrow3 (by simp; omega) (fun g hg => (hown2.lt g hg).1)⟩
              · show _ = _
                rw [HUK.out]; simp [h0]
              · have hyr : l.reverse[k]? = some (yn, yd) := by rw [List.getElem?_reverse hlt]; exact HY.out
                rw [take_snoc hyr, List.flatMap_append]; simpa [encF] using hown3
              · intro j x hj hx
                rcases Nat.lt_or_ge j k with h | h
                · exact hv.out j x h hx
                · obtain rfl : j = k := by omega
                  rw [HX.out] at hx
                  cases hx
                  exact HVX.out
            case measure => simp [intOf]; omega
      · obtain rfl : k = l.length := by omega
        have hq0 : ∀ x ∈ l, validB x.1 x.2 = true := fun x hx => by
          obtain ⟨j, hj⟩ := List.getElem?_of_mem hx
          exact hv.out j x (List.getElem?_eq_some_iff.1 hj).1 hj
        obtain ⟨qs, hqs, hq⟩ := all_fq hq0
        have HQS := Lib.hid hqs
        have HQ := Lib.hid hq
        obtain ⟨A2, c2, hbk, hc2, hm2, hr2⟩ := own_rev hown
        subst hbk
        have HIR : Hid (∀ x ∈ l.reverse, In2 x) := fun x hx => HI.out x (List.mem_reverse.1 hx)
        have HR := Lib.hid hr2
        have HUP : Hid (u = upB l) := by show u = _; rw [hu.out, List.take_length]
        clear hqs hq hq0 hv hlt hk hown hu hr2
        have hw10 := hb
        have z10 := hz
        clear hb hz
        cases hf : foldR 0 qs
        · rename_i g
          go_wp2_with fail
          refine (fracs_at l l.length A c _ rfl ((HL.out.below hw10 (Nat.le_refl _)).more (by omega)) (by omega)).mono ?_
          rintro e w11 ⟨A1, c1, rfl, hc1, hm1, hr1, hb11⟩
          have hw11 : Below w.heap.size w w11 := stepH (by (repeat (first | exact Below.refl _ _ | assumption | refine Below.drew ?_ | refine below_drewN ?_ _ | refine Below.setCell ?_ (by first | omega | (simp; done) | (simp; omega)) _ | refine Below.alloc ?_ (by first | omega | (simp; done) | (simp; omega)) _))) hb11
          have z11 := hw11.size
          clear hw10 z10
          go_wp2_with fail
          refine (sum_at l l.length A1 c1 E _ rfl hc1 hm1 hr1 HI.out (HE.out.below (by (repeat (first | exact Below.refl _ _ | assumption | refine Below.drew ?_ | refine below_drewN ?_ _ | refine Below.setCell ?_ (by first | omega | (simp; done) | (simp; omega)) _ | refine Below.alloc ?_ (by first | omega | (simp; done) | (simp; omega)) _))))).mono ?_
          rintro e w12 ⟨⟨n, d, err, rfl, hres⟩, hb12⟩
          have hw12 : Below w.heap.size w w12 := stepH (by (repeat (first | exact Below.refl _ _ | assumption | refine Below.drew ?_ | refine below_drewN ?_ _ | refine Below.setCell ?_ (by first | omega | (simp; done) | (simp; omega)) _ | refine Below.alloc ?_ (by first | omega | (simp; done) | (simp; omega)) _))) hb12
          have hrv := (((HR.out.below hb11 (Nat.le_refl _)).more hb11.size).below hb12 (Nat.le_refl _)).more hb12.size
          clear hr1 hc1 hm1
          have z12 := hw12.size
          clear hb12 hw11 z11
          rw [show sumI l = foldR 0 qs by rw [HQS.out]; exact sumI_fq HQ.out, hf] at hres
          obtain ⟨rfl, rfl, rfl⟩ := hres
          have hen := fun w => eql_nil (E g) w
          go_wp2_with fail
          refine (sum_at l.reverse l.length A2 c2 E _ (List.length_reverse ..) hc2 hm2 ((hrv.below (Below.alloc (Below.refl _ _) (Nat.le_refl _) _) (Nat.le_refl _)).more (by simp)) HIR.out (HE.out.below (by (repeat (first | exact Below.refl _ _ | assumption | refine Below.drew ?_ | refine below_drewN ?_ _ | refine Below.setCell ?_ (by first | omega | (simp; done) | (simp; omega)) _ | refine Below.alloc ?_ (by first | omega | (simp; done) | (simp; omega)) _))))).mono ?_
          rintro e w13 ⟨⟨n2, d2, err2, rfl, hres2⟩, hb13⟩
          have hw13 : Below w.heap.size w w13 := stepH (by (repeat (first | exact Below.refl _ _ | assumption | refine Below.drew ?_ | refine below_drewN ?_ _ | refine Below.setCell ?_ (by first | omega | (simp; done) | (simp; omega)) _ | refine Below.alloc ?_ (by first | omega | (simp; done) | (simp; omega)) _))) hb13
          clear hrv
          rw [sumI_rev HQS.out HQ.out] at hres2
          have X := keepH hb13 (g := w12.heap.size) (blk_new rfl)
          have z13 := hw13.size
          clear hb13 hw12 z12
          have cX := cellH X
          obtain ⟨lX, lX1, lX2⟩ := ltH X
          go_upto_if 87 with fail
          go_cut [15] (fun s15 wx => (∃ K : Nat, K ≤ l.length ∧ s15 = .int .i64 K) ∧ Below w.heap.size w wx ∧ Hid (wx.heap[w12.heap.size]? = some (.cells #[.int .i64 0, .int .i64 0] 23 (0, 0))) ∧ Hid (wx.heap[w13.heap.size]? = some (.cells #[.int .i64 n2, .int .i64 d2] 23 (0, 0))))
          case first =>
            by_cases hp : 0 < l.length
            · obtain ⟨K, hK, hKe, hK1, hK2⟩ := cutIdx t l.length hp
              have HKE := Lib.hid hKe
              clear hKe
              go_wp2_with fail
              go_meet
              exact ⟨⟨K, by omega, by rw [← HKE.out]⟩, (by (repeat (first | exact Below.refl _ _ | assumption | refine Below.drew ?_ | refine below_drewN ?_ _ | refine Below.setCell ?_ (by first | omega | (simp; done) | (simp; omega)) _ | refine Below.alloc ?_ (by first | omega | (simp; done) | (simp; omega)) _))), (blk_old X.out), (blk_new rfl)⟩
            · go_wp2_with fail
              go_meet
              exact ⟨⟨0, by omega, rfl⟩, (by (repeat (first | exact Below.refl _ _ | assumption | refine Below.drew ?_ | refine below_drewN ?_ _ | refine Below.setCell ?_ (by first | omega | (simp; done) | (simp; omega)) _ | refine Below.alloc ?_ (by first | omega | (simp; done) | (simp; omega)) _))), (blk_old X.out), (blk_new rfl)⟩
          case rest =>
            as_aux_lemma =>
              clear cX lX lX1 lX2
              clear X
              obtain ⟨⟨K, hK, rfl⟩, hw14, X, Y⟩ := hcut
              obtain ⟨w14, rfl⟩ : ∃ x : World, x = wc := ⟨_, rfl⟩
              have z14 := hw14.size
              have cX := cellH X
              obtain ⟨lX, lX1, lX2⟩ := ltH X
              have cY := cellH Y
              obtain ⟨lY, lY1, lY2⟩ := ltH Y
              go_wp2_with fail
              have hbx : Below w.heap.size w w14 := by (repeat (first | exact Below.refl _ _ | assumption | refine Below.drew ?_ | refine below_drewN ?_ _ | refine Below.setCell ?_ (by first | omega | (simp; done) | (simp; omega)) _ | refine Below.alloc ?_ (by first | omega | (simp; done) | (simp; omega)) _))
              have hrow := (HL.out.below hbx (Nat.le_refl _)).take K
              have hrow2 := hrow.more hbx.size
              refine (fracs_at (l.take K) K _ _ _ (by rw [List.length_take]; omega) hrow2 (by omega)).mono ?_
              rintro e w15 ⟨A15, c15, rfl, hc15, hm15, hr15, hb15⟩
              have hw15 : Below w.heap.size w w15 := stepH (by (repeat (first | exact Below.refl _ _ | assumption | refine Below.drew ?_ | refine below_drewN ?_ _ | refine Below.setCell ?_ (by first | omega | (simp; done) | (simp; omega)) _ | refine Below.alloc ?_ (by first | omega | (simp; done) | (simp; omega)) _))) hb15
              clear hbx hrow hrow2
              replace X := keepH hb15 X.out
              have z15 := hw15.size
              clear hb15 hw14 z14
              clear cX lX lX1 lX2 cY lY lY1 lY2
              have cX := cellH X
              obtain ⟨lX, lX1, lX2⟩ := ltH X
              go_wp2_with fail
              refine (sum_at (l.take K) K A15 c15 E _ (by rw [List.length_take]; omega) hc15 hm15 hr15 (fun x hx => HI.out x (List.mem_of_mem_take hx)) (HE.out.below (by (repeat (first | exact Below.refl _ _ | assumption | refine Below.drew ?_ | refine below_drewN ?_ _ | refine Below.setCell ?_ (by first | omega | (simp; done) | (simp; omega)) _ | refine Below.alloc ?_ (by first | omega | (simp; done) | (simp; omega)) _))))).mono ?_
              rintro e w16 ⟨⟨na, da, erra, rfl, hresa⟩, hb16⟩
              have hw16 : Below w.heap.size w w16 := stepH (by (repeat (first | exact Below.refl _ _ | assumption | refine Below.drew ?_ | refine below_drewN ?_ _ | refine Below.setCell ?_ (by first | omega | (simp; done) | (simp; omega)) _ | refine Below.alloc ?_ (by first | omega | (simp; done) | (simp; omega)) _))) hb16
              clear hr15 hc15 hm15
              rw [sumI_take HQS.out HQ.out] at hresa
              replace X := keepH hb16 X.out
              have z16 := hw16.size
              clear hb16 hw15 z15
              clear cX lX lX1 lX2
              have cX := cellH X
              obtain ⟨lX, lX1, lX2⟩ := ltH X
              obtain ⟨AK, hAK⟩ : ∃ x, (if c = K then A else A.map (·.add (K * 2))) = x := ⟨_, rfl⟩
              go_wp2_with fail
              have hbx : Below w.heap.size w (w16.alloc (.cells #[.int .i64 na, .int .i64 da] 23)) := by (repeat (first | exact Below.refl _ _ | assumption | refine Below.drew ?_ | refine below_drewN ?_ _ | refine Below.setCell ?_ (by first | omega | (simp; done) | (simp; omega)) _ | refine Below.alloc ?_ (by first | omega | (simp; done) | (simp; omega)) _))
              have hrow := (HL.out.below hbx (Nat.le_refl _)).drop K c hc
              rw [hAK] at hrow
              have hrow2 := hrow.more hbx.size
              refine (fracs_at (l.drop K) (l.length - K) _ _ _ (by rw [List.length_drop]) hrow2 (by omega)).mono ?_
              rintro e w17 ⟨A17, c17, rfl, hc17, hm17, hr17, hb17⟩
              have hw17 : Below w.heap.size w w17 := stepH (by (repeat (first | exact Below.refl _ _ | assumption | refine Below.drew ?_ | refine below_drewN ?_ _ | refine Below.setCell ?_ (by first | omega | (simp; done) | (simp; omega)) _ | refine Below.alloc ?_ (by first | omega | (simp; done) | (simp; omega)) _))) hb17
              clear hbx hrow hrow2
              clear hAK
              replace X := keepH hb17 (blk_old X.out)
              have Ga := keepH hb17 (g := w16.heap.size) (blk_new rfl)
              have z17 := hw17.size
              clear hb17 hw16 z16
              clear cX lX lX1 lX2
              have cX := cellH X
              obtain ⟨lX, lX1, lX2⟩ := ltH X
              have cGa := cellH Ga
              obtain ⟨lGa, lGa1, lGa2⟩ := ltH Ga
              go_wp2_with fail
              refine (sum_at (l.drop K) (l.length - K) A17 c17 E _ (by rw [List.length_drop]) hc17 hm17 hr17 (fun x hx => HI.out x (List.mem_of_mem_drop hx)) (HE.out.below (by (repeat (first | exact Below.refl _ _ | assumption | refine Below.drew ?_ | refine below_drewN ?_ _ | refine Below.setCell ?_ (by first | omega | (simp; done) | (simp; omega)) _ | refine Below.alloc ?_ (by first | omega | (simp; done) | (simp; omega)) _))))).mono ?_
              rintro e w18 ⟨⟨nb, db, errb, rfl, hresb⟩, hb18⟩
              have hw18 : Below w.heap.size w w18 := stepH (by (repeat (first | exact Below.refl _ _ | assumption | refine Below.drew ?_ | refine below_drewN ?_ _ | refine Below.setCell ?_ (by first | omega | (simp; done) | (simp; omega)) _ | refine Below.alloc ?_ (by first | omega | (simp; done) | (simp; omega)) _))) hb18
              clear hr17 hc17 hm17
              rw [sumI_drop HQS.out HQ.out] at hresb
              replace X := keepH hb18 X.out
              replace Ga := keepH hb18 Ga.out
              have z18 := hw18.size
              clear hb18 hw17 z17
              clear cX lX lX1 lX2 cGa lGa lGa1 lGa2
              have cX := cellH X
              obtain ⟨lX, lX1, lX2⟩ := ltH X
              have cGa := cellH Ga
              obtain ⟨lGa, lGa1, lGa2⟩ := ltH Ga
              have hw19 : Below w.heap.size w (w18.alloc (.cells #[.int .i64 nb, .int .i64 db] 23)) := by (repeat (first | exact Below.refl _ _ | assumption | refine Below.drew ?_ | refine below_drewN ?_ _ | refine Below.setCell ?_ (by first | omega | (simp; done) | (simp; omega)) _ | refine Below.alloc ?_ (by first | omega | (simp; done) | (simp; omega)) _))
              replace X : Hid ((w18.alloc (.cells #[.int .i64 nb, .int .i64 db] 23)).heap[w12.heap.size]? = some (.cells #[.int .i64 0, .int .i64 0] 23 (0, 0))) := (blk_old X.out)
              replace Ga : Hid ((w18.alloc (.cells #[.int .i64 nb, .int .i64 db] 23)).heap[w16.heap.size]? = some (.cells #[.int .i64 na, .int .i64 da] 23 (0, 0))) := (blk_old Ga.out)
              have Gb : Hid ((w18.alloc (.cells #[.int .i64 nb, .int .i64 db] 23)).heap[w18.heap.size]? = some (.cells #[.int .i64 nb, .int .i64 db] 23 (0, 0))) := (blk_new rfl)
              clear cX lX lX1 lX2 cGa lGa lGa1 lGa2
              generalize (w18.alloc (.cells #[.int .i64 nb, .int .i64 db] 23)) = w19 at *
              have z19 := hw19.size
              have cX := cellH X
              obtain ⟨lX, lX1, lX2⟩ := ltH X
              have cGa := cellH Ga
              obtain ⟨lGa, lGa1, lGa2⟩ := ltH Ga
              have cGb := cellH Gb
              obtain ⟨lGb, lGb1, lGb2⟩ := ltH Gb
              cases u
              · go_wp2_with fail
                go_quiet (fail)
                go_wp2_with fail
                go_ret
                exact ⟨rfl, by (repeat (first | exact Below.refl _ _ | assumption | refine Below.drew ?_ | refine below_drewN ?_ _ | refine Below.setCell ?_ (by first | omega | (simp; done) | (simp; omega)) _ | refine Below.alloc ?_ (by first | omega | (simp; done) | (simp; omega)) _))⟩
              · go_wp2_with fail
                go_quiet (fail)
                go_wp2_with fail
                go_ret
                exact ⟨rfl, by (repeat (first | exact Below.refl _ _ | assumption | refine Below.drew ?_ | refine below_drewN ?_ _ | refine Below.setCell ?_ (by first | omega | (simp; done) | (simp; omega)) _ | refine Below.alloc ?_ (by first | omega | (simp; done) | (simp; omega)) _))⟩
        · rename_i qX
          go_wp2_with fail
          refine (fracs_at l l.length A c _ rfl ((HL.out.below hw10 (Nat.le_refl _)).more (by omega)) (by omega)).mono ?_
          rintro e w20 ⟨A1, c1, rfl, hc1, hm1, hr1, hb20⟩
          have hw20 : Below w.heap.size w w20 := stepH (by (repeat (first | exact Below.refl _ _ | assumption | refine Below.drew ?_ | refine below_drewN ?_ _ | refine Below.setCell ?_ (by first | omega | (simp; done) | (simp; omega)) _ | refine Below.alloc ?_ (by first | omega | (simp; done) | (simp; omega)) _))) hb20
          have z20 := hw20.size
          clear hw10 z10
          go_wp2_with fail
          refine (sum_at l l.length A1 c1 E _ rfl hc1 hm1 hr1 HI.out (HE.out.below (by (repeat (first | exact Below.refl _ _ | assumption | refine Below.drew ?_ | refine below_drewN ?_ _ | refine Below.setCell ?_ (by first | omega | (simp; done) | (simp; omega)) _ | refine Below.alloc ?_ (by first | omega | (simp; done) | (simp; omega)) _))))).mono ?_
          rintro e w21 ⟨⟨n, d, err, rfl, hres⟩, hb21⟩
          have hw21 : Below w.heap.size w w21 := stepH (by (repeat (first | exact Below.refl _ _ | assumption | refine Below.drew ?_ | refine below_drewN ?_ _ | refine Below.setCell ?_ (by first | omega | (simp; done) | (simp; omega)) _ | refine Below.alloc ?_ (by first | omega | (simp; done) | (simp; omega)) _))) hb21
          have hrv := (((HR.out.below hb20 (Nat.le_refl _)).more hb20.size).below hb21 (Nat.le_refl _)).more hb21.size
          clear hr1 hc1 hm1
          have z21 := hw21.size
          clear hb21 hw20 z20
          rw [show sumI l = foldR 0 qs by rw [HQS.out]; exact sumI_fq HQ.out, hf] at hres
          obtain ⟨rfl, rfl, rfl⟩ := hres
          go_wp2_with fail
          refine (sum_at l.reverse l.length A2 c2 E _ (List.length_reverse ..) hc2 hm2 ((hrv.below (Below.alloc (Below.refl _ _) (Nat.le_refl _) _) (Nat.le_refl _)).more (by simp)) HIR.out (HE.out.below (by (repeat (first | exact Below.refl _ _ | assumption | refine Below.drew ?_ | refine below_drewN ?_ _ | refine Below.setCell ?_ (by first | omega | (simp; done) | (simp; omega)) _ | refine Below.alloc ?_ (by first | omega | (simp; done) | (simp; omega)) _))))).mono ?_
          rintro e w22 ⟨⟨n2, d2, err2, rfl, hres2⟩, hb22⟩
          have hw22 : Below w.heap.size w w22 := stepH (by (repeat (first | exact Below.refl _ _ | assumption | refine Below.drew ?_ | refine below_drewN ?_ _ | refine Below.setCell ?_ (by first | omega | (simp; done) | (simp; omega)) _ | refine Below.alloc ?_ (by first | omega | (simp; done) | (simp; omega)) _))) hb22
          clear hrv
          rw [sumI_rev HQS.out HQ.out] at hres2
          have X := keepH hb22 (g := w21.heap.size) (blk_new rfl)
          have z22 := hw22.size
          clear hb22 hw21 z21
          have cX := cellH X
          obtain ⟨lX, lX1, lX2⟩ := ltH X
          go_upto_region 17 with fail
          go_cut [85] (fun s85 wx => s85 = .bool false ∧ Below w.heap.size w wx ∧ Hid (wx.heap[w21.heap.size]? = some (.cells #[.int .i64 qX.num, .int .i64 qX.den] 23 (0, 0))) ∧ Hid (wx.heap[w22.heap.size]? = some (.cells #[.int .i64 n2, .int .i64 d2] 23 (0, 0))))
          case first =>
            cases hf2 : foldR 0 qs.reverse
            · rename_i g2
              rw [hf2] at hres2
              obtain ⟨rfl, rfl, rfl⟩ := hres2
              have hen := fun w => eql_nil (E g2) w
              go_wp2_with fail
              go_meet
              exact ⟨rfl, (by (repeat (first | exact Below.refl _ _ | assumption | refine Below.drew ?_ | refine below_drewN ?_ _ | refine Below.setCell ?_ (by first | omega | (simp; done) | (simp; omega)) _ | refine Below.alloc ?_ (by first | omega | (simp; done) | (simp; omega)) _))), (blk_old X.out), (blk_new rfl)⟩
            · rename_i Y0
              rw [hf2] at hres2
              obtain ⟨rfl, rfl, rfl⟩ := hres2
              obtain rfl : qX = Y0 := by rw [foldR_sum hf, foldR_sum hf2, sumL_reverse]
              clear hf2
              have hw23 : Below w.heap.size w (w22.alloc (.cells #[.int .i64 qX.num, .int .i64 qX.den] 23)) := by (repeat (first | exact Below.refl _ _ | assumption | refine Below.drew ?_ | refine below_drewN ?_ _ | refine Below.setCell ?_ (by first | omega | (simp; done) | (simp; omega)) _ | refine Below.alloc ?_ (by first | omega | (simp; done) | (simp; omega)) _))
              replace X : Hid ((w22.alloc (.cells #[.int .i64 qX.num, .int .i64 qX.den] 23)).heap[w21.heap.size]? = some (.cells #[.int .i64 qX.num, .int .i64 qX.den] 23 (0, 0))) := (blk_old X.out)
              have Y : Hid ((w22.alloc (.cells #[.int .i64 qX.num, .int .i64 qX.den] 23)).heap[w22.heap.size]? = some (.cells #[.int .i64 qX.num, .int .i64 qX.den] 23 (0, 0))) := (blk_new rfl)
              clear cX lX lX1 lX2
              generalize (w22.alloc (.cells #[.int .i64 qX.num, .int .i64 qX.den] 23)) = w23 at *
              have z23 := hw23.size
              have cX := cellH X
              obtain ⟨lX, lX1, lX2⟩ := ltH X
              have cY := cellH Y
              obtain ⟨lY, lY1, lY2⟩ := ltH Y
              go_wp2_with fail
              refine (first_same _ _ _).mono ?_
              rintro e w24 ⟨rfl, hb24⟩
              have hw24 : Below w.heap.size w w24 := stepH (by (repeat (first | exact Below.refl _ _ | assumption | refine Below.drew ?_ | refine below_drewN ?_ _ | refine Below.setCell ?_ (by first | omega | (simp; done) | (simp; omega)) _ | refine Below.alloc ?_ (by first | omega | (simp; done) | (simp; omega)) _))) hb24
              replace X := keepH hb24 X.out
              replace Y := keepH hb24 Y.out
              have z24 := hw24.size
              clear hb24 hw23 z23
              clear cX lX lX1 lX2 cY lY lY1 lY2
              have cX := cellH X
              obtain ⟨lX, lX1, lX2⟩ := ltH X
              have cY := cellH Y
              obtain ⟨lY, lY1, lY2⟩ := ltH Y
              go_wp2_with fail
              go_meet
              exact ⟨rfl, (by (repeat (first | exact Below.refl _ _ | assumption | refine Below.drew ?_ | refine below_drewN ?_ _ | refine Below.setCell ?_ (by first | omega | (simp; done) | (simp; omega)) _ | refine Below.alloc ?_ (by first | omega | (simp; done) | (simp; omega)) _))), X, Y⟩
          case rest =>
            as_aux_lemma =>
              clear cX lX lX1 lX2
              clear X
              obtain ⟨rfl, hw25, X, Y⟩ := hcut
              obtain ⟨w25, rfl⟩ : ∃ x : World, x = wc := ⟨_, rfl⟩
              have z25 := hw25.size
              have cX := cellH X
              obtain ⟨lX, lX1, lX2⟩ := ltH X
              have cY := cellH Y
              obtain ⟨lY, lY1, lY2⟩ := ltH Y
              go_upto_if 87 with fail
              go_cut [15] (fun s15 wx => (∃ K : Nat, K ≤ l.length ∧ s15 = .int .i64 K) ∧ Below w.heap.size w wx ∧ Hid (wx.heap[w21.heap.size]? = some (.cells #[.int .i64 qX.num, .int .i64 qX.den] 23 (0, 0))) ∧ Hid (wx.heap[w22.heap.size]? = some (.cells #[.int .i64 n2, .int .i64 d2] 23 (0, 0))))
              case first =>
                by_cases hp : 0 < l.length
                · obtain ⟨K, hK, hKe, hK1, hK2⟩ := cutIdx t l.length hp
                  have HKE := Lib.hid hKe
                  clear hKe
                  go_wp2_with fail
                  go_meet
                  exact ⟨⟨K, by omega, by rw [← HKE.out]⟩, (by (repeat (first | exact Below.refl _ _ | assumption | refine Below.drew ?_ | refine below_drewN ?_ _ | refine Below.setCell ?_ (by first | omega | (simp; done) | (simp; omega)) _ | refine Below.alloc ?_ (by first | omega | (simp; done) | (simp; omega)) _))), X, Y⟩
                · go_wp2_with fail
                  go_meet
                  exact ⟨⟨0, by omega, rfl⟩, (by (repeat (first | exact Below.refl _ _ | assumption | refine Below.drew ?_ | refine below_drewN ?_ _ | refine Below.setCell ?_ (by first | omega | (simp; done) | (simp; omega)) _ | refine Below.alloc ?_ (by first | omega | (simp; done) | (simp; omega)) _))), X, Y⟩
              case rest =>
                as_aux_lemma =>
                  clear cX lX lX1 lX2 cY lY lY1 lY2
                  clear X Y
                  obtain ⟨⟨K, hK, rfl⟩, hw26, X, Y⟩ := hcut
                  obtain ⟨w26, rfl⟩ : ∃ x : World, x = wc := ⟨_, rfl⟩
                  have z26 := hw26.size
                  have cX := cellH X
                  obtain ⟨lX, lX1, lX2⟩ := ltH X
                  have cY := cellH Y
                  obtain ⟨lY, lY1, lY2⟩ := ltH Y
                  go_wp2_with fail
                  have hbx : Below w.heap.size w w26 := by (repeat (first | exact Below.refl _ _ | assumption | refine Below.drew ?_ | refine below_drewN ?_ _ | refine Below.setCell ?_ (by first | omega | (simp; done) | (simp; omega)) _ | refine Below.alloc ?_ (by first | omega | (simp; done) | (simp; omega)) _))
                  have hrow := (HL.out.below hbx (Nat.le_refl _)).take K
                  have hrow2 := hrow.more hbx.size
                  refine (fracs_at (l.take K) K _ _ _ (by rw [List.length_take]; omega) hrow2 (by omega)).mono ?_
                  rintro e w27 ⟨A27, c27, rfl, hc27, hm27, hr27, hb27⟩
                  have hw27 : Below w.heap.size w w27 := stepH (by (repeat (first | exact Below.refl _ _ | assumption | refine Below.drew ?_ | refine below_drewN ?_ _ | refine Below.setCell ?_ (by first | omega | (simp; done) | (simp; omega)) _ | refine Below.alloc ?_ (by first | omega | (simp; done) | (simp; omega)) _))) hb27
                  clear hbx hrow hrow2
                  replace X := keepH hb27 X.out
                  have z27 := hw27.size
                  clear hb27 hw26 z26
                  clear cX lX lX1 lX2 cY lY lY1 lY2
                  have cX := cellH X
                  obtain ⟨lX, lX1, lX2⟩ := ltH X
                  go_wp2_with fail
                  refine (sum_at (l.take K) K A27 c27 E _ (by rw [List.length_take]; omega) hc27 hm27 hr27 (fun x hx => HI.out x (List.mem_of_mem_take hx)) (HE.out.below (by (repeat (first | exact Below.refl _ _ | assumption | refine Below.drew ?_ | refine below_drewN ?_ _ | refine Below.setCell ?_ (by first | omega | (simp; done) | (simp; omega)) _ | refine Below.alloc ?_ (by first | omega | (simp; done) | (simp; omega)) _))))).mono ?_
                  rintro e w28 ⟨⟨na, da, erra, rfl, hresa⟩, hb28⟩
                  have hw28 : Below w.heap.size w w28 := stepH (by (repeat (first | exact Below.refl _ _ | assumption | refine Below.drew ?_ | refine below_drewN ?_ _ | refine Below.setCell ?_ (by first | omega | (simp; done) | (simp; omega)) _ | refine Below.alloc ?_ (by first | omega | (simp; done) | (simp; omega)) _))) hb28
                  clear hr27 hc27 hm27
                  rw [sumI_take HQS.out HQ.out] at hresa
                  replace X := keepH hb28 X.out
                  have z28 := hw28.size
                  clear hb28 hw27 z27
                  clear cX lX lX1 lX2
                  have cX := cellH X
                  obtain ⟨lX, lX1, lX2⟩ := ltH X
                  obtain ⟨Ya, hya⟩ := foldR_take hf K
                  rw [hya] at hresa
                  obtain ⟨rfl, rfl, rfl⟩ := hresa
                  obtain ⟨AK, hAK⟩ : ∃ x, (if c = K then A else A.map (·.add (K * 2))) = x := ⟨_, rfl⟩
                  go_wp2_with fail
                  have hbx : Below w.heap.size w (w28.alloc (.cells #[.int .i64 Ya.num, .int .i64 Ya.den] 23)) := by (repeat (first | exact Below.refl _ _ | assumption | refine Below.drew ?_ | refine below_drewN ?_ _ | refine Below.setCell ?_ (by first | omega | (simp; done) | (simp; omega)) _ | refine Below.alloc ?_ (by first | omega | (simp; done) | (simp; omega)) _))
                  have hrow := (HL.out.below hbx (Nat.le_refl _)).drop K c hc
                  rw [hAK] at hrow
                  have hrow2 := hrow.more hbx.size
                  refine (fracs_at (l.drop K) (l.length - K) _ _ _ (by rw [List.length_drop]) hrow2 (by omega)).mono ?_
                  rintro e w29 ⟨A29, c29, rfl, hc29, hm29, hr29, hb29⟩
                  have hw29 : Below w.heap.size w w29 := stepH (by (repeat (first | exact Below.refl _ _ | assumption | refine Below.drew ?_ | refine below_drewN ?_ _ | refine Below.setCell ?_ (by first | omega | (simp; done) | (simp; omega)) _ | refine Below.alloc ?_ (by first | omega | (simp; done) | (simp; omega)) _))) hb29
                  clear hbx hrow hrow2
                  clear hAK
                  replace X := keepH hb29 (blk_old X.out)
                  have Ga := keepH hb29 (g := w28.heap.size) (blk_new rfl)
                  have z29 := hw29.size
                  clear hb29 hw28 z28
                  clear cX lX lX1 lX2
                  have cX := cellH X
                  obtain ⟨lX, lX1, lX2⟩ := ltH X
                  have cGa := cellH Ga
                  obtain ⟨lGa, lGa1, lGa2⟩ := ltH Ga
                  go_wp2_with fail
                  refine (sum_at (l.drop K) (l.length - K) A29 c29 E _ (by rw [List.length_drop]) hc29 hm29 hr29 (fun x hx => HI.out x (List.mem_of_mem_drop hx)) (HE.out.below (by (repeat (first | exact Below.refl _ _ | assumption | refine Below.drew ?_ | refine below_drewN ?_ _ | refine Below.setCell ?_ (by first | omega | (simp; done) | (simp; omega)) _ | refine Below.alloc ?_ (by first | omega | (simp; done) | (simp; omega)) _))))).mono ?_
                  rintro e w30 ⟨⟨nb, db, errb, rfl, hresb⟩, hb30⟩
                  have hw30 : Below w.heap.size w w30 := stepH (by (repeat (first | exact Below.refl _ _ | assumption | refine Below.drew ?_ | refine below_drewN ?_ _ | refine Below.setCell ?_ (by first | omega | (simp; done) | (simp; omega)) _ | refine Below.alloc ?_ (by first | omega | (simp; done) | (simp; omega)) _))) hb30
                  clear hr29 hc29 hm29
                  rw [sumI_drop HQS.out HQ.out] at hresb
                  replace X := keepH hb30 X.out
                  replace Ga := keepH hb30 Ga.out
                  have z30 := hw30.size
                  clear hb30 hw29 z29
                  clear cX lX lX1 lX2 cGa lGa lGa1 lGa2
                  have cX := cellH X
                  obtain ⟨lX, lX1, lX2⟩ := ltH X
                  have cGa := cellH Ga
                  obtain ⟨lGa, lGa1, lGa2⟩ := ltH Ga
                  cases hz2 : foldR 0 (qs.drop K)
                  · rename_i g2
                    rw [hz2] at hresb
                    obtain ⟨rfl, rfl, rfl⟩ := hresb
                    have hen := fun w => eql_nil (E g2) w
                    go_wp2_with fail
                    have hw31 : Below w.heap.size w (w30.alloc (.cells #[.int .i64 0, .int .i64 0] 23)) := by (repeat (first | exact Below.refl _ _ | assumption | refine Below.drew ?_ | refine below_drewN ?_ _ | refine Below.setCell ?_ (by first | omega | (simp; done) | (simp; omega)) _ | refine Below.alloc ?_ (by first | omega | (simp; done) | (simp; omega)) _))
                    replace X : Hid ((w30.alloc (.cells #[.int .i64 0, .int .i64 0] 23)).heap[w21.heap.size]? = some (.cells #[.int .i64 qX.num, .int .i64 qX.den] 23 (0, 0))) := (blk_old X.out)
                    replace Ga : Hid ((w30.alloc (.cells #[.int .i64 0, .int .i64 0] 23)).heap[w28.heap.size]? = some (.cells #[.int .i64 Ya.num, .int .i64 Ya.den] 23 (0, 0))) := (blk_old Ga.out)
                    have Gb : Hid ((w30.alloc (.cells #[.int .i64 0, .int .i64 0] 23)).heap[w30.heap.size]? = some (.cells #[.int .i64 0, .int .i64 0] 23 (0, 0))) := (blk_new rfl)
                    clear cX lX lX1 lX2 cGa lGa lGa1 lGa2
                    generalize (w30.alloc (.cells #[.int .i64 0, .int .i64 0] 23)) = w31 at *
                    have z31 := hw31.size
                    have cX := cellH X
                    obtain ⟨lX, lX1, lX2⟩ := ltH X
                    have cGa := cellH Ga
                    obtain ⟨lGa, lGa1, lGa2⟩ := ltH Ga
                    have cGb := cellH Gb
                    obtain ⟨lGb, lGb1, lGb2⟩ := ltH Gb
                    cases u
                    · go_wp2_with fail
                      go_quiet (fail)
                      go_wp2_with fail
                      go_ret
                      exact ⟨rfl, by (repeat (first | exact Below.refl _ _ | assumption | refine Below.drew ?_ | refine below_drewN ?_ _ | refine Below.setCell ?_ (by first | omega | (simp; done) | (simp; omega)) _ | refine Below.alloc ?_ (by first | omega | (simp; done) | (simp; omega)) _))⟩
                    · have hX0 : 0 ≤ qX := by
                        rw [foldR_sum hf, Rat.zero_add]
                        refine sumL_up ?_
                        rw [← HQS.out]
                        exact HUP.out.symm
                      have HX0 := Lib.hid hX0
                      have HGX := Lib.hid (foldR_good good_zero hf)
                      clear hX0
                      go_wp2_with fail
                      go_region_held3 (fun w' => w'.cell? ⟨w21.heap.size, 0, none⟩ = some (.int .i64 qX.num) ∧ w'.cell? ⟨w21.heap.size, 1, none⟩ = some (.int .i64 qX.den)) (first | exact ⟨cellH X 0, cellH X 1⟩ | go_keep)
                        (first | (go_at_call 28; refine (fr_any _ _ _).mono ?_; rintro e w32 ⟨rfl, hb32⟩; have hw32 : Below w.heap.size w w32 := stepH (by (repeat (first | exact Below.refl _ _ | assumption | refine Below.drew ?_ | refine below_drewN ?_ _ | refine Below.setCell ?_ (by first | omega | (simp; done) | (simp; omega)) _ | refine Below.alloc ?_ (by first | omega | (simp; done) | (simp; omega)) _))) hb32; replace X := keepH hb32 X.out; replace Ga := keepH hb32 Ga.out; replace Gb := keepH hb32 Gb.out) | (go_at_call 14; refine (cmp_zero qX HGX.out HX0.out _).mono ?_; rintro e w32 ⟨cz, rfl, hcz, hb32⟩; have hw32 : Below w.heap.size w w32 := stepH (by (repeat (first | exact Below.refl _ _ | assumption | refine Below.drew ?_ | refine below_drewN ?_ _ | refine Below.setCell ?_ (by first | omega | (simp; done) | (simp; omega)) _ | refine Below.alloc ?_ (by first | omega | (simp; done) | (simp; omega)) _))) hb32; replace X := keepH hb32 X.out; replace Ga := keepH hb32 Ga.out; replace Gb := keepH hb32 Gb.out))
                      clear cX lX lX1 lX2 cGa lGa lGa1 lGa2 cGb lGb lGb1 lGb2
                      have z32 := hw32.size
                      have hcz2 := cmpz hcz
                      go_wp2_with fail
                      go_ret
                      exact ⟨rfl, hw32⟩
                  · rename_i Yb
                    rw [hz2] at hresb
                    obtain ⟨rfl, rfl, rfl⟩ := hresb
                    have hsum : Ya + Yb = qX := by rw [foldR_sum hf, foldR_sum hya, foldR_sum hz2, Rat.zero_add, Rat.zero_add, Rat.zero_add, sumL_cut]
                    have hgX := foldR_good good_zero hf
                    have hga := foldR_good good_zero hya
                    have hgb := foldR_good good_zero hz2
                    have BA := bds hga
                    have BB := bds hgb
                    have HSUM := Lib.hid hsum
                    have HGA := Lib.hid hga
                    have HGB := Lib.hid hgb
                    have HGX := Lib.hid hgX
                    clear hsum hga hgb hgX
                    go_wp2_with fail
                    refine (add_any Ya.num Ya.den Yb.num Yb.den E _ BA.1 BA.2.1 BA.2.2.1 BA.2.2.2 BB.1 BB.2.1 BB.2.2.1 BB.2.2.2 (HE.out.below (by (repeat (first | exact Below.refl _ _ | assumption | refine Below.drew ?_ | refine below_drewN ?_ _ | refine Below.setCell ?_ (by first | omega | (simp; done) | (simp; omega)) _ | refine Below.alloc ?_ (by first | omega | (simp; done) | (simp; omega)) _))))).mono ?_
                    rintro e w33 ⟨⟨nz, dz, errz, rfl, hresz⟩, hb33⟩
                    have hw33 : Below w.heap.size w w33 := stepH (by (repeat (first | exact Below.refl _ _ | assumption | refine Below.drew ?_ | refine below_drewN ?_ _ | refine Below.setCell ?_ (by first | omega | (simp; done) | (simp; omega)) _ | refine Below.alloc ?_ (by first | omega | (simp; done) | (simp; omega)) _))) hb33
                    rw [opI_good _ HGA.out HGB.out] at hresz
                    obtain ⟨_, rfl, rfl, rfl⟩ | ⟨hbad, _⟩ := resF_two hresz
                    rotate_left
                    exact absurd (HSUM.out ▸ HGX.out) hbad
                    rw [HSUM.out]
                    clear hresz
                    replace X := keepH hb33 (blk_old X.out)
                    replace Ga := keepH hb33 (blk_old Ga.out)
                    have Gb := keepH hb33 (g := w30.heap.size) (blk_new rfl)
                    have z33 := hw33.size
                    clear hb33 hw30 z30
                    clear cX lX lX1 lX2 cGa lGa lGa1 lGa2
                    have cX := cellH X
                    obtain ⟨lX, lX1, lX2⟩ := ltH X
                    have cGa := cellH Ga
                    obtain ⟨lGa, lGa1, lGa2⟩ := ltH Ga
                    have cGb := cellH Gb
                    obtain ⟨lGb, lGb1, lGb2⟩ := ltH Gb
                    go_wp2_with fail
                    refine (first_same _ _ _).mono ?_
                    rintro e w34 ⟨rfl, hb34⟩
                    have hw34 : Below w.heap.size w w34 := stepH (by (repeat (first | exact Below.refl _ _ | assumption | refine Below.drew ?_ | refine below_drewN ?_ _ | refine Below.setCell ?_ (by first | omega | (simp; done) | (simp; omega)) _ | refine Below.alloc ?_ (by first | omega | (simp; done) | (simp; omega)) _))) hb34
                    replace X := keepH hb34 (blk_old X.out)
                    replace Ga := keepH hb34 (blk_old Ga.out)
                    replace Gb := keepH hb34 (blk_old Gb.out)
                    have Z := keepH hb34 (g := w33.heap.size) (blk_new rfl)
                    have z34 := hw34.size
                    clear hb34 hw33 z33
                    clear cX lX lX1 lX2 cGa lGa lGa1 lGa2 cGb lGb lGb1 lGb2
                    have cX := cellH X
                    obtain ⟨lX, lX1, lX2⟩ := ltH X
                    have cGa := cellH Ga
                    obtain ⟨lGa, lGa1, lGa2⟩ := ltH Ga
                    have cGb := cellH Gb
                    obtain ⟨lGb, lGb1, lGb2⟩ := ltH Gb
                    have cZ := cellH Z
                    obtain ⟨lZ, lZ1, lZ2⟩ := ltH Z
                    go_wp2_with fail
                    cases u
                    · go_wp2_with fail
                      go_quiet (fail)
                      go_wp2_with fail
                      go_ret
                      exact ⟨rfl, by (repeat (first | exact Below.refl _ _ | assumption | refine Below.drew ?_ | refine below_drewN ?_ _ | refine Below.setCell ?_ (by first | omega | (simp; done) | (simp; omega)) _ | refine Below.alloc ?_ (by first | omega | (simp; done) | (simp; omega)) _))⟩
                    · have hX0 : 0 ≤ qX := by
                        rw [foldR_sum hf, Rat.zero_add]
                        refine sumL_up ?_
                        rw [← HQS.out]
                        exact HUP.out.symm
                      have HX0 := Lib.hid hX0
                      have HGX := Lib.hid (foldR_good good_zero hf)
                      clear hX0
                      go_wp2_with fail
                      go_region_held3 (fun w' => w'.cell? ⟨w21.heap.size, 0, none⟩ = some (.int .i64 qX.num) ∧ w'.cell? ⟨w21.heap.size, 1, none⟩ = some (.int .i64 qX.den)) (first | exact ⟨cellH X 0, cellH X 1⟩ | go_keep)
                        (first | (go_at_call 28; refine (fr_any _ _ _).mono ?_; rintro e w35 ⟨rfl, hb35⟩; have hw35 : Below w.heap.size w w35 := stepH (by (repeat (first | exact Below.refl _ _ | assumption | refine Below.drew ?_ | refine below_drewN ?_ _ | refine Below.setCell ?_ (by first | omega | (simp; done) | (simp; omega)) _ | refine Below.alloc ?_ (by first | omega | (simp; done) | (simp; omega)) _))) hb35; replace X := keepH hb35 X.out; replace Ga := keepH hb35 Ga.out; replace Gb := keepH hb35 Gb.out; replace Z := keepH hb35 Z.out) | (go_at_call 14; refine (cmp_zero qX HGX.out HX0.out _).mono ?_; rintro e w35 ⟨cz, rfl, hcz, hb35⟩; have hw35 : Below w.heap.size w w35 := stepH (by (repeat (first | exact Below.refl _ _ | assumption | refine Below.drew ?_ | refine below_drewN ?_ _ | refine Below.setCell ?_ (by first | omega | (simp; done) | (simp; omega)) _ | refine Below.alloc ?_ (by first | omega | (simp; done) | (simp; omega)) _))) hb35; replace X := keepH hb35 X.out; replace Ga := keepH hb35 Ga.out; replace Gb := keepH hb35 Gb.out; replace Z := keepH hb35 Z.out))
                      clear cX lX lX1 lX2 cGa lGa lGa1 lGa2 cGb lGb lGb1 lGb2 cZ lZ lZ1 lZ2
                      have z35 := hw35.size
                      have hcz2 := cmpz hcz
                      go_wp2_with fail
                      go_ret
                      exact ⟨rfl, hw35⟩
  · go_enter Tryd.func8, Tryd.ntmps8
    go_wp2_with fail
    refine (first_any E _ (HE.out.below (by (repeat (first | exact Below.refl _ _ | assumption | refine Below.drew ?_ | refine below_drewN ?_ _ | refine Below.setCell ?_ (by first | omega | (simp; done) | (simp; omega)) _ | refine Below.alloc ?_ (by first | omega | (simp; done) | (simp; omega)) _))))).mono ?_
    rintro e w1 ⟨rfl, hb1⟩
    have hw1 : Below w.heap.size w w1 := stepH (by (repeat (first | exact Below.refl _ _ | assumption | refine Below.drew ?_ | refine below_drewN ?_ _ | refine Below.setCell ?_ (by first | omega | (simp; done) | (simp; omega)) _ | refine Below.alloc ?_ (by first | omega | (simp; done) | (simp; omega)) _))) hb1
    have z1 := hw1.size
    clear hb1
    go_wp2_with fail
    go_ret
    exact ⟨rfl, hw1⟩
end Go.Proofs.YtbmkbhclkaopaaaDoor
