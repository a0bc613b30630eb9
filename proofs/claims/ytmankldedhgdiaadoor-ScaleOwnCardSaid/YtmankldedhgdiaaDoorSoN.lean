/- The document's Parts of a scale: walk. -/
import Derived.Test.YtmankldedhgdiaaDoorSoK
import Derived.Test.YtmankldedhgdiaaDoorRef15b
namespace Go.Proofs.YtmankldedhgdiaaDoor
open Go.RowKit

/-- the parts of the brackets below x; nothing where one is beyond the range -/
def partsR (gs : List (Rat × Rat)) (x : Rat) : List Rat := if noneO (bearsO x gs) = true then [] else valsO (bearsO x gs)
theorem parts_none {gs : List (Rat × Rat)} {x : Rat} {pre : List GQ} (h : bearsO x gs = pre.map some ++ [none]) : partsR gs x = [] := by
  unfold partsR
  rw [if_pos]
  rw [h]; unfold noneO; rw [List.any_append]; simp
theorem parts_all {gs : List (Rat × Rat)} {x : Rat} {pre : List GQ} (h : bearsO x gs = pre.map some) : partsR gs x = pre.map (·.1) := by
  unfold partsR
  rw [if_neg]
  · rw [h]; unfold valsO; rw [List.filterMap_map]
    induction pre with
    | nil => rfl
    | cons p l ih => simp
  · rw [h]; unfold noneO; simp
theorem in4_goodN {gs : List (Rat × Rat)} (h : ∀ b ∈ gs, GoodB b) : ∀ b ∈ gs.map bR, In4 b := by
  intro b hb
  obtain ⟨y, hy, rfl⟩ := List.mem_map.1 hb
  exact ⟨bd2 (h y hy).1, bd2n (h y hy).1, bd2 (h y hy).2, bd2n (h y hy).2⟩

set_option maxRecDepth 100000 in
set_option maxHeartbeats 8000000 in
theorem refParts15_any (gs : List (Rat × Rat)) (A : Option Addr) (c : Nat) (x : Rat) (w : World) (hl : RowAt encR 4 w w.heap.size A (gs.map bR)) (h1 : gs.length ≤ 32) (hg : ∀ b ∈ gs, GoodB b) (hs : scaleE (gs.map bR) = none) (hx : Good x) :
    Calls Tryd.prog 15 #[.slice A gs.length c, .agg #[.int .i64 x.num, .int .i64 x.den]] w fun e w' => (∃ v cd, e = .returned (.tuple #[v, .int .i64 cd]) ∧ Own encF 2 24 w.heap.size w' v ((partsR gs x).map fq)) ∧ Below w.heap.size w w' := by
  obtain ⟨inf1, hi1, jf0, jf1, jf2⟩ := info_parts infoFrac
  have HASK := Lib.hid (fun w' (h : Below w.heap.size w w') => by
    have h := refAsk15_any (gs.map bR) A c x.num x.den w' ((hl.below h (Nat.le_refl _)).more h.size) (by rw [List.length_map]; omega) (in4_goodN hg) (bd2 hx) (bd2n hx)
    rw [List.length_map, askE_ok hs (by rw [validB_good]; exact decide_eq_true hx)] at h
    exact h)
  have HG := Lib.hid hg
  have HL := Lib.hid hl
  have HX := Lib.hid hx
  clear hl hg hs hx
  go_enter Tryd.func15, Tryd.ntmps15
  go_wp2_with fail
  refine (HASK.out _ (by (repeat' (first | with_reducible exact Below.refl _ _ | with_reducible assumption | with_reducible refine Below.drew ?_ | with_reducible refine below_drewN ?_ _ | with_reducible refine Below.setCell ?_ ?_ _ | with_reducible refine Below.alloc ?_ ?_ _ | omega | (simp; done) | (simp; omega))))).mono ?_
  rintro e w1 ⟨rfl, hb1⟩
  have hw1 : Below w.heap.size w w1 := stepH (by (repeat' (first | with_reducible exact Below.refl _ _ | with_reducible assumption | with_reducible refine Below.drew ?_ | with_reducible refine below_drewN ?_ _ | with_reducible refine Below.setCell ?_ ?_ _ | with_reducible refine Below.alloc ?_ ?_ _ | omega | (simp; done) | (simp; omega)))) hb1
  unfold codeE
  have X := keepH hb1 (g := w.heap.size) (blk_new rfl)
  have z1 := hw1.size
  clear hb1
  have cX := cellH X
  obtain ⟨lX, lX1, lX2⟩ := ltH X
  go_wp2_with fail
  clear cX lX lX1 lX2
  have hlt2 : w.heap.size < w1.heap.size := lt_of_H X
  go_loopw [7, 8] (fun v i wr => ∃ (k : Nat) (pre : List GQ), k ≤ gs.length ∧ pre.length ≤ k ∧ i = .int .i64 k ∧ Hid (bearsO x gs = pre.map some ++ bearsO x (gs.drop k)) ∧ Hid (wr.ownsRow w1.heap.size 24 2 v pre.length (((pre.map (·.1)).map fq).flatMap encF)) ∧ Hid (wr.heap[w.heap.size]? = some (.cells #[.int .i64 x.num, .int .i64 x.den] 24 (0, 0))) ∧ Below w.heap.size w wr ∧ w1.heap.size ≤ wr.heap.size) (fun _ i _ => gs.length - (intOf i).toNat)
  case atStart => exact ⟨0, [], Nat.zero_le _, Nat.le_refl _, rfl, rfl, World.ownsRow_nil _ _ _ _, X, hw1, Nat.le_refl _⟩
  case round =>
    clear X
    obtain ⟨k, pre, hk, hpk, rfl, hbe, HO, X, hw0, hz1⟩ := hrel
    have z0 := hw0.size
    by_cases hlt : k < gs.length
    · obtain ⟨b, hb⟩ : ∃ b, gs[k]? = some b := ⟨gs[k], List.getElem?_eq_getElem hlt⟩
      have HB := Lib.hid hb
      have GB := Lib.hid (HG.out b (List.mem_of_getElem? hb))
      have HD := Lib.hid (drop_cons hb)
      clear hb
      have hdk : decide (k < gs.length) = true := decide_eq_true hlt
      have ha : Below wr.heap.size wr wr := Below.refl _ _
      have yha := ha.size
      by_cases hbx : b.1 < x
      · have HBX := Lib.hid (decide_eq_true hbx)
        have hle : ¬ x ≤ b.1 := Rat.not_le.2 hbx
        cases hpo : partO b (topQ x (gs.drop (k + 1)))
        · have HPO := Lib.hid (partR_no hpo)
          have HBE := Lib.hid (bears_none (x := x) hle hpo)
          clear hpo hbx hle
          have cX := cellH X
          obtain ⟨lX, lX1, lX2⟩ := ltH X
          go_wp2_with fail
          refine (refAbove_is gs A c k b x true _ ((HL.out.below (by (repeat' (first | with_reducible exact Below.refl _ _ | with_reducible assumption | with_reducible refine Below.drew ?_ | with_reducible refine below_drewN ?_ _ | with_reducible refine Below.setCell ?_ ?_ _ | with_reducible refine Below.alloc ?_ ?_ _ | omega | (simp; done) | (simp; omega)))) (Nat.le_refl _)).more (by first | omega | (simp; omega))) HB.out h1 GB.out.1 HX.out HBX.out).mono ?_
          rintro e w11 ⟨rfl, hb11⟩
          have hw11 : Below w.heap.size w w11 := stepH (by (repeat' (first | with_reducible exact Below.refl _ _ | with_reducible assumption | with_reducible refine Below.drew ?_ | with_reducible refine below_drewN ?_ _ | with_reducible refine Below.setCell ?_ ?_ _ | with_reducible refine Below.alloc ?_ ?_ _ | omega | (simp; done) | (simp; omega)))) hb11
          replace ha : Below wr.heap.size wr w11 := stepH (by (repeat' (first | with_reducible exact Below.refl _ _ | with_reducible assumption | with_reducible refine Below.drew ?_ | with_reducible refine below_drewN ?_ _ | with_reducible refine Below.setCell ?_ ?_ _ | with_reducible refine Below.alloc ?_ ?_ _ | omega | (simp; done) | (simp; omega)))) hb11
          replace yha := ha.size
          replace X := keepH hb11 X.out
          have z11 := hw11.size
          clear hb11 hw0 z0
          clear cX lX lX1 lX2
          have cX := cellH X
          obtain ⟨lX, lX1, lX2⟩ := ltH X
          skip
          go_wp2_with fail
          refine (refPart_any gs A c k b x _ ((HL.out.below (by (repeat' (first | with_reducible exact Below.refl _ _ | with_reducible assumption | with_reducible refine Below.drew ?_ | with_reducible refine below_drewN ?_ _ | with_reducible refine Below.setCell ?_ ?_ _ | with_reducible refine Below.alloc ?_ ?_ _ | omega | (simp; done) | (simp; omega)))) (Nat.le_refl _)).more (by first | omega | (simp; omega))) HB.out h1 HG.out HX.out).mono ?_
          rintro e w12 ⟨⟨n', d', c', rfl, hr⟩, hb12⟩
          have hw12 : Below w.heap.size w w12 := stepH (by (repeat' (first | with_reducible exact Below.refl _ _ | with_reducible assumption | with_reducible refine Below.drew ?_ | with_reducible refine below_drewN ?_ _ | with_reducible refine Below.setCell ?_ ?_ _ | with_reducible refine Below.alloc ?_ ?_ _ | omega | (simp; done) | (simp; omega)))) hb12
          replace ha : Below wr.heap.size wr w12 := stepH (by (repeat' (first | with_reducible exact Below.refl _ _ | with_reducible assumption | with_reducible refine Below.drew ?_ | with_reducible refine below_drewN ?_ _ | with_reducible refine Below.setCell ?_ ?_ _ | with_reducible refine Below.alloc ?_ ?_ _ | omega | (simp; done) | (simp; omega)))) hb12
          replace yha := ha.size
          obtain ⟨rfl, rfl, hc3⟩ := resC_no hr HPO.out
          clear hr
          have hcn : (c' != 0) = true := by rcases hc3 with rfl | rfl | rfl <;> decide
          clear hc3
          replace X := keepH hb12 X.out
          have z12 := hw12.size
          clear hb12 hw11 z11
          clear cX lX lX1 lX2
          have cX := cellH X
          obtain ⟨lX, lX1, lX2⟩ := ltH X
          have HR : Hid (partsR gs x = []) := Lib.hid (parts_none (by rw [hbe.out, HD.out, HBE.out]))
          have HV : ∀ W, Own encF 2 24 w.heap.size W (.slice none 0 0) ((partsR gs x).map fq) := fun W => by rw [HR.out]; exact Own.nil
          go_wp2_with fail
          go_ret2
          refine ⟨?_, by (repeat' (first | with_reducible exact Below.refl _ _ | with_reducible assumption | with_reducible refine Below.drew ?_ | with_reducible refine below_drewN ?_ _ | with_reducible refine Below.setCell ?_ ?_ _ | with_reducible refine Below.alloc ?_ ?_ _ | omega | (simp; done) | (simp; omega)))⟩
          first | exact ⟨_, _, rfl, HV _⟩ | exact ⟨_, ⟨_, rfl⟩, HV _⟩
        · rename_i p
          have HPO := Lib.hid (partR_ok hpo)
          have HP := Lib.hid p.2
          have HBE := Lib.hid (bears_some (x := x) hle hpo)
          clear hpo hbx hle
          have cX := cellH X
          obtain ⟨lX, lX1, lX2⟩ := ltH X
          go_wp2_with fail
          refine (refAbove_is gs A c k b x true _ ((HL.out.below (by (repeat' (first | with_reducible exact Below.refl _ _ | with_reducible assumption | with_reducible refine Below.drew ?_ | with_reducible refine below_drewN ?_ _ | with_reducible refine Below.setCell ?_ ?_ _ | with_reducible refine Below.alloc ?_ ?_ _ | omega | (simp; done) | (simp; omega)))) (Nat.le_refl _)).more (by first | omega | (simp; omega))) HB.out h1 GB.out.1 HX.out HBX.out).mono ?_
          rintro e w13 ⟨rfl, hb13⟩
          have hw13 : Below w.heap.size w w13 := stepH (by (repeat' (first | with_reducible exact Below.refl _ _ | with_reducible assumption | with_reducible refine Below.drew ?_ | with_reducible refine below_drewN ?_ _ | with_reducible refine Below.setCell ?_ ?_ _ | with_reducible refine Below.alloc ?_ ?_ _ | omega | (simp; done) | (simp; omega)))) hb13
          replace ha : Below wr.heap.size wr w13 := stepH (by (repeat' (first | with_reducible exact Below.refl _ _ | with_reducible assumption | with_reducible refine Below.drew ?_ | with_reducible refine below_drewN ?_ _ | with_reducible refine Below.setCell ?_ ?_ _ | with_reducible refine Below.alloc ?_ ?_ _ | omega | (simp; done) | (simp; omega)))) hb13
          replace yha := ha.size
          replace X := keepH hb13 X.out
          have z13 := hw13.size
          clear hb13 hw0 z0
          clear cX lX lX1 lX2
          have cX := cellH X
          obtain ⟨lX, lX1, lX2⟩ := ltH X
          skip
          go_wp2_with fail
          refine (refPart_any gs A c k b x _ ((HL.out.below (by (repeat' (first | with_reducible exact Below.refl _ _ | with_reducible assumption | with_reducible refine Below.drew ?_ | with_reducible refine below_drewN ?_ _ | with_reducible refine Below.setCell ?_ ?_ _ | with_reducible refine Below.alloc ?_ ?_ _ | omega | (simp; done) | (simp; omega)))) (Nat.le_refl _)).more (by first | omega | (simp; omega))) HB.out h1 HG.out HX.out).mono ?_
          rintro e w14 ⟨⟨n', d', c', rfl, hr⟩, hb14⟩
          have hw14 : Below w.heap.size w w14 := stepH (by (repeat' (first | with_reducible exact Below.refl _ _ | with_reducible assumption | with_reducible refine Below.drew ?_ | with_reducible refine below_drewN ?_ _ | with_reducible refine Below.setCell ?_ ?_ _ | with_reducible refine Below.alloc ?_ ?_ _ | omega | (simp; done) | (simp; omega)))) hb14
          replace ha : Below wr.heap.size wr w14 := stepH (by (repeat' (first | with_reducible exact Below.refl _ _ | with_reducible assumption | with_reducible refine Below.drew ?_ | with_reducible refine below_drewN ?_ _ | with_reducible refine Below.setCell ?_ ?_ _ | with_reducible refine Below.alloc ?_ ?_ _ | omega | (simp; done) | (simp; omega)))) hb14
          replace yha := ha.size
          obtain ⟨rfl, rfl, rfl⟩ := resC_ok hr HPO.out
          clear hr
          replace X := keepH hb14 X.out
          have z14 := hw14.size
          clear hb14 hw13 z13
          clear cX lX lX1 lX2
          have cX := cellH X
          obtain ⟨lX, lX1, lX2⟩ := ltH X
          have HBN : Hid (bearsO x gs = (pre ++ [p]).map some ++ bearsO x (gs.drop (k + 1))) := Lib.hid (by rw [hbe.out, HD.out, HBE.out]; simp)
          have HO5 : Hid (World.ownsRow w14 w1.heap.size 24 2 u7 pre.length (((pre.map (·.1)).map fq).flatMap encF)) := Lib.hid (own_below HO.out ha)
          have gF := own_ne HO5.out (k := w.heap.size) hlt2
          go_wp2_with (at_builtin; go_must (refine wpList_append_own _ rfl (.tmp 39) (.tmp 41) 39 rfl w1.heap.size 24 inf1 _ 2 16 Tryd.underlying39 hi1 jf0 jf1 jf2 rfl (by decide) _ pre.length _ rfl (own_below HO5.out (by (repeat' (first | with_reducible exact Below.refl _ _ | with_reducible assumption | with_reducible refine Below.drew ?_ | with_reducible refine below_drewN ?_ _ | with_reducible refine Below.setCell ?_ ?_ _ | with_reducible refine Below.alloc ?_ ?_ _ | omega | (simp; done) | (simp; omega))))) ⟨w14.heap.size + 1, 0, none⟩ 1 1 [.int .i64 p.1.num, .int .i64 p.1.den] rfl rfl (World.news_of_block (cs := #[.int .i64 p.1.num, .int .i64 p.1.den]) (blk_new (by simp))) (by simp [Value.oneCell']) (by unfold maxLen; omega) (by omega) (by simp; omega) ?_); intro v' w19 hown9 hgrow9 _)
          go_roundw
          case rel =>
            refine ⟨k + 1, pre ++ [p], by omega, by simp; omega, by go_num, HBN, ?_, ?_, ?_, by have := hgrow9.size; simp at this; omega⟩
            · show World.ownsRow _ _ _ _ _ _ _
              rw [List.map_append, List.map_append, List.flatMap_append]; simpa [encF, fq] using hown9
            · exact Lib.hid ((hgrow9.block _ (by simp; omega) gF).trans (blk_old (blk_old X.out)))
            · exact Below.grown (by (repeat' (first | with_reducible exact Below.refl _ _ | with_reducible assumption | with_reducible refine Below.drew ?_ | with_reducible refine below_drewN ?_ _ | with_reducible refine Below.setCell ?_ ?_ _ | with_reducible refine Below.alloc ?_ ?_ _ | omega | (simp; done) | (simp; omega)))) hgrow9 (by simp; omega) (fun g hg => by have := (HO5.out.lt g hg).1; omega)
          case measure => simp [intOf]; omega
      · have HBX := Lib.hid (decide_eq_false hbx)
        have HR : Hid (partsR gs x = pre.map (·.1)) := Lib.hid (parts_all (by rw [hbe.out, HD.out, bears_stop (Rat.not_lt.1 hbx), List.append_nil]))
        clear hbx
        have cX := cellH X
        obtain ⟨lX, lX1, lX2⟩ := ltH X
        go_wp2_with fail
        refine (refAbove_is gs A c k b x false _ ((HL.out.below (by (repeat' (first | with_reducible exact Below.refl _ _ | with_reducible assumption | with_reducible refine Below.drew ?_ | with_reducible refine below_drewN ?_ _ | with_reducible refine Below.setCell ?_ ?_ _ | with_reducible refine Below.alloc ?_ ?_ _ | omega | (simp; done) | (simp; omega)))) (Nat.le_refl _)).more (by first | omega | (simp; omega))) HB.out h1 GB.out.1 HX.out HBX.out).mono ?_
        rintro e w15 ⟨rfl, hb15⟩
        have hw15 : Below w.heap.size w w15 := stepH (by (repeat' (first | with_reducible exact Below.refl _ _ | with_reducible assumption | with_reducible refine Below.drew ?_ | with_reducible refine below_drewN ?_ _ | with_reducible refine Below.setCell ?_ ?_ _ | with_reducible refine Below.alloc ?_ ?_ _ | omega | (simp; done) | (simp; omega)))) hb15
        replace ha : Below wr.heap.size wr w15 := stepH (by (repeat' (first | with_reducible exact Below.refl _ _ | with_reducible assumption | with_reducible refine Below.drew ?_ | with_reducible refine below_drewN ?_ _ | with_reducible refine Below.setCell ?_ ?_ _ | with_reducible refine Below.alloc ?_ ?_ _ | omega | (simp; done) | (simp; omega)))) hb15
        replace yha := ha.size
        replace X := keepH hb15 X.out
        have z15 := hw15.size
        clear hb15 hw0 z0
        clear cX lX lX1 lX2
        have cX := cellH X
        obtain ⟨lX, lX1, lX2⟩ := ltH X
        have HOX := Lib.hid (own_below HO.out ha)
        have hO : Hid (∀ W, World.ownsRow W w1.heap.size 24 2 u7 pre.length (((pre.map (·.1)).map fq).flatMap encF) → Own encF 2 24 w.heap.size W u7 ((partsR gs x).map fq)) := Lib.hid (fun W h => by rw [HR.out]; unfold Own; rw [List.length_map, List.length_map]; exact ownsRow_base h (by omega))
        go_wp2_with fail
        go_ret2
        refine ⟨?_, by (repeat' (first | with_reducible exact Below.refl _ _ | with_reducible assumption | with_reducible refine Below.drew ?_ | with_reducible refine below_drewN ?_ _ | with_reducible refine Below.setCell ?_ ?_ _ | with_reducible refine Below.alloc ?_ ?_ _ | omega | (simp; done) | (simp; omega)))⟩
        first | exact ⟨_, _, rfl, hO.out _ HOX.out⟩ | exact ⟨_, ⟨_, rfl⟩, hO.out _ HOX.out⟩
    · obtain rfl : k = gs.length := by omega
      have HR : Hid (partsR gs x = pre.map (·.1)) := Lib.hid (parts_all (by rw [hbe.out, List.drop_length]; simp [bearsO]))
      have cX := cellH X
      obtain ⟨lX, lX1, lX2⟩ := ltH X
      have HOX := HO
      have hO : Hid (∀ W, World.ownsRow W w1.heap.size 24 2 u7 pre.length (((pre.map (·.1)).map fq).flatMap encF) → Own encF 2 24 w.heap.size W u7 ((partsR gs x).map fq)) := Lib.hid (fun W h => by rw [HR.out]; unfold Own; rw [List.length_map, List.length_map]; exact ownsRow_base h (by omega))
      go_wp2_with fail
      go_ret2
      refine ⟨?_, by (repeat' (first | with_reducible exact Below.refl _ _ | with_reducible assumption | with_reducible refine Below.drew ?_ | with_reducible refine below_drewN ?_ _ | with_reducible refine Below.setCell ?_ ?_ _ | with_reducible refine Below.alloc ?_ ?_ _ | omega | (simp; done) | (simp; omega)))⟩
      first | exact ⟨_, _, rfl, hO.out _ HOX.out⟩ | exact ⟨_, ⟨_, rfl⟩, hO.out _ HOX.out⟩

end Go.Proofs.YtmankldedhgdiaaDoor
