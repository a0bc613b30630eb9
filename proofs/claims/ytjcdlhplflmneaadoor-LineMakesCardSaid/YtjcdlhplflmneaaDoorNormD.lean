/- The walk of LineMakes. -/
import Derived.Test.YtjcdlhplflmneaaDoorNormC
namespace Go.Proofs.YtjcdlhplflmneaaDoor
open Go.RowKit

theorem bool_eq_self (b : Bool) : (b == b) = true := by cases b <;> rfl

set_option maxRecDepth 100000 in
set_option maxHeartbeats 16000000 in
theorem lineMakes_walk (l : List (Pc Int)) (A : Option Addr) (c : Nat) (n : Int) (E : Nat → Addr) (w : World) (hl : RowAt encP 3 w w.heap.size A l) (hm : l.length ≤ 9223372036854775807) (hE : Env L6 E w) :
    Calls Tryd.prog 5 #[.slice A l.length c, .int .i64 n] w fun e w' => e = .returned (.bool true) ∧ Below w.heap.size w w' := by
  have HL := Lib.hid hl
  have HE := Lib.hid hE
  clear hl hE
  by_cases h2 : 200 < l.length
  · have hd : decide ((200 : Int) < (l.length : Int)) = true := decide_eq_true (by omega)
    go_enter Tryd.func5, Tryd.ntmps5
    go_wp2_with fail
    refine (first6_any _).mono ?_
    rintro e w1 ⟨rfl, hb1⟩
    have hw1 : Below w.heap.size w w1 := stepH (by (repeat' (first | with_reducible exact Below.refl _ _ | with_reducible assumption | with_reducible refine Below.drew ?_ | with_reducible refine below_drewN ?_ _ | with_reducible refine Below.setCell ?_ ?_ _ | with_reducible refine Below.alloc ?_ ?_ _ | omega | (simp; done) | (simp; omega)))) hb1
    clear hb1
    go_wp2_with fail
    go_ret
    exact ⟨rfl, hw1⟩
  · have hd : decide ((200 : Int) < (l.length : Int)) = false := decide_eq_false (by omega)
    have h3 : l.length ≤ 200 := by omega
    clear h2 hm
    go_enter Tryd.func5, Tryd.ntmps5
    go_wp2_with fail
    refine (first6_any _).mono ?_
    rintro e w1 ⟨rfl, hb1⟩
    have hw1 : Below w.heap.size w w1 := stepH (by (repeat' (first | with_reducible exact Below.refl _ _ | with_reducible assumption | with_reducible refine Below.drew ?_ | with_reducible refine below_drewN ?_ _ | with_reducible refine Below.setCell ?_ ?_ _ | with_reducible refine Below.alloc ?_ ?_ _ | omega | (simp; done) | (simp; omega)))) hb1
    clear hb1
    go_wp2_with fail
    refine (piecesL_any l A c _ ((HL.out.below (by (repeat' (first | with_reducible exact Below.refl _ _ | with_reducible assumption | with_reducible refine Below.drew ?_ | with_reducible refine below_drewN ?_ _ | with_reducible refine Below.setCell ?_ ?_ _ | with_reducible refine Below.alloc ?_ ?_ _ | omega | (simp; done) | (simp; omega)))) (Nat.le_refl _)).more hw1.size) (by omega)).mono ?_
    rintro e w2 ⟨⟨A2, c2, rfl, hrow2⟩, hb2⟩
    have hw2 : Below w.heap.size w w2 := stepH (by (repeat' (first | with_reducible exact Below.refl _ _ | with_reducible assumption | with_reducible refine Below.drew ?_ | with_reducible refine below_drewN ?_ _ | with_reducible refine Below.setCell ?_ ?_ _ | with_reducible refine Below.alloc ?_ ?_ _ | omega | (simp; done) | (simp; omega)))) hb2
    have z2 := hw2.size
    clear hb2 hw1
    go_wp2_with fail
    by_cases hv : ∀ p ∈ l, ValidP MD p
    · refine (make6_ok l A2 c2 _ hrow2 (by omega) hv).mono ?_
      rintro e w3 ⟨⟨A3, c3, r, rfl, hrow3, hA3, hmade⟩, hb3⟩
      have hw3 : Below w.heap.size w w3 := stepH (by (repeat' (first | with_reducible exact Below.refl _ _ | with_reducible assumption | with_reducible refine Below.drew ?_ | with_reducible refine below_drewN ?_ _ | with_reducible refine Below.setCell ?_ ?_ _ | with_reducible refine Below.alloc ?_ ?_ _ | omega | (simp; done) | (simp; omega)))) hb3
      have z3 := hw3.size
      have hrl : r.length ≤ 400 := by have h := hmade.len; omega
      have HROW := Lib.hid hrow3
      have HM := Lib.hid hmade
      have HA3 := Lib.hid hA3
      have HV := Lib.hid hv
      clear hb3 hw2 z2 hrow3 hmade hrow2 hA3 hv
      have HAT := Lib.hid (fun (n : Int) (w' : World) (h : Below w3.heap.size w3 w') => At6_any r A3 c3 n w' ((HROW.out.below h (Nat.le_refl _)).more h.size) (by omega) 0 HM.out.canon.rise)
      go_wp2_with fail
      refine (known_ok l A c _ ((HL.out.below (by (repeat' (first | with_reducible exact Below.refl _ _ | with_reducible assumption | with_reducible refine Below.drew ?_ | with_reducible refine below_drewN ?_ _ | with_reducible refine Below.setCell ?_ ?_ _ | with_reducible refine Below.alloc ?_ ?_ _ | omega | (simp; done) | (simp; omega)))) (Nat.le_refl _)).more (by simp; omega)) h3 HV.out).mono ?_
      rintro e w4 ⟨⟨A4, c4, r4, rfl, hrow4, hmade4⟩, hb4⟩
      obtain rfl := hmade4.uniq HM.out
      have TB := keepH hb4 (g := w3.heap.size) (blk_new rfl)
      have hw4 : Below w.heap.size w w4 := stepH (by (repeat' (first | with_reducible exact Below.refl _ _ | with_reducible assumption | with_reducible refine Below.drew ?_ | with_reducible refine below_drewN ?_ _ | with_reducible refine Below.setCell ?_ ?_ _ | with_reducible refine Below.alloc ?_ ?_ _ | omega | (simp; done) | (simp; omega)))) hb4
      have hv4 : Below w3.heap.size w3 w4 := stepH (by (repeat' (first | with_reducible exact Below.refl _ _ | with_reducible assumption | with_reducible refine Below.drew ?_ | with_reducible refine below_drewN ?_ _ | with_reducible refine Below.setCell ?_ ?_ _ | with_reducible refine Below.alloc ?_ ?_ _ | omega | (simp; done) | (simp; omega)))) hb4
      have cT := cellH TB
      have z4 := hw4.size
      have HR4 := Lib.hid hrow4
      have HRT := Lib.hid (fun (n : Int) (w' : World) (h : Below w4.heap.size w4 w') => refAt6_any r4 A4 c4 n w' ((HR4.out.below h (Nat.le_refl _)).more h.size) (by omega))
      have HRN := Lib.hid (fun (n : Int) (w' : World) (h : Below w4.heap.size w4 w') => refNext6_any r4 A4 c4 n w' ((HR4.out.below h (Nat.le_refl _)).more h.size) (by omega) HM.out.canon)
      have HREV := Lib.hid (HM.out.canon.rise.rev n)
      obtain ⟨o, ho⟩ : ∃ o, nextL MD r4 n = o := ⟨_, rfl⟩
      obtain ⟨o1, ho1⟩ : ∃ o1, valL r4 n = o1 := ⟨_, rfl⟩
      have HO := Lib.hid ho
      have HO1 := Lib.hid ho1
      clear ho ho1 hb4 hrow4 hmade4
      go_wp2_with fail
      refine (HAT.out n _ (by (repeat' (first | with_reducible exact Below.refl _ _ | with_reducible assumption | with_reducible refine Below.drew ?_ | with_reducible refine below_drewN ?_ _ | with_reducible refine Below.setCell ?_ ?_ _ | with_reducible refine Below.alloc ?_ ?_ _ | omega | (simp; done) | (simp; omega))))).mono ?_
      rintro e w5 ⟨rfl, hb5⟩
      rw [HO1.out]
      replace TB := keepH hb5 TB.out
      have hw5 : Below w.heap.size w w5 := stepH (by (repeat' (first | with_reducible exact Below.refl _ _ | with_reducible assumption | with_reducible refine Below.drew ?_ | with_reducible refine below_drewN ?_ _ | with_reducible refine Below.setCell ?_ ?_ _ | with_reducible refine Below.alloc ?_ ?_ _ | omega | (simp; done) | (simp; omega)))) hb5
      have hv5 : Below w3.heap.size w3 w5 := stepH (by (repeat' (first | with_reducible exact Below.refl _ _ | with_reducible assumption | with_reducible refine Below.drew ?_ | with_reducible refine below_drewN ?_ _ | with_reducible refine Below.setCell ?_ ?_ _ | with_reducible refine Below.alloc ?_ ?_ _ | omega | (simp; done) | (simp; omega)))) hb5
      have hu5 : Below w4.heap.size w4 w5 := stepH (by (repeat' (first | with_reducible exact Below.refl _ _ | with_reducible assumption | with_reducible refine Below.drew ?_ | with_reducible refine below_drewN ?_ _ | with_reducible refine Below.setCell ?_ ?_ _ | with_reducible refine Below.alloc ?_ ?_ _ | omega | (simp; done) | (simp; omega)))) hb5
      replace cT := cellH TB
      clear hb5
      go_wp2_with fail
      refine (HRT.out n _ (by (repeat' (first | with_reducible exact Below.refl _ _ | with_reducible assumption | with_reducible refine Below.drew ?_ | with_reducible refine below_drewN ?_ _ | with_reducible refine Below.setCell ?_ ?_ _ | with_reducible refine Below.alloc ?_ ?_ _ | omega | (simp; done) | (simp; omega))))).mono ?_
      rintro e w6 ⟨rfl, hb6⟩
      rw [HREV.out, HO1.out]
      replace TB := keepH hb6 TB.out
      have hw6 : Below w.heap.size w w6 := stepH (by (repeat' (first | with_reducible exact Below.refl _ _ | with_reducible assumption | with_reducible refine Below.drew ?_ | with_reducible refine below_drewN ?_ _ | with_reducible refine Below.setCell ?_ ?_ _ | with_reducible refine Below.alloc ?_ ?_ _ | omega | (simp; done) | (simp; omega)))) hb6
      have hv6 : Below w3.heap.size w3 w6 := stepH (by (repeat' (first | with_reducible exact Below.refl _ _ | with_reducible assumption | with_reducible refine Below.drew ?_ | with_reducible refine below_drewN ?_ _ | with_reducible refine Below.setCell ?_ ?_ _ | with_reducible refine Below.alloc ?_ ?_ _ | omega | (simp; done) | (simp; omega)))) hb6
      have hu6 : Below w4.heap.size w4 w6 := stepH (by (repeat' (first | with_reducible exact Below.refl _ _ | with_reducible assumption | with_reducible refine Below.drew ?_ | with_reducible refine below_drewN ?_ _ | with_reducible refine Below.setCell ?_ ?_ _ | with_reducible refine Below.alloc ?_ ?_ _ | omega | (simp; done) | (simp; omega)))) hb6
      replace cT := cellH TB
      clear hb6 hw5 hv5 hu5
      go_wp2_with fail
      refine (next6_any r4 A3 c3 n _ ((HROW.out.below (by (repeat' (first | with_reducible exact Below.refl _ _ | with_reducible assumption | with_reducible refine Below.drew ?_ | with_reducible refine below_drewN ?_ _ | with_reducible refine Below.setCell ?_ ?_ _ | with_reducible refine Below.alloc ?_ ?_ _ | omega | (simp; done) | (simp; omega)))) (Nat.le_refl _)).more hv6.size) (by omega)).mono ?_
      rintro e w7 ⟨rfl, hb7⟩
      rw [HO.out]
      replace TB := keepH hb7 TB.out
      have hw7 : Below w.heap.size w w7 := stepH (by (repeat' (first | with_reducible exact Below.refl _ _ | with_reducible assumption | with_reducible refine Below.drew ?_ | with_reducible refine below_drewN ?_ _ | with_reducible refine Below.setCell ?_ ?_ _ | with_reducible refine Below.alloc ?_ ?_ _ | omega | (simp; done) | (simp; omega)))) hb7
      have hv7 : Below w3.heap.size w3 w7 := stepH (by (repeat' (first | with_reducible exact Below.refl _ _ | with_reducible assumption | with_reducible refine Below.drew ?_ | with_reducible refine below_drewN ?_ _ | with_reducible refine Below.setCell ?_ ?_ _ | with_reducible refine Below.alloc ?_ ?_ _ | omega | (simp; done) | (simp; omega)))) hb7
      have hu7 : Below w4.heap.size w4 w7 := stepH (by (repeat' (first | with_reducible exact Below.refl _ _ | with_reducible assumption | with_reducible refine Below.drew ?_ | with_reducible refine below_drewN ?_ _ | with_reducible refine Below.setCell ?_ ?_ _ | with_reducible refine Below.alloc ?_ ?_ _ | omega | (simp; done) | (simp; omega)))) hb7
      replace cT := cellH TB
      clear hb7 hw6 hv6 hu6
      go_wp2_with fail
      refine (HRN.out n _ (by (repeat' (first | with_reducible exact Below.refl _ _ | with_reducible assumption | with_reducible refine Below.drew ?_ | with_reducible refine below_drewN ?_ _ | with_reducible refine Below.setCell ?_ ?_ _ | with_reducible refine Below.alloc ?_ ?_ _ | omega | (simp; done) | (simp; omega))))).mono ?_
      rintro e w8 ⟨rfl, hb8⟩
      rw [HO.out]
      replace TB := keepH hb8 TB.out
      have hw8 : Below w.heap.size w w8 := stepH (by (repeat' (first | with_reducible exact Below.refl _ _ | with_reducible assumption | with_reducible refine Below.drew ?_ | with_reducible refine below_drewN ?_ _ | with_reducible refine Below.setCell ?_ ?_ _ | with_reducible refine Below.alloc ?_ ?_ _ | omega | (simp; done) | (simp; omega)))) hb8
      have hv8 : Below w3.heap.size w3 w8 := stepH (by (repeat' (first | with_reducible exact Below.refl _ _ | with_reducible assumption | with_reducible refine Below.drew ?_ | with_reducible refine below_drewN ?_ _ | with_reducible refine Below.setCell ?_ ?_ _ | with_reducible refine Below.alloc ?_ ?_ _ | omega | (simp; done) | (simp; omega)))) hb8
      have hu8 : Below w4.heap.size w4 w8 := stepH (by (repeat' (first | with_reducible exact Below.refl _ _ | with_reducible assumption | with_reducible refine Below.drew ?_ | with_reducible refine below_drewN ?_ _ | with_reducible refine Below.setCell ?_ ?_ _ | with_reducible refine Below.alloc ?_ ?_ _ | omega | (simp; done) | (simp; omega)))) hb8
      replace cT := cellH TB
      clear hb8 hw7 hv7 hu7
      go_wp2_with fail
      refine (is6_yes r4 r4.length A3 A4 c3 c4 _ rfl ((HROW.out.below (by (repeat' (first | with_reducible exact Below.refl _ _ | with_reducible assumption | with_reducible refine Below.drew ?_ | with_reducible refine below_drewN ?_ _ | with_reducible refine Below.setCell ?_ ?_ _ | with_reducible refine Below.alloc ?_ ?_ _ | omega | (simp; done) | (simp; omega)))) (Nat.le_refl _)).more hv8.size) ((HR4.out.below (by (repeat' (first | with_reducible exact Below.refl _ _ | with_reducible assumption | with_reducible refine Below.drew ?_ | with_reducible refine below_drewN ?_ _ | with_reducible refine Below.setCell ?_ ?_ _ | with_reducible refine Below.alloc ?_ ?_ _ | omega | (simp; done) | (simp; omega)))) (Nat.le_refl _)).more hu8.size) (by omega) HA3.out).mono ?_
      rintro e w9 ⟨rfl, hb9⟩
      have hw9 : Below w.heap.size w w9 := stepH (by (repeat' (first | with_reducible exact Below.refl _ _ | with_reducible assumption | with_reducible refine Below.drew ?_ | with_reducible refine below_drewN ?_ _ | with_reducible refine Below.setCell ?_ ?_ _ | with_reducible refine Below.alloc ?_ ?_ _ | omega | (simp; done) | (simp; omega)))) hb9
      have e1 : (vN o1 == vN o1) = true := by simp
      have e2 : (vB6 o1 == vB6 o1) = true := bool_eq_self _
      have e3 : (vN o == vN o) = true := by simp
      have e4 : (vB6 o == vB6 o) = true := bool_eq_self _
      go_wp2_with fail
      go_ret
      exact ⟨rfl, hw9⟩
    · have hb : ∃ p ∈ l, ¬ ValidP MD p := by
        refine Classical.byContradiction fun h => hv fun p hp => Classical.byContradiction fun hn => h ⟨p, hp, hn⟩
      have HB := Lib.hid hb
      clear hv hb
      refine (make6_bad l A2 c2 E _ hrow2 (by omega) HB.out (HE.out.below (by (repeat' (first | with_reducible exact Below.refl _ _ | with_reducible assumption | with_reducible refine Below.drew ?_ | with_reducible refine below_drewN ?_ _ | with_reducible refine Below.setCell ?_ ?_ _ | with_reducible refine Below.alloc ?_ ?_ _ | omega | (simp; done) | (simp; omega)))))).mono ?_
      rintro e w3 ⟨rfl, hb3⟩
      have hw3 : Below w.heap.size w w3 := stepH (by (repeat' (first | with_reducible exact Below.refl _ _ | with_reducible assumption | with_reducible refine Below.drew ?_ | with_reducible refine below_drewN ?_ _ | with_reducible refine Below.setCell ?_ ?_ _ | with_reducible refine Below.alloc ?_ ?_ _ | omega | (simp; done) | (simp; omega)))) hb3
      have z3 := hw3.size
      clear hb3 hw2 hrow2
      go_wp2_with fail
      refine (known_bad l A c _ ((HL.out.below (by (repeat' (first | with_reducible exact Below.refl _ _ | with_reducible assumption | with_reducible refine Below.drew ?_ | with_reducible refine below_drewN ?_ _ | with_reducible refine Below.setCell ?_ ?_ _ | with_reducible refine Below.alloc ?_ ?_ _ | omega | (simp; done) | (simp; omega)))) (Nat.le_refl _)).more (by simp; omega)) h3 HB.out).mono ?_
      rintro e w4 ⟨rfl, hb4⟩
      have TB := keepH hb4 (g := w3.heap.size) (blk_new rfl)
      have hw4 : Below w.heap.size w w4 := stepH (by (repeat' (first | with_reducible exact Below.refl _ _ | with_reducible assumption | with_reducible refine Below.drew ?_ | with_reducible refine below_drewN ?_ _ | with_reducible refine Below.setCell ?_ ?_ _ | with_reducible refine Below.alloc ?_ ?_ _ | omega | (simp; done) | (simp; omega)))) hb4
      have cT := cellH TB
      have ge := (HE.out.below hw4).cell 0 (by decide)
      have hee := fun w => eql_err (E 0) w
      go_wp2_with fail
      refine (pieces6_any [] none 0 _ RowAt.nil (by simp) (fun _ => rfl)).mono ?_
      rintro e w5 ⟨v, rfl, hown, hb5⟩
      obtain ⟨A6, c6, rfl, _, _, _⟩ := own_line (fun x _ => encP_len x) hown
      have hw5 : Below w.heap.size w w5 := stepH (by (repeat' (first | with_reducible exact Below.refl _ _ | with_reducible assumption | with_reducible refine Below.drew ?_ | with_reducible refine below_drewN ?_ _ | with_reducible refine Below.setCell ?_ ?_ _ | with_reducible refine Below.alloc ?_ ?_ _ | omega | (simp; done) | (simp; omega)))) hb5
      go_wp2_with fail
      go_ret
      exact ⟨rfl, hw5⟩

end Go.Proofs.YtjcdlhplflmneaaDoor
