/- The walk of LineLaws. -/
import Derived.Test.YthgdjocoiniphaaDoorLawA
import Derived.Test.YthgdjocoiniphaaDoorDayP
import Derived.Deep.RegionHeldLaw
namespace Go.Proofs.YthgdjocoiniphaaDoor
open Go.RowKit

set_option maxRecDepth 100000 in
set_option maxHeartbeats 16000000 in
theorem lineLaws_x0 (l k j : List (Pc Int)) (m : List (Pc Unit)) (A B C D : Option Addr) (c1 c2 c3 c4 : Nat) (E : Nat → Addr) (w : World) (hl : RowAt encP 3 w w.heap.size A l) (hk : RowAt encP 3 w w.heap.size B k) (hj : RowAt encP 3 w w.heap.size C j) (hm : RowAt encU 2 w w.heap.size D m) (hE : Env L6 E w) (h1 : 200 < l.length) :
    Calls Tryd.prog 6 #[.slice A l.length c1, .slice B k.length c2, .slice C j.length c3, .slice D m.length c4] w fun e w' => e = .returned (.bool true) ∧ Below w.heap.size w w' := by
  have HLl := Lib.hid hl
  have HKk := Lib.hid hk
  have HJj := Lib.hid hj
  have HMm := Lib.hid hm
  have HE := Lib.hid hE
  have e1 : decide ((200 : Int) < (l.length : Int)) = true := decide_eq_true (by omega)
  clear hl hk hj hm hE
  go_enter Tryd.func6, Tryd.ntmps6
  go_wp2_with fail
  refine (first6_any _).mono ?_
  rintro e w1 ⟨rfl, hb1⟩
  have hw1 : Below w.heap.size w w1 := stepH (by (repeat' (first | with_reducible exact Below.refl _ _ | with_reducible assumption | with_reducible refine Below.drew ?_ | with_reducible refine below_drewN ?_ _ | with_reducible refine Below.setCell ?_ ?_ _ | with_reducible refine Below.alloc ?_ ?_ _ | omega | (simp; done) | (simp; omega)))) hb1
  have z1 := hw1.size
  clear hb1
  go_wp2_with fail
  go_ret
  exact ⟨rfl, hw1⟩

set_option maxRecDepth 100000 in
set_option maxHeartbeats 16000000 in
theorem lineLaws_x1 (l k j : List (Pc Int)) (m : List (Pc Unit)) (A B C D : Option Addr) (c1 c2 c3 c4 : Nat) (E : Nat → Addr) (w : World) (hl : RowAt encP 3 w w.heap.size A l) (hk : RowAt encP 3 w w.heap.size B k) (hj : RowAt encP 3 w w.heap.size C j) (hm : RowAt encU 2 w w.heap.size D m) (hE : Env L6 E w) (h1 : l.length ≤ 200) (h2 : 200 < k.length) :
    Calls Tryd.prog 6 #[.slice A l.length c1, .slice B k.length c2, .slice C j.length c3, .slice D m.length c4] w fun e w' => e = .returned (.bool true) ∧ Below w.heap.size w w' := by
  have HLl := Lib.hid hl
  have HKk := Lib.hid hk
  have HJj := Lib.hid hj
  have HMm := Lib.hid hm
  have HE := Lib.hid hE
  have e1 : decide ((200 : Int) < (l.length : Int)) = false := decide_eq_false (by omega)
  have e2 : decide ((200 : Int) < (k.length : Int)) = true := decide_eq_true (by omega)
  clear hl hk hj hm hE
  go_enter Tryd.func6, Tryd.ntmps6
  go_wp2_with fail
  refine (first6_any _).mono ?_
  rintro e w1 ⟨rfl, hb1⟩
  have hw1 : Below w.heap.size w w1 := stepH (by (repeat' (first | with_reducible exact Below.refl _ _ | with_reducible assumption | with_reducible refine Below.drew ?_ | with_reducible refine below_drewN ?_ _ | with_reducible refine Below.setCell ?_ ?_ _ | with_reducible refine Below.alloc ?_ ?_ _ | omega | (simp; done) | (simp; omega)))) hb1
  have z1 := hw1.size
  clear hb1
  go_wp2_with fail
  go_ret
  exact ⟨rfl, hw1⟩

set_option maxRecDepth 100000 in
set_option maxHeartbeats 16000000 in
theorem lineLaws_x2 (l k j : List (Pc Int)) (m : List (Pc Unit)) (A B C D : Option Addr) (c1 c2 c3 c4 : Nat) (E : Nat → Addr) (w : World) (hl : RowAt encP 3 w w.heap.size A l) (hk : RowAt encP 3 w w.heap.size B k) (hj : RowAt encP 3 w w.heap.size C j) (hm : RowAt encU 2 w w.heap.size D m) (hE : Env L6 E w) (h1 : l.length ≤ 200) (h2 : k.length ≤ 200) (h3 : 200 < j.length) :
    Calls Tryd.prog 6 #[.slice A l.length c1, .slice B k.length c2, .slice C j.length c3, .slice D m.length c4] w fun e w' => e = .returned (.bool true) ∧ Below w.heap.size w w' := by
  have HLl := Lib.hid hl
  have HKk := Lib.hid hk
  have HJj := Lib.hid hj
  have HMm := Lib.hid hm
  have HE := Lib.hid hE
  have e1 : decide ((200 : Int) < (l.length : Int)) = false := decide_eq_false (by omega)
  have e2 : decide ((200 : Int) < (k.length : Int)) = false := decide_eq_false (by omega)
  have e3 : decide ((200 : Int) < (j.length : Int)) = true := decide_eq_true (by omega)
  clear hl hk hj hm hE
  go_enter Tryd.func6, Tryd.ntmps6
  go_wp2_with fail
  refine (first6_any _).mono ?_
  rintro e w1 ⟨rfl, hb1⟩
  have hw1 : Below w.heap.size w w1 := stepH (by (repeat' (first | with_reducible exact Below.refl _ _ | with_reducible assumption | with_reducible refine Below.drew ?_ | with_reducible refine below_drewN ?_ _ | with_reducible refine Below.setCell ?_ ?_ _ | with_reducible refine Below.alloc ?_ ?_ _ | omega | (simp; done) | (simp; omega)))) hb1
  have z1 := hw1.size
  clear hb1
  go_wp2_with fail
  go_ret
  exact ⟨rfl, hw1⟩

set_option maxRecDepth 100000 in
set_option maxHeartbeats 16000000 in
theorem lineLaws_x3 (l k j : List (Pc Int)) (m : List (Pc Unit)) (A B C D : Option Addr) (c1 c2 c3 c4 : Nat) (E : Nat → Addr) (w : World) (hl : RowAt encP 3 w w.heap.size A l) (hk : RowAt encP 3 w w.heap.size B k) (hj : RowAt encP 3 w w.heap.size C j) (hm : RowAt encU 2 w w.heap.size D m) (hE : Env L6 E w) (h1 : l.length ≤ 200) (h2 : k.length ≤ 200) (h3 : j.length ≤ 200) (h4 : 200 < m.length) :
    Calls Tryd.prog 6 #[.slice A l.length c1, .slice B k.length c2, .slice C j.length c3, .slice D m.length c4] w fun e w' => e = .returned (.bool true) ∧ Below w.heap.size w w' := by
  have HLl := Lib.hid hl
  have HKk := Lib.hid hk
  have HJj := Lib.hid hj
  have HMm := Lib.hid hm
  have HE := Lib.hid hE
  have e1 : decide ((200 : Int) < (l.length : Int)) = false := decide_eq_false (by omega)
  have e2 : decide ((200 : Int) < (k.length : Int)) = false := decide_eq_false (by omega)
  have e3 : decide ((200 : Int) < (j.length : Int)) = false := decide_eq_false (by omega)
  have e4 : decide ((200 : Int) < (m.length : Int)) = true := decide_eq_true (by omega)
  clear hl hk hj hm hE
  go_enter Tryd.func6, Tryd.ntmps6
  go_wp2_with fail
  refine (first6_any _).mono ?_
  rintro e w1 ⟨rfl, hb1⟩
  have hw1 : Below w.heap.size w w1 := stepH (by (repeat' (first | with_reducible exact Below.refl _ _ | with_reducible assumption | with_reducible refine Below.drew ?_ | with_reducible refine below_drewN ?_ _ | with_reducible refine Below.setCell ?_ ?_ _ | with_reducible refine Below.alloc ?_ ?_ _ | omega | (simp; done) | (simp; omega)))) hb1
  have z1 := hw1.size
  clear hb1
  go_wp2_with fail
  go_ret
  exact ⟨rfl, hw1⟩

set_option maxRecDepth 100000 in
set_option maxHeartbeats 16000000 in
theorem lineLaws_b0 (l k j : List (Pc Int)) (m : List (Pc Unit)) (A B C D : Option Addr) (c1 c2 c3 c4 : Nat) (E : Nat → Addr) (w : World) (hl : RowAt encP 3 w w.heap.size A l) (hk : RowAt encP 3 w w.heap.size B k) (hj : RowAt encP 3 w w.heap.size C j) (hm : RowAt encU 2 w w.heap.size D m) (hE : Env L6 E w) (h1 : l.length ≤ 200) (h2 : k.length ≤ 200) (h3 : j.length ≤ 200) (h4 : m.length ≤ 200) (hb : ∃ p ∈ l, ¬ ValidP MD p) :
    Calls Tryd.prog 6 #[.slice A l.length c1, .slice B k.length c2, .slice C j.length c3, .slice D m.length c4] w fun e w' => e = .returned (.bool true) ∧ Below w.heap.size w w' := by
  have HLl := Lib.hid hl
  have HKk := Lib.hid hk
  have HJj := Lib.hid hj
  have HMm := Lib.hid hm
  have HE := Lib.hid hE
  have e1 : decide ((200 : Int) < (l.length : Int)) = false := decide_eq_false (by omega)
  have e2 : decide ((200 : Int) < (k.length : Int)) = false := decide_eq_false (by omega)
  have e3 : decide ((200 : Int) < (j.length : Int)) = false := decide_eq_false (by omega)
  have e4 : decide ((200 : Int) < (m.length : Int)) = false := decide_eq_false (by omega)
  have HB := Lib.hid hb
  have hen := fun w => eql_nil (E 6) w
  clear hl hk hj hm hE hb
  go_enter Tryd.func6, Tryd.ntmps6
  go_wp2_with fail
  refine (first6_any _).mono ?_
  rintro e w1 ⟨rfl, hb1⟩
  have hw1 : Below w.heap.size w w1 := stepH (by (repeat' (first | with_reducible exact Below.refl _ _ | with_reducible assumption | with_reducible refine Below.drew ?_ | with_reducible refine below_drewN ?_ _ | with_reducible refine Below.setCell ?_ ?_ _ | with_reducible refine Below.alloc ?_ ?_ _ | omega | (simp; done) | (simp; omega)))) hb1
  have z1 := hw1.size
  clear hb1
  go_wp2_with fail
  refine (piecesL_any l A c1 _ (moved HLl.out (by (repeat' (first | with_reducible exact Below.refl _ _ | with_reducible assumption | with_reducible refine Below.drew ?_ | with_reducible refine below_drewN ?_ _ | with_reducible refine Below.setCell ?_ ?_ _ | with_reducible refine Below.alloc ?_ ?_ _ | omega | (simp; done) | (simp; omega))))) (by omega)).mono ?_
  rintro e w2 ⟨⟨P0, p0, rfl, hp0⟩, hb2⟩
  have hw2 : Below w.heap.size w w2 := stepH (by (repeat' (first | with_reducible exact Below.refl _ _ | with_reducible assumption | with_reducible refine Below.drew ?_ | with_reducible refine below_drewN ?_ _ | with_reducible refine Below.setCell ?_ ?_ _ | with_reducible refine Below.alloc ?_ ?_ _ | omega | (simp; done) | (simp; omega)))) hb2
  have z2 := hw2.size
  clear hb2 hw1 z1
  go_wp2_with fail
  refine (make6_bad l P0 p0 E _ (moved hp0 (by (repeat' (first | with_reducible exact Below.refl _ _ | with_reducible assumption | with_reducible refine Below.drew ?_ | with_reducible refine below_drewN ?_ _ | with_reducible refine Below.setCell ?_ ?_ _ | with_reducible refine Below.alloc ?_ ?_ _ | omega | (simp; done) | (simp; omega))))) (by omega) HB.out ((HE.out.below (by (repeat' (first | with_reducible exact Below.refl _ _ | with_reducible assumption | with_reducible refine Below.drew ?_ | with_reducible refine below_drewN ?_ _ | with_reducible refine Below.setCell ?_ ?_ _ | with_reducible refine Below.alloc ?_ ?_ _ | omega | (simp; done) | (simp; omega))))).sub (by decide))).mono ?_
  rintro e w3 ⟨rfl, hb3⟩
  have hw3 : Below w.heap.size w w3 := stepH (by (repeat' (first | with_reducible exact Below.refl _ _ | with_reducible assumption | with_reducible refine Below.drew ?_ | with_reducible refine below_drewN ?_ _ | with_reducible refine Below.setCell ?_ ?_ _ | with_reducible refine Below.alloc ?_ ?_ _ | omega | (simp; done) | (simp; omega)))) hb3
  clear hp0
  have z3 := hw3.size
  clear hb3 hw2 z2
  go_wp2_with fail
  refine (piecesL_any k B c2 _ (moved HKk.out (by (repeat' (first | with_reducible exact Below.refl _ _ | with_reducible assumption | with_reducible refine Below.drew ?_ | with_reducible refine below_drewN ?_ _ | with_reducible refine Below.setCell ?_ ?_ _ | with_reducible refine Below.alloc ?_ ?_ _ | omega | (simp; done) | (simp; omega))))) (by omega)).mono ?_
  rintro e w4 ⟨⟨P1, p1, rfl, hp1⟩, hb4⟩
  have hw4 : Below w.heap.size w w4 := stepH (by (repeat' (first | with_reducible exact Below.refl _ _ | with_reducible assumption | with_reducible refine Below.drew ?_ | with_reducible refine below_drewN ?_ _ | with_reducible refine Below.setCell ?_ ?_ _ | with_reducible refine Below.alloc ?_ ?_ _ | omega | (simp; done) | (simp; omega)))) hb4
  have R := keepH hb4 (g := w3.heap.size) (blk_new rfl)
  have z4 := hw4.size
  clear hb4 hw3 z3
  have cR := cellH R
  obtain ⟨lR, lR1, lR2⟩ := ltH R
  go_wp2_with fail
  refine (make6_some k P1 p1 E _ (moved hp1 (by (repeat' (first | with_reducible exact Below.refl _ _ | with_reducible assumption | with_reducible refine Below.drew ?_ | with_reducible refine below_drewN ?_ _ | with_reducible refine Below.setCell ?_ ?_ _ | with_reducible refine Below.alloc ?_ ?_ _ | omega | (simp; done) | (simp; omega))))) (by omega) ((HE.out.below (by (repeat' (first | with_reducible exact Below.refl _ _ | with_reducible assumption | with_reducible refine Below.drew ?_ | with_reducible refine below_drewN ?_ _ | with_reducible refine Below.setCell ?_ ?_ _ | with_reducible refine Below.alloc ?_ ?_ _ | omega | (simp; done) | (simp; omega))))).sub (by decide))).mono ?_
  rintro e w5 ⟨⟨A1, k1, q1, x1, rfl⟩, hb5⟩
  have hw5 : Below w.heap.size w w5 := stepH (by (repeat' (first | with_reducible exact Below.refl _ _ | with_reducible assumption | with_reducible refine Below.drew ?_ | with_reducible refine below_drewN ?_ _ | with_reducible refine Below.setCell ?_ ?_ _ | with_reducible refine Below.alloc ?_ ?_ _ | omega | (simp; done) | (simp; omega)))) hb5
  clear hp1
  replace R := keepH hb5 R.out
  have z5 := hw5.size
  clear hb5 hw4 z4
  clear cR lR lR1 lR2
  have cR := cellH R
  obtain ⟨lR, lR1, lR2⟩ := ltH R
  go_wp2_with fail
  refine (piecesL_any j C c3 _ (moved HJj.out (by (repeat' (first | with_reducible exact Below.refl _ _ | with_reducible assumption | with_reducible refine Below.drew ?_ | with_reducible refine below_drewN ?_ _ | with_reducible refine Below.setCell ?_ ?_ _ | with_reducible refine Below.alloc ?_ ?_ _ | omega | (simp; done) | (simp; omega))))) (by omega)).mono ?_
  rintro e w6 ⟨⟨P2, p2, rfl, hp2⟩, hb6⟩
  have hw6 : Below w.heap.size w w6 := stepH (by (repeat' (first | with_reducible exact Below.refl _ _ | with_reducible assumption | with_reducible refine Below.drew ?_ | with_reducible refine below_drewN ?_ _ | with_reducible refine Below.setCell ?_ ?_ _ | with_reducible refine Below.alloc ?_ ?_ _ | omega | (simp; done) | (simp; omega)))) hb6
  replace R := keepH hb6 (blk_old R.out)
  have S := keepH hb6 (g := w5.heap.size) (blk_new rfl)
  have z6 := hw6.size
  clear hb6 hw5 z5
  clear cR lR lR1 lR2
  have cR := cellH R
  obtain ⟨lR, lR1, lR2⟩ := ltH R
  have cS := cellH S
  obtain ⟨lS, lS1, lS2⟩ := ltH S
  go_wp2_with fail
  refine (make6_some j P2 p2 E _ (moved hp2 (by (repeat' (first | with_reducible exact Below.refl _ _ | with_reducible assumption | with_reducible refine Below.drew ?_ | with_reducible refine below_drewN ?_ _ | with_reducible refine Below.setCell ?_ ?_ _ | with_reducible refine Below.alloc ?_ ?_ _ | omega | (simp; done) | (simp; omega))))) (by omega) ((HE.out.below (by (repeat' (first | with_reducible exact Below.refl _ _ | with_reducible assumption | with_reducible refine Below.drew ?_ | with_reducible refine below_drewN ?_ _ | with_reducible refine Below.setCell ?_ ?_ _ | with_reducible refine Below.alloc ?_ ?_ _ | omega | (simp; done) | (simp; omega))))).sub (by decide))).mono ?_
  rintro e w7 ⟨⟨A2, k2, q2, x2, rfl⟩, hb7⟩
  have hw7 : Below w.heap.size w w7 := stepH (by (repeat' (first | with_reducible exact Below.refl _ _ | with_reducible assumption | with_reducible refine Below.drew ?_ | with_reducible refine below_drewN ?_ _ | with_reducible refine Below.setCell ?_ ?_ _ | with_reducible refine Below.alloc ?_ ?_ _ | omega | (simp; done) | (simp; omega)))) hb7
  clear hp2
  replace R := keepH hb7 R.out
  replace S := keepH hb7 S.out
  have z7 := hw7.size
  clear hb7 hw6 z6
  clear cR lR lR1 lR2 cS lS lS1 lS2
  have cR := cellH R
  obtain ⟨lR, lR1, lR2⟩ := ltH R
  have cS := cellH S
  obtain ⟨lS, lS1, lS2⟩ := ltH S
  go_wp2_with fail
  refine (makeU_some m D c4 E _ (moved HMm.out (by (repeat' (first | with_reducible exact Below.refl _ _ | with_reducible assumption | with_reducible refine Below.drew ?_ | with_reducible refine below_drewN ?_ _ | with_reducible refine Below.setCell ?_ ?_ _ | with_reducible refine Below.alloc ?_ ?_ _ | omega | (simp; done) | (simp; omega))))) (by omega) ((HE.out.below (by (repeat' (first | with_reducible exact Below.refl _ _ | with_reducible assumption | with_reducible refine Below.drew ?_ | with_reducible refine below_drewN ?_ _ | with_reducible refine Below.setCell ?_ ?_ _ | with_reducible refine Below.alloc ?_ ?_ _ | omega | (simp; done) | (simp; omega))))).sub (by decide))).mono ?_
  rintro e w8 ⟨⟨A3, k3, q3, x3, rfl⟩, hb8⟩
  have hw8 : Below w.heap.size w w8 := stepH (by (repeat' (first | with_reducible exact Below.refl _ _ | with_reducible assumption | with_reducible refine Below.drew ?_ | with_reducible refine below_drewN ?_ _ | with_reducible refine Below.setCell ?_ ?_ _ | with_reducible refine Below.alloc ?_ ?_ _ | omega | (simp; done) | (simp; omega)))) hb8
  replace R := keepH hb8 (blk_old R.out)
  replace S := keepH hb8 (blk_old S.out)
  have U := keepH hb8 (g := w7.heap.size) (blk_new rfl)
  have z8 := hw8.size
  clear hb8 hw7 z7
  clear cR lR lR1 lR2 cS lS lS1 lS2
  have cR := cellH R
  obtain ⟨lR, lR1, lR2⟩ := ltH R
  have cS := cellH S
  obtain ⟨lS, lS1, lS2⟩ := ltH S
  have cU := cellH U
  obtain ⟨lU, lU1, lU2⟩ := ltH U
  go_wp2_with fail
  go_ret
  exact ⟨rfl, by (repeat' (first | with_reducible exact Below.refl _ _ | with_reducible assumption | with_reducible refine Below.drew ?_ | with_reducible refine below_drewN ?_ _ | with_reducible refine Below.setCell ?_ ?_ _ | with_reducible refine Below.alloc ?_ ?_ _ | omega | (simp; done) | (simp; omega)))⟩

set_option maxRecDepth 100000 in
set_option maxHeartbeats 16000000 in
theorem lineLaws_b1 (l k j : List (Pc Int)) (m : List (Pc Unit)) (A B C D : Option Addr) (c1 c2 c3 c4 : Nat) (E : Nat → Addr) (w : World) (hl : RowAt encP 3 w w.heap.size A l) (hk : RowAt encP 3 w w.heap.size B k) (hj : RowAt encP 3 w w.heap.size C j) (hm : RowAt encU 2 w w.heap.size D m) (hE : Env L6 E w) (h1 : l.length ≤ 200) (h2 : k.length ≤ 200) (h3 : j.length ≤ 200) (h4 : m.length ≤ 200) (hv0 : ∀ p ∈ l, ValidP MD p) (hb : ∃ p ∈ k, ¬ ValidP MD p) :
    Calls Tryd.prog 6 #[.slice A l.length c1, .slice B k.length c2, .slice C j.length c3, .slice D m.length c4] w fun e w' => e = .returned (.bool true) ∧ Below w.heap.size w w' := by
  have HLl := Lib.hid hl
  have HKk := Lib.hid hk
  have HJj := Lib.hid hj
  have HMm := Lib.hid hm
  have HE := Lib.hid hE
  have e1 : decide ((200 : Int) < (l.length : Int)) = false := decide_eq_false (by omega)
  have e2 : decide ((200 : Int) < (k.length : Int)) = false := decide_eq_false (by omega)
  have e3 : decide ((200 : Int) < (j.length : Int)) = false := decide_eq_false (by omega)
  have e4 : decide ((200 : Int) < (m.length : Int)) = false := decide_eq_false (by omega)
  have HB := Lib.hid hb
  have hen := fun w => eql_nil (E 6) w
  have HV0 := Lib.hid hv0
  clear hl hk hj hm hE hb hv0
  go_enter Tryd.func6, Tryd.ntmps6
  go_wp2_with fail
  refine (first6_any _).mono ?_
  rintro e w1 ⟨rfl, hb1⟩
  have hw1 : Below w.heap.size w w1 := stepH (by (repeat' (first | with_reducible exact Below.refl _ _ | with_reducible assumption | with_reducible refine Below.drew ?_ | with_reducible refine below_drewN ?_ _ | with_reducible refine Below.setCell ?_ ?_ _ | with_reducible refine Below.alloc ?_ ?_ _ | omega | (simp; done) | (simp; omega)))) hb1
  have z1 := hw1.size
  clear hb1
  go_wp2_with fail
  refine (piecesL_any l A c1 _ (moved HLl.out (by (repeat' (first | with_reducible exact Below.refl _ _ | with_reducible assumption | with_reducible refine Below.drew ?_ | with_reducible refine below_drewN ?_ _ | with_reducible refine Below.setCell ?_ ?_ _ | with_reducible refine Below.alloc ?_ ?_ _ | omega | (simp; done) | (simp; omega))))) (by omega)).mono ?_
  rintro e w2 ⟨⟨P0, p0, rfl, hp0⟩, hb2⟩
  have hw2 : Below w.heap.size w w2 := stepH (by (repeat' (first | with_reducible exact Below.refl _ _ | with_reducible assumption | with_reducible refine Below.drew ?_ | with_reducible refine below_drewN ?_ _ | with_reducible refine Below.setCell ?_ ?_ _ | with_reducible refine Below.alloc ?_ ?_ _ | omega | (simp; done) | (simp; omega)))) hb2
  have z2 := hw2.size
  clear hb2 hw1 z1
  go_wp2_with fail
  refine (make6_ok l P0 p0 _ (moved hp0 (by (repeat' (first | with_reducible exact Below.refl _ _ | with_reducible assumption | with_reducible refine Below.drew ?_ | with_reducible refine below_drewN ?_ _ | with_reducible refine Below.setCell ?_ ?_ _ | with_reducible refine Below.alloc ?_ ?_ _ | omega | (simp; done) | (simp; omega))))) (by omega) HV0.out).mono ?_
  rintro e w3 ⟨⟨Aa, qa, ra, rfl, hra, hAa, hsa⟩, hb3⟩
  have hw3 : Below w.heap.size w w3 := stepH (by (repeat' (first | with_reducible exact Below.refl _ _ | with_reducible assumption | with_reducible refine Below.drew ?_ | with_reducible refine below_drewN ?_ _ | with_reducible refine Below.setCell ?_ ?_ _ | with_reducible refine Below.alloc ?_ ?_ _ | omega | (simp; done) | (simp; omega)))) hb3
  clear hp0
  have Ha := Lib.hid hra
  have Ca := Lib.hid hsa
  have la : ra.length ≤ 400 := by have h := hsa.len; omega
  clear hra hsa
  have z3 := hw3.size
  clear hb3 hw2 z2
  have ya : Below w3.heap.size w3 w3 := Below.refl _ _
  have yya := ya.size
  go_wp2_with fail
  refine (piecesL_any k B c2 _ (moved HKk.out (by (repeat' (first | with_reducible exact Below.refl _ _ | with_reducible assumption | with_reducible refine Below.drew ?_ | with_reducible refine below_drewN ?_ _ | with_reducible refine Below.setCell ?_ ?_ _ | with_reducible refine Below.alloc ?_ ?_ _ | omega | (simp; done) | (simp; omega))))) (by omega)).mono ?_
  rintro e w4 ⟨⟨P1, p1, rfl, hp1⟩, hb4⟩
  have hw4 : Below w.heap.size w w4 := stepH (by (repeat' (first | with_reducible exact Below.refl _ _ | with_reducible assumption | with_reducible refine Below.drew ?_ | with_reducible refine below_drewN ?_ _ | with_reducible refine Below.setCell ?_ ?_ _ | with_reducible refine Below.alloc ?_ ?_ _ | omega | (simp; done) | (simp; omega)))) hb4
  replace ya : Below w3.heap.size w3 w4 := stepH (by (repeat' (first | with_reducible exact Below.refl _ _ | with_reducible assumption | with_reducible refine Below.drew ?_ | with_reducible refine below_drewN ?_ _ | with_reducible refine Below.setCell ?_ ?_ _ | with_reducible refine Below.alloc ?_ ?_ _ | omega | (simp; done) | (simp; omega)))) hb4
  replace yya := ya.size
  have R := keepH hb4 (g := w3.heap.size) (blk_new rfl)
  have z4 := hw4.size
  clear hb4 hw3 z3
  have cR := cellH R
  obtain ⟨lR, lR1, lR2⟩ := ltH R
  go_wp2_with fail
  refine (make6_bad k P1 p1 E _ (moved hp1 (by (repeat' (first | with_reducible exact Below.refl _ _ | with_reducible assumption | with_reducible refine Below.drew ?_ | with_reducible refine below_drewN ?_ _ | with_reducible refine Below.setCell ?_ ?_ _ | with_reducible refine Below.alloc ?_ ?_ _ | omega | (simp; done) | (simp; omega))))) (by omega) HB.out ((HE.out.below (by (repeat' (first | with_reducible exact Below.refl _ _ | with_reducible assumption | with_reducible refine Below.drew ?_ | with_reducible refine below_drewN ?_ _ | with_reducible refine Below.setCell ?_ ?_ _ | with_reducible refine Below.alloc ?_ ?_ _ | omega | (simp; done) | (simp; omega))))).sub (by decide))).mono ?_
  rintro e w5 ⟨rfl, hb5⟩
  have hw5 : Below w.heap.size w w5 := stepH (by (repeat' (first | with_reducible exact Below.refl _ _ | with_reducible assumption | with_reducible refine Below.drew ?_ | with_reducible refine below_drewN ?_ _ | with_reducible refine Below.setCell ?_ ?_ _ | with_reducible refine Below.alloc ?_ ?_ _ | omega | (simp; done) | (simp; omega)))) hb5
  replace ya : Below w3.heap.size w3 w5 := stepH (by (repeat' (first | with_reducible exact Below.refl _ _ | with_reducible assumption | with_reducible refine Below.drew ?_ | with_reducible refine below_drewN ?_ _ | with_reducible refine Below.setCell ?_ ?_ _ | with_reducible refine Below.alloc ?_ ?_ _ | omega | (simp; done) | (simp; omega)))) hb5
  replace yya := ya.size
  clear hp1
  replace R := keepH hb5 R.out
  have z5 := hw5.size
  clear hb5 hw4 z4
  clear cR lR lR1 lR2
  have cR := cellH R
  obtain ⟨lR, lR1, lR2⟩ := ltH R
  go_wp2_with fail
  refine (piecesL_any j C c3 _ (moved HJj.out (by (repeat' (first | with_reducible exact Below.refl _ _ | with_reducible assumption | with_reducible refine Below.drew ?_ | with_reducible refine below_drewN ?_ _ | with_reducible refine Below.setCell ?_ ?_ _ | with_reducible refine Below.alloc ?_ ?_ _ | omega | (simp; done) | (simp; omega))))) (by omega)).mono ?_
  rintro e w6 ⟨⟨P2, p2, rfl, hp2⟩, hb6⟩
  have hw6 : Below w.heap.size w w6 := stepH (by (repeat' (first | with_reducible exact Below.refl _ _ | with_reducible assumption | with_reducible refine Below.drew ?_ | with_reducible refine below_drewN ?_ _ | with_reducible refine Below.setCell ?_ ?_ _ | with_reducible refine Below.alloc ?_ ?_ _ | omega | (simp; done) | (simp; omega)))) hb6
  replace ya : Below w3.heap.size w3 w6 := stepH (by (repeat' (first | with_reducible exact Below.refl _ _ | with_reducible assumption | with_reducible refine Below.drew ?_ | with_reducible refine below_drewN ?_ _ | with_reducible refine Below.setCell ?_ ?_ _ | with_reducible refine Below.alloc ?_ ?_ _ | omega | (simp; done) | (simp; omega)))) hb6
  replace yya := ya.size
  replace R := keepH hb6 (blk_old R.out)
  have S := keepH hb6 (g := w5.heap.size) (blk_new rfl)
  have z6 := hw6.size
  clear hb6 hw5 z5
  clear cR lR lR1 lR2
  have cR := cellH R
  obtain ⟨lR, lR1, lR2⟩ := ltH R
  have cS := cellH S
  obtain ⟨lS, lS1, lS2⟩ := ltH S
  go_wp2_with fail
  refine (make6_some j P2 p2 E _ (moved hp2 (by (repeat' (first | with_reducible exact Below.refl _ _ | with_reducible assumption | with_reducible refine Below.drew ?_ | with_reducible refine below_drewN ?_ _ | with_reducible refine Below.setCell ?_ ?_ _ | with_reducible refine Below.alloc ?_ ?_ _ | omega | (simp; done) | (simp; omega))))) (by omega) ((HE.out.below (by (repeat' (first | with_reducible exact Below.refl _ _ | with_reducible assumption | with_reducible refine Below.drew ?_ | with_reducible refine below_drewN ?_ _ | with_reducible refine Below.setCell ?_ ?_ _ | with_reducible refine Below.alloc ?_ ?_ _ | omega | (simp; done) | (simp; omega))))).sub (by decide))).mono ?_
  rintro e w7 ⟨⟨A2, k2, q2, x2, rfl⟩, hb7⟩
  have hw7 : Below w.heap.size w w7 := stepH (by (repeat' (first | with_reducible exact Below.refl _ _ | with_reducible assumption | with_reducible refine Below.drew ?_ | with_reducible refine below_drewN ?_ _ | with_reducible refine Below.setCell ?_ ?_ _ | with_reducible refine Below.alloc ?_ ?_ _ | omega | (simp; done) | (simp; omega)))) hb7
  replace ya : Below w3.heap.size w3 w7 := stepH (by (repeat' (first | with_reducible exact Below.refl _ _ | with_reducible assumption | with_reducible refine Below.drew ?_ | with_reducible refine below_drewN ?_ _ | with_reducible refine Below.setCell ?_ ?_ _ | with_reducible refine Below.alloc ?_ ?_ _ | omega | (simp; done) | (simp; omega)))) hb7
  replace yya := ya.size
  clear hp2
  replace R := keepH hb7 R.out
  replace S := keepH hb7 S.out
  have z7 := hw7.size
  clear hb7 hw6 z6
  clear cR lR lR1 lR2 cS lS lS1 lS2
  have cR := cellH R
  obtain ⟨lR, lR1, lR2⟩ := ltH R
  have cS := cellH S
  obtain ⟨lS, lS1, lS2⟩ := ltH S
  go_wp2_with fail
  refine (makeU_some m D c4 E _ (moved HMm.out (by (repeat' (first | with_reducible exact Below.refl _ _ | with_reducible assumption | with_reducible refine Below.drew ?_ | with_reducible refine below_drewN ?_ _ | with_reducible refine Below.setCell ?_ ?_ _ | with_reducible refine Below.alloc ?_ ?_ _ | omega | (simp; done) | (simp; omega))))) (by omega) ((HE.out.below (by (repeat' (first | with_reducible exact Below.refl _ _ | with_reducible assumption | with_reducible refine Below.drew ?_ | with_reducible refine below_drewN ?_ _ | with_reducible refine Below.setCell ?_ ?_ _ | with_reducible refine Below.alloc ?_ ?_ _ | omega | (simp; done) | (simp; omega))))).sub (by decide))).mono ?_
  rintro e w8 ⟨⟨A3, k3, q3, x3, rfl⟩, hb8⟩
  have hw8 : Below w.heap.size w w8 := stepH (by (repeat' (first | with_reducible exact Below.refl _ _ | with_reducible assumption | with_reducible refine Below.drew ?_ | with_reducible refine below_drewN ?_ _ | with_reducible refine Below.setCell ?_ ?_ _ | with_reducible refine Below.alloc ?_ ?_ _ | omega | (simp; done) | (simp; omega)))) hb8
  replace ya : Below w3.heap.size w3 w8 := stepH (by (repeat' (first | with_reducible exact Below.refl _ _ | with_reducible assumption | with_reducible refine Below.drew ?_ | with_reducible refine below_drewN ?_ _ | with_reducible refine Below.setCell ?_ ?_ _ | with_reducible refine Below.alloc ?_ ?_ _ | omega | (simp; done) | (simp; omega)))) hb8
  replace yya := ya.size
  replace R := keepH hb8 (blk_old R.out)
  replace S := keepH hb8 (blk_old S.out)
  have U := keepH hb8 (g := w7.heap.size) (blk_new rfl)
  have z8 := hw8.size
  clear hb8 hw7 z7
  clear cR lR lR1 lR2 cS lS lS1 lS2
  have cR := cellH R
  obtain ⟨lR, lR1, lR2⟩ := ltH R
  have cS := cellH S
  obtain ⟨lS, lS1, lS2⟩ := ltH S
  have cU := cellH U
  obtain ⟨lU, lU1, lU2⟩ := ltH U
  go_wp2_with fail
  go_ret
  exact ⟨rfl, by (repeat' (first | with_reducible exact Below.refl _ _ | with_reducible assumption | with_reducible refine Below.drew ?_ | with_reducible refine below_drewN ?_ _ | with_reducible refine Below.setCell ?_ ?_ _ | with_reducible refine Below.alloc ?_ ?_ _ | omega | (simp; done) | (simp; omega)))⟩

set_option maxRecDepth 100000 in
set_option maxHeartbeats 16000000 in
theorem lineLaws_b2 (l k j : List (Pc Int)) (m : List (Pc Unit)) (A B C D : Option Addr) (c1 c2 c3 c4 : Nat) (E : Nat → Addr) (w : World) (hl : RowAt encP 3 w w.heap.size A l) (hk : RowAt encP 3 w w.heap.size B k) (hj : RowAt encP 3 w w.heap.size C j) (hm : RowAt encU 2 w w.heap.size D m) (hE : Env L6 E w) (h1 : l.length ≤ 200) (h2 : k.length ≤ 200) (h3 : j.length ≤ 200) (h4 : m.length ≤ 200) (hv0 : ∀ p ∈ l, ValidP MD p) (hv1 : ∀ p ∈ k, ValidP MD p) (hb : ∃ p ∈ j, ¬ ValidP MD p) :
    Calls Tryd.prog 6 #[.slice A l.length c1, .slice B k.length c2, .slice C j.length c3, .slice D m.length c4] w fun e w' => e = .returned (.bool true) ∧ Below w.heap.size w w' := by
  have HLl := Lib.hid hl
  have HKk := Lib.hid hk
  have HJj := Lib.hid hj
  have HMm := Lib.hid hm
  have HE := Lib.hid hE
  have e1 : decide ((200 : Int) < (l.length : Int)) = false := decide_eq_false (by omega)
  have e2 : decide ((200 : Int) < (k.length : Int)) = false := decide_eq_false (by omega)
  have e3 : decide ((200 : Int) < (j.length : Int)) = false := decide_eq_false (by omega)
  have e4 : decide ((200 : Int) < (m.length : Int)) = false := decide_eq_false (by omega)
  have HB := Lib.hid hb
  have hen := fun w => eql_nil (E 6) w
  have HV0 := Lib.hid hv0
  have HV1 := Lib.hid hv1
  clear hl hk hj hm hE hb hv0 hv1
  go_enter Tryd.func6, Tryd.ntmps6
  go_wp2_with fail
  refine (first6_any _).mono ?_
  rintro e w1 ⟨rfl, hb1⟩
  have hw1 : Below w.heap.size w w1 := stepH (by (repeat' (first | with_reducible exact Below.refl _ _ | with_reducible assumption | with_reducible refine Below.drew ?_ | with_reducible refine below_drewN ?_ _ | with_reducible refine Below.setCell ?_ ?_ _ | with_reducible refine Below.alloc ?_ ?_ _ | omega | (simp; done) | (simp; omega)))) hb1
  have z1 := hw1.size
  clear hb1
  go_wp2_with fail
  refine (piecesL_any l A c1 _ (moved HLl.out (by (repeat' (first | with_reducible exact Below.refl _ _ | with_reducible assumption | with_reducible refine Below.drew ?_ | with_reducible refine below_drewN ?_ _ | with_reducible refine Below.setCell ?_ ?_ _ | with_reducible refine Below.alloc ?_ ?_ _ | omega | (simp; done) | (simp; omega))))) (by omega)).mono ?_
  rintro e w2 ⟨⟨P0, p0, rfl, hp0⟩, hb2⟩
  have hw2 : Below w.heap.size w w2 := stepH (by (repeat' (first | with_reducible exact Below.refl _ _ | with_reducible assumption | with_reducible refine Below.drew ?_ | with_reducible refine below_drewN ?_ _ | with_reducible refine Below.setCell ?_ ?_ _ | with_reducible refine Below.alloc ?_ ?_ _ | omega | (simp; done) | (simp; omega)))) hb2
  have z2 := hw2.size
  clear hb2 hw1 z1
  go_wp2_with fail
  refine (make6_ok l P0 p0 _ (moved hp0 (by (repeat' (first | with_reducible exact Below.refl _ _ | with_reducible assumption | with_reducible refine Below.drew ?_ | with_reducible refine below_drewN ?_ _ | with_reducible refine Below.setCell ?_ ?_ _ | with_reducible refine Below.alloc ?_ ?_ _ | omega | (simp; done) | (simp; omega))))) (by omega) HV0.out).mono ?_
  rintro e w3 ⟨⟨Aa, qa, ra, rfl, hra, hAa, hsa⟩, hb3⟩
  have hw3 : Below w.heap.size w w3 := stepH (by (repeat' (first | with_reducible exact Below.refl _ _ | with_reducible assumption | with_reducible refine Below.drew ?_ | with_reducible refine below_drewN ?_ _ | with_reducible refine Below.setCell ?_ ?_ _ | with_reducible refine Below.alloc ?_ ?_ _ | omega | (simp; done) | (simp; omega)))) hb3
  clear hp0
  have Ha := Lib.hid hra
  have Ca := Lib.hid hsa
  have la : ra.length ≤ 400 := by have h := hsa.len; omega
  clear hra hsa
  have z3 := hw3.size
  clear hb3 hw2 z2
  have ya : Below w3.heap.size w3 w3 := Below.refl _ _
  have yya := ya.size
  go_wp2_with fail
  refine (piecesL_any k B c2 _ (moved HKk.out (by (repeat' (first | with_reducible exact Below.refl _ _ | with_reducible assumption | with_reducible refine Below.drew ?_ | with_reducible refine below_drewN ?_ _ | with_reducible refine Below.setCell ?_ ?_ _ | with_reducible refine Below.alloc ?_ ?_ _ | omega | (simp; done) | (simp; omega))))) (by omega)).mono ?_
  rintro e w4 ⟨⟨P1, p1, rfl, hp1⟩, hb4⟩
  have hw4 : Below w.heap.size w w4 := stepH (by (repeat' (first | with_reducible exact Below.refl _ _ | with_reducible assumption | with_reducible refine Below.drew ?_ | with_reducible refine below_drewN ?_ _ | with_reducible refine Below.setCell ?_ ?_ _ | with_reducible refine Below.alloc ?_ ?_ _ | omega | (simp; done) | (simp; omega)))) hb4
  replace ya : Below w3.heap.size w3 w4 := stepH (by (repeat' (first | with_reducible exact Below.refl _ _ | with_reducible assumption | with_reducible refine Below.drew ?_ | with_reducible refine below_drewN ?_ _ | with_reducible refine Below.setCell ?_ ?_ _ | with_reducible refine Below.alloc ?_ ?_ _ | omega | (simp; done) | (simp; omega)))) hb4
  replace yya := ya.size
  have R := keepH hb4 (g := w3.heap.size) (blk_new rfl)
  have z4 := hw4.size
  clear hb4 hw3 z3
  have cR := cellH R
  obtain ⟨lR, lR1, lR2⟩ := ltH R
  go_wp2_with fail
  refine (make6_ok k P1 p1 _ (moved hp1 (by (repeat' (first | with_reducible exact Below.refl _ _ | with_reducible assumption | with_reducible refine Below.drew ?_ | with_reducible refine below_drewN ?_ _ | with_reducible refine Below.setCell ?_ ?_ _ | with_reducible refine Below.alloc ?_ ?_ _ | omega | (simp; done) | (simp; omega))))) (by omega) HV1.out).mono ?_
  rintro e w5 ⟨⟨Ab, qb, rb, rfl, hrb, hAb, hsb⟩, hb5⟩
  have hw5 : Below w.heap.size w w5 := stepH (by (repeat' (first | with_reducible exact Below.refl _ _ | with_reducible assumption | with_reducible refine Below.drew ?_ | with_reducible refine below_drewN ?_ _ | with_reducible refine Below.setCell ?_ ?_ _ | with_reducible refine Below.alloc ?_ ?_ _ | omega | (simp; done) | (simp; omega)))) hb5
  replace ya : Below w3.heap.size w3 w5 := stepH (by (repeat' (first | with_reducible exact Below.refl _ _ | with_reducible assumption | with_reducible refine Below.drew ?_ | with_reducible refine below_drewN ?_ _ | with_reducible refine Below.setCell ?_ ?_ _ | with_reducible refine Below.alloc ?_ ?_ _ | omega | (simp; done) | (simp; omega)))) hb5
  replace yya := ya.size
  clear hp1
  have Hb := Lib.hid hrb
  have Cb := Lib.hid hsb
  have lb : rb.length ≤ 400 := by have h := hsb.len; omega
  clear hrb hsb
  replace R := keepH hb5 R.out
  have z5 := hw5.size
  clear hb5 hw4 z4
  clear cR lR lR1 lR2
  have cR := cellH R
  obtain ⟨lR, lR1, lR2⟩ := ltH R
  have yb : Below w5.heap.size w5 w5 := Below.refl _ _
  have yyb := yb.size
  go_wp2_with fail
  refine (piecesL_any j C c3 _ (moved HJj.out (by (repeat' (first | with_reducible exact Below.refl _ _ | with_reducible assumption | with_reducible refine Below.drew ?_ | with_reducible refine below_drewN ?_ _ | with_reducible refine Below.setCell ?_ ?_ _ | with_reducible refine Below.alloc ?_ ?_ _ | omega | (simp; done) | (simp; omega))))) (by omega)).mono ?_
  rintro e w6 ⟨⟨P2, p2, rfl, hp2⟩, hb6⟩
  have hw6 : Below w.heap.size w w6 := stepH (by (repeat' (first | with_reducible exact Below.refl _ _ | with_reducible assumption | with_reducible refine Below.drew ?_ | with_reducible refine below_drewN ?_ _ | with_reducible refine Below.setCell ?_ ?_ _ | with_reducible refine Below.alloc ?_ ?_ _ | omega | (simp; done) | (simp; omega)))) hb6
  replace ya : Below w3.heap.size w3 w6 := stepH (by (repeat' (first | with_reducible exact Below.refl _ _ | with_reducible assumption | with_reducible refine Below.drew ?_ | with_reducible refine below_drewN ?_ _ | with_reducible refine Below.setCell ?_ ?_ _ | with_reducible refine Below.alloc ?_ ?_ _ | omega | (simp; done) | (simp; omega)))) hb6
  replace yya := ya.size
  replace yb : Below w5.heap.size w5 w6 := stepH (by (repeat' (first | with_reducible exact Below.refl _ _ | with_reducible assumption | with_reducible refine Below.drew ?_ | with_reducible refine below_drewN ?_ _ | with_reducible refine Below.setCell ?_ ?_ _ | with_reducible refine Below.alloc ?_ ?_ _ | omega | (simp; done) | (simp; omega)))) hb6
  replace yyb := yb.size
  replace R := keepH hb6 (blk_old R.out)
  have S := keepH hb6 (g := w5.heap.size) (blk_new rfl)
  have z6 := hw6.size
  clear hb6 hw5 z5
  clear cR lR lR1 lR2
  have cR := cellH R
  obtain ⟨lR, lR1, lR2⟩ := ltH R
  have cS := cellH S
  obtain ⟨lS, lS1, lS2⟩ := ltH S
  go_wp2_with fail
  refine (make6_bad j P2 p2 E _ (moved hp2 (by (repeat' (first | with_reducible exact Below.refl _ _ | with_reducible assumption | with_reducible refine Below.drew ?_ | with_reducible refine below_drewN ?_ _ | with_reducible refine Below.setCell ?_ ?_ _ | with_reducible refine Below.alloc ?_ ?_ _ | omega | (simp; done) | (simp; omega))))) (by omega) HB.out ((HE.out.below (by (repeat' (first | with_reducible exact Below.refl _ _ | with_reducible assumption | with_reducible refine Below.drew ?_ | with_reducible refine below_drewN ?_ _ | with_reducible refine Below.setCell ?_ ?_ _ | with_reducible refine Below.alloc ?_ ?_ _ | omega | (simp; done) | (simp; omega))))).sub (by decide))).mono ?_
  rintro e w7 ⟨rfl, hb7⟩
  have hw7 : Below w.heap.size w w7 := stepH (by (repeat' (first | with_reducible exact Below.refl _ _ | with_reducible assumption | with_reducible refine Below.drew ?_ | with_reducible refine below_drewN ?_ _ | with_reducible refine Below.setCell ?_ ?_ _ | with_reducible refine Below.alloc ?_ ?_ _ | omega | (simp; done) | (simp; omega)))) hb7
  replace ya : Below w3.heap.size w3 w7 := stepH (by (repeat' (first | with_reducible exact Below.refl _ _ | with_reducible assumption | with_reducible refine Below.drew ?_ | with_reducible refine below_drewN ?_ _ | with_reducible refine Below.setCell ?_ ?_ _ | with_reducible refine Below.alloc ?_ ?_ _ | omega | (simp; done) | (simp; omega)))) hb7
  replace yya := ya.size
  replace yb : Below w5.heap.size w5 w7 := stepH (by (repeat' (first | with_reducible exact Below.refl _ _ | with_reducible assumption | with_reducible refine Below.drew ?_ | with_reducible refine below_drewN ?_ _ | with_reducible refine Below.setCell ?_ ?_ _ | with_reducible refine Below.alloc ?_ ?_ _ | omega | (simp; done) | (simp; omega)))) hb7
  replace yyb := yb.size
  clear hp2
  replace R := keepH hb7 R.out
  replace S := keepH hb7 S.out
  have z7 := hw7.size
  clear hb7 hw6 z6
  clear cR lR lR1 lR2 cS lS lS1 lS2
  have cR := cellH R
  obtain ⟨lR, lR1, lR2⟩ := ltH R
  have cS := cellH S
  obtain ⟨lS, lS1, lS2⟩ := ltH S
  go_wp2_with fail
  refine (makeU_some m D c4 E _ (moved HMm.out (by (repeat' (first | with_reducible exact Below.refl _ _ | with_reducible assumption | with_reducible refine Below.drew ?_ | with_reducible refine below_drewN ?_ _ | with_reducible refine Below.setCell ?_ ?_ _ | with_reducible refine Below.alloc ?_ ?_ _ | omega | (simp; done) | (simp; omega))))) (by omega) ((HE.out.below (by (repeat' (first | with_reducible exact Below.refl _ _ | with_reducible assumption | with_reducible refine Below.drew ?_ | with_reducible refine below_drewN ?_ _ | with_reducible refine Below.setCell ?_ ?_ _ | with_reducible refine Below.alloc ?_ ?_ _ | omega | (simp; done) | (simp; omega))))).sub (by decide))).mono ?_
  rintro e w8 ⟨⟨A3, k3, q3, x3, rfl⟩, hb8⟩
  have hw8 : Below w.heap.size w w8 := stepH (by (repeat' (first | with_reducible exact Below.refl _ _ | with_reducible assumption | with_reducible refine Below.drew ?_ | with_reducible refine below_drewN ?_ _ | with_reducible refine Below.setCell ?_ ?_ _ | with_reducible refine Below.alloc ?_ ?_ _ | omega | (simp; done) | (simp; omega)))) hb8
  replace ya : Below w3.heap.size w3 w8 := stepH (by (repeat' (first | with_reducible exact Below.refl _ _ | with_reducible assumption | with_reducible refine Below.drew ?_ | with_reducible refine below_drewN ?_ _ | with_reducible refine Below.setCell ?_ ?_ _ | with_reducible refine Below.alloc ?_ ?_ _ | omega | (simp; done) | (simp; omega)))) hb8
  replace yya := ya.size
  replace yb : Below w5.heap.size w5 w8 := stepH (by (repeat' (first | with_reducible exact Below.refl _ _ | with_reducible assumption | with_reducible refine Below.drew ?_ | with_reducible refine below_drewN ?_ _ | with_reducible refine Below.setCell ?_ ?_ _ | with_reducible refine Below.alloc ?_ ?_ _ | omega | (simp; done) | (simp; omega)))) hb8
  replace yyb := yb.size
  replace R := keepH hb8 (blk_old R.out)
  replace S := keepH hb8 (blk_old S.out)
  have U := keepH hb8 (g := w7.heap.size) (blk_new rfl)
  have z8 := hw8.size
  clear hb8 hw7 z7
  clear cR lR lR1 lR2 cS lS lS1 lS2
  have cR := cellH R
  obtain ⟨lR, lR1, lR2⟩ := ltH R
  have cS := cellH S
  obtain ⟨lS, lS1, lS2⟩ := ltH S
  have cU := cellH U
  obtain ⟨lU, lU1, lU2⟩ := ltH U
  go_wp2_with fail
  go_ret
  exact ⟨rfl, by (repeat' (first | with_reducible exact Below.refl _ _ | with_reducible assumption | with_reducible refine Below.drew ?_ | with_reducible refine below_drewN ?_ _ | with_reducible refine Below.setCell ?_ ?_ _ | with_reducible refine Below.alloc ?_ ?_ _ | omega | (simp; done) | (simp; omega)))⟩

set_option maxRecDepth 100000 in
set_option maxHeartbeats 16000000 in
theorem lineLaws_b3 (l k j : List (Pc Int)) (m : List (Pc Unit)) (A B C D : Option Addr) (c1 c2 c3 c4 : Nat) (E : Nat → Addr) (w : World) (hl : RowAt encP 3 w w.heap.size A l) (hk : RowAt encP 3 w w.heap.size B k) (hj : RowAt encP 3 w w.heap.size C j) (hm : RowAt encU 2 w w.heap.size D m) (hE : Env L6 E w) (h1 : l.length ≤ 200) (h2 : k.length ≤ 200) (h3 : j.length ≤ 200) (h4 : m.length ≤ 200) (hv0 : ∀ p ∈ l, ValidP MD p) (hv1 : ∀ p ∈ k, ValidP MD p) (hv2 : ∀ p ∈ j, ValidP MD p) (hb : ∃ p ∈ m, ¬ ValidS MD p) :
    Calls Tryd.prog 6 #[.slice A l.length c1, .slice B k.length c2, .slice C j.length c3, .slice D m.length c4] w fun e w' => e = .returned (.bool true) ∧ Below w.heap.size w w' := by
  have HLl := Lib.hid hl
  have HKk := Lib.hid hk
  have HJj := Lib.hid hj
  have HMm := Lib.hid hm
  have HE := Lib.hid hE
  have e1 : decide ((200 : Int) < (l.length : Int)) = false := decide_eq_false (by omega)
  have e2 : decide ((200 : Int) < (k.length : Int)) = false := decide_eq_false (by omega)
  have e3 : decide ((200 : Int) < (j.length : Int)) = false := decide_eq_false (by omega)
  have e4 : decide ((200 : Int) < (m.length : Int)) = false := decide_eq_false (by omega)
  have HB := Lib.hid hb
  have hen := fun w => eql_nil (E 6) w
  have HV0 := Lib.hid hv0
  have HV1 := Lib.hid hv1
  have HV2 := Lib.hid hv2
  clear hl hk hj hm hE hb hv0 hv1 hv2
  go_enter Tryd.func6, Tryd.ntmps6
  go_wp2_with fail
  refine (first6_any _).mono ?_
  rintro e w1 ⟨rfl, hb1⟩
  have hw1 : Below w.heap.size w w1 := stepH (by (repeat' (first | with_reducible exact Below.refl _ _ | with_reducible assumption | with_reducible refine Below.drew ?_ | with_reducible refine below_drewN ?_ _ | with_reducible refine Below.setCell ?_ ?_ _ | with_reducible refine Below.alloc ?_ ?_ _ | omega | (simp; done) | (simp; omega)))) hb1
  have z1 := hw1.size
  clear hb1
  go_wp2_with fail
  refine (piecesL_any l A c1 _ (moved HLl.out (by (repeat' (first | with_reducible exact Below.refl _ _ | with_reducible assumption | with_reducible refine Below.drew ?_ | with_reducible refine below_drewN ?_ _ | with_reducible refine Below.setCell ?_ ?_ _ | with_reducible refine Below.alloc ?_ ?_ _ | omega | (simp; done) | (simp; omega))))) (by omega)).mono ?_
  rintro e w2 ⟨⟨P0, p0, rfl, hp0⟩, hb2⟩
  have hw2 : Below w.heap.size w w2 := stepH (by (repeat' (first | with_reducible exact Below.refl _ _ | with_reducible assumption | with_reducible refine Below.drew ?_ | with_reducible refine below_drewN ?_ _ | with_reducible refine Below.setCell ?_ ?_ _ | with_reducible refine Below.alloc ?_ ?_ _ | omega | (simp; done) | (simp; omega)))) hb2
  have z2 := hw2.size
  clear hb2 hw1 z1
  go_wp2_with fail
  refine (make6_ok l P0 p0 _ (moved hp0 (by (repeat' (first | with_reducible exact Below.refl _ _ | with_reducible assumption | with_reducible refine Below.drew ?_ | with_reducible refine below_drewN ?_ _ | with_reducible refine Below.setCell ?_ ?_ _ | with_reducible refine Below.alloc ?_ ?_ _ | omega | (simp; done) | (simp; omega))))) (by omega) HV0.out).mono ?_
  rintro e w3 ⟨⟨Aa, qa, ra, rfl, hra, hAa, hsa⟩, hb3⟩
  have hw3 : Below w.heap.size w w3 := stepH (by (repeat' (first | with_reducible exact Below.refl _ _ | with_reducible assumption | with_reducible refine Below.drew ?_ | with_reducible refine below_drewN ?_ _ | with_reducible refine Below.setCell ?_ ?_ _ | with_reducible refine Below.alloc ?_ ?_ _ | omega | (simp; done) | (simp; omega)))) hb3
  clear hp0
  have Ha := Lib.hid hra
  have Ca := Lib.hid hsa
  have la : ra.length ≤ 400 := by have h := hsa.len; omega
  clear hra hsa
  have z3 := hw3.size
  clear hb3 hw2 z2
  have ya : Below w3.heap.size w3 w3 := Below.refl _ _
  have yya := ya.size
  go_wp2_with fail
  refine (piecesL_any k B c2 _ (moved HKk.out (by (repeat' (first | with_reducible exact Below.refl _ _ | with_reducible assumption | with_reducible refine Below.drew ?_ | with_reducible refine below_drewN ?_ _ | with_reducible refine Below.setCell ?_ ?_ _ | with_reducible refine Below.alloc ?_ ?_ _ | omega | (simp; done) | (simp; omega))))) (by omega)).mono ?_
  rintro e w4 ⟨⟨P1, p1, rfl, hp1⟩, hb4⟩
  have hw4 : Below w.heap.size w w4 := stepH (by (repeat' (first | with_reducible exact Below.refl _ _ | with_reducible assumption | with_reducible refine Below.drew ?_ | with_reducible refine below_drewN ?_ _ | with_reducible refine Below.setCell ?_ ?_ _ | with_reducible refine Below.alloc ?_ ?_ _ | omega | (simp; done) | (simp; omega)))) hb4
  replace ya : Below w3.heap.size w3 w4 := stepH (by (repeat' (first | with_reducible exact Below.refl _ _ | with_reducible assumption | with_reducible refine Below.drew ?_ | with_reducible refine below_drewN ?_ _ | with_reducible refine Below.setCell ?_ ?_ _ | with_reducible refine Below.alloc ?_ ?_ _ | omega | (simp; done) | (simp; omega)))) hb4
  replace yya := ya.size
  have R := keepH hb4 (g := w3.heap.size) (blk_new rfl)
  have z4 := hw4.size
  clear hb4 hw3 z3
  have cR := cellH R
  obtain ⟨lR, lR1, lR2⟩ := ltH R
  go_wp2_with fail
  refine (make6_ok k P1 p1 _ (moved hp1 (by (repeat' (first | with_reducible exact Below.refl _ _ | with_reducible assumption | with_reducible refine Below.drew ?_ | with_reducible refine below_drewN ?_ _ | with_reducible refine Below.setCell ?_ ?_ _ | with_reducible refine Below.alloc ?_ ?_ _ | omega | (simp; done) | (simp; omega))))) (by omega) HV1.out).mono ?_
  rintro e w5 ⟨⟨Ab, qb, rb, rfl, hrb, hAb, hsb⟩, hb5⟩
  have hw5 : Below w.heap.size w w5 := stepH (by (repeat' (first | with_reducible exact Below.refl _ _ | with_reducible assumption | with_reducible refine Below.drew ?_ | with_reducible refine below_drewN ?_ _ | with_reducible refine Below.setCell ?_ ?_ _ | with_reducible refine Below.alloc ?_ ?_ _ | omega | (simp; done) | (simp; omega)))) hb5
  replace ya : Below w3.heap.size w3 w5 := stepH (by (repeat' (first | with_reducible exact Below.refl _ _ | with_reducible assumption | with_reducible refine Below.drew ?_ | with_reducible refine below_drewN ?_ _ | with_reducible refine Below.setCell ?_ ?_ _ | with_reducible refine Below.alloc ?_ ?_ _ | omega | (simp; done) | (simp; omega)))) hb5
  replace yya := ya.size
  clear hp1
  have Hb := Lib.hid hrb
  have Cb := Lib.hid hsb
  have lb : rb.length ≤ 400 := by have h := hsb.len; omega
  clear hrb hsb
  replace R := keepH hb5 R.out
  have z5 := hw5.size
  clear hb5 hw4 z4
  clear cR lR lR1 lR2
  have cR := cellH R
  obtain ⟨lR, lR1, lR2⟩ := ltH R
  have yb : Below w5.heap.size w5 w5 := Below.refl _ _
  have yyb := yb.size
  go_wp2_with fail
  refine (piecesL_any j C c3 _ (moved HJj.out (by (repeat' (first | with_reducible exact Below.refl _ _ | with_reducible assumption | with_reducible refine Below.drew ?_ | with_reducible refine below_drewN ?_ _ | with_reducible refine Below.setCell ?_ ?_ _ | with_reducible refine Below.alloc ?_ ?_ _ | omega | (simp; done) | (simp; omega))))) (by omega)).mono ?_
  rintro e w6 ⟨⟨P2, p2, rfl, hp2⟩, hb6⟩
  have hw6 : Below w.heap.size w w6 := stepH (by (repeat' (first | with_reducible exact Below.refl _ _ | with_reducible assumption | with_reducible refine Below.drew ?_ | with_reducible refine below_drewN ?_ _ | with_reducible refine Below.setCell ?_ ?_ _ | with_reducible refine Below.alloc ?_ ?_ _ | omega | (simp; done) | (simp; omega)))) hb6
  replace ya : Below w3.heap.size w3 w6 := stepH (by (repeat' (first | with_reducible exact Below.refl _ _ | with_reducible assumption | with_reducible refine Below.drew ?_ | with_reducible refine below_drewN ?_ _ | with_reducible refine Below.setCell ?_ ?_ _ | with_reducible refine Below.alloc ?_ ?_ _ | omega | (simp; done) | (simp; omega)))) hb6
  replace yya := ya.size
  replace yb : Below w5.heap.size w5 w6 := stepH (by (repeat' (first | with_reducible exact Below.refl _ _ | with_reducible assumption | with_reducible refine Below.drew ?_ | with_reducible refine below_drewN ?_ _ | with_reducible refine Below.setCell ?_ ?_ _ | with_reducible refine Below.alloc ?_ ?_ _ | omega | (simp; done) | (simp; omega)))) hb6
  replace yyb := yb.size
  replace R := keepH hb6 (blk_old R.out)
  have S := keepH hb6 (g := w5.heap.size) (blk_new rfl)
  have z6 := hw6.size
  clear hb6 hw5 z5
  clear cR lR lR1 lR2
  have cR := cellH R
  obtain ⟨lR, lR1, lR2⟩ := ltH R
  have cS := cellH S
  obtain ⟨lS, lS1, lS2⟩ := ltH S
  go_wp2_with fail
  refine (make6_ok j P2 p2 _ (moved hp2 (by (repeat' (first | with_reducible exact Below.refl _ _ | with_reducible assumption | with_reducible refine Below.drew ?_ | with_reducible refine below_drewN ?_ _ | with_reducible refine Below.setCell ?_ ?_ _ | with_reducible refine Below.alloc ?_ ?_ _ | omega | (simp; done) | (simp; omega))))) (by omega) HV2.out).mono ?_
  rintro e w7 ⟨⟨Ac, qc, rc, rfl, hrc, hAc, hsc⟩, hb7⟩
  have hw7 : Below w.heap.size w w7 := stepH (by (repeat' (first | with_reducible exact Below.refl _ _ | with_reducible assumption | with_reducible refine Below.drew ?_ | with_reducible refine below_drewN ?_ _ | with_reducible refine Below.setCell ?_ ?_ _ | with_reducible refine Below.alloc ?_ ?_ _ | omega | (simp; done) | (simp; omega)))) hb7
  replace ya : Below w3.heap.size w3 w7 := stepH (by (repeat' (first | with_reducible exact Below.refl _ _ | with_reducible assumption | with_reducible refine Below.drew ?_ | with_reducible refine below_drewN ?_ _ | with_reducible refine Below.setCell ?_ ?_ _ | with_reducible refine Below.alloc ?_ ?_ _ | omega | (simp; done) | (simp; omega)))) hb7
  replace yya := ya.size
  replace yb : Below w5.heap.size w5 w7 := stepH (by (repeat' (first | with_reducible exact Below.refl _ _ | with_reducible assumption | with_reducible refine Below.drew ?_ | with_reducible refine below_drewN ?_ _ | with_reducible refine Below.setCell ?_ ?_ _ | with_reducible refine Below.alloc ?_ ?_ _ | omega | (simp; done) | (simp; omega)))) hb7
  replace yyb := yb.size
  clear hp2
  have Hc := Lib.hid hrc
  have Cc := Lib.hid hsc
  have lc : rc.length ≤ 400 := by have h := hsc.len; omega
  clear hrc hsc
  replace R := keepH hb7 R.out
  replace S := keepH hb7 S.out
  have z7 := hw7.size
  clear hb7 hw6 z6
  clear cR lR lR1 lR2 cS lS lS1 lS2
  have cR := cellH R
  obtain ⟨lR, lR1, lR2⟩ := ltH R
  have cS := cellH S
  obtain ⟨lS, lS1, lS2⟩ := ltH S
  have yc : Below w7.heap.size w7 w7 := Below.refl _ _
  have yyc := yc.size
  go_wp2_with fail
  refine (makeS_bad m D c4 E _ (moved HMm.out (by (repeat' (first | with_reducible exact Below.refl _ _ | with_reducible assumption | with_reducible refine Below.drew ?_ | with_reducible refine below_drewN ?_ _ | with_reducible refine Below.setCell ?_ ?_ _ | with_reducible refine Below.alloc ?_ ?_ _ | omega | (simp; done) | (simp; omega))))) (by omega) HB.out ((HE.out.below (by (repeat' (first | with_reducible exact Below.refl _ _ | with_reducible assumption | with_reducible refine Below.drew ?_ | with_reducible refine below_drewN ?_ _ | with_reducible refine Below.setCell ?_ ?_ _ | with_reducible refine Below.alloc ?_ ?_ _ | omega | (simp; done) | (simp; omega))))).sub (by decide))).mono ?_
  rintro e w8 ⟨rfl, hb8⟩
  have hw8 : Below w.heap.size w w8 := stepH (by (repeat' (first | with_reducible exact Below.refl _ _ | with_reducible assumption | with_reducible refine Below.drew ?_ | with_reducible refine below_drewN ?_ _ | with_reducible refine Below.setCell ?_ ?_ _ | with_reducible refine Below.alloc ?_ ?_ _ | omega | (simp; done) | (simp; omega)))) hb8
  replace ya : Below w3.heap.size w3 w8 := stepH (by (repeat' (first | with_reducible exact Below.refl _ _ | with_reducible assumption | with_reducible refine Below.drew ?_ | with_reducible refine below_drewN ?_ _ | with_reducible refine Below.setCell ?_ ?_ _ | with_reducible refine Below.alloc ?_ ?_ _ | omega | (simp; done) | (simp; omega)))) hb8
  replace yya := ya.size
  replace yb : Below w5.heap.size w5 w8 := stepH (by (repeat' (first | with_reducible exact Below.refl _ _ | with_reducible assumption | with_reducible refine Below.drew ?_ | with_reducible refine below_drewN ?_ _ | with_reducible refine Below.setCell ?_ ?_ _ | with_reducible refine Below.alloc ?_ ?_ _ | omega | (simp; done) | (simp; omega)))) hb8
  replace yyb := yb.size
  replace yc : Below w7.heap.size w7 w8 := stepH (by (repeat' (first | with_reducible exact Below.refl _ _ | with_reducible assumption | with_reducible refine Below.drew ?_ | with_reducible refine below_drewN ?_ _ | with_reducible refine Below.setCell ?_ ?_ _ | with_reducible refine Below.alloc ?_ ?_ _ | omega | (simp; done) | (simp; omega)))) hb8
  replace yyc := yc.size
  replace R := keepH hb8 (blk_old R.out)
  replace S := keepH hb8 (blk_old S.out)
  have U := keepH hb8 (g := w7.heap.size) (blk_new rfl)
  have z8 := hw8.size
  clear hb8 hw7 z7
  clear cR lR lR1 lR2 cS lS lS1 lS2
  have cR := cellH R
  obtain ⟨lR, lR1, lR2⟩ := ltH R
  have cS := cellH S
  obtain ⟨lS, lS1, lS2⟩ := ltH S
  have cU := cellH U
  obtain ⟨lU, lU1, lU2⟩ := ltH U
  go_wp2_with fail
  go_ret
  exact ⟨rfl, by (repeat' (first | with_reducible exact Below.refl _ _ | with_reducible assumption | with_reducible refine Below.drew ?_ | with_reducible refine below_drewN ?_ _ | with_reducible refine Below.setCell ?_ ?_ _ | with_reducible refine Below.alloc ?_ ?_ _ | omega | (simp; done) | (simp; omega)))⟩

set_option maxRecDepth 100000 in
set_option maxHeartbeats 16000000 in
theorem lineLaws_g (l k j : List (Pc Int)) (m : List (Pc Unit)) (A B C D : Option Addr) (c1 c2 c3 c4 : Nat) (E : Nat → Addr) (w : World) (hl : RowAt encP 3 w w.heap.size A l) (hk : RowAt encP 3 w w.heap.size B k) (hj : RowAt encP 3 w w.heap.size C j) (hm : RowAt encU 2 w w.heap.size D m) (hE : Env L6 E w) (h1 : l.length ≤ 200) (h2 : k.length ≤ 200) (h3 : j.length ≤ 200) (h4 : m.length ≤ 200) (hv0 : ∀ p ∈ l, ValidP MD p) (hv1 : ∀ p ∈ k, ValidP MD p) (hv2 : ∀ p ∈ j, ValidP MD p) (hv3 : ∀ p ∈ m, ValidS MD p) :
    Calls Tryd.prog 6 #[.slice A l.length c1, .slice B k.length c2, .slice C j.length c3, .slice D m.length c4] w fun e w' => e = .returned (.bool true) ∧ Below w.heap.size w w' := by
  have HLl := Lib.hid hl
  have HKk := Lib.hid hk
  have HJj := Lib.hid hj
  have HMm := Lib.hid hm
  have HE := Lib.hid hE
  have e1 : decide ((200 : Int) < (l.length : Int)) = false := decide_eq_false (by omega)
  have e2 : decide ((200 : Int) < (k.length : Int)) = false := decide_eq_false (by omega)
  have e3 : decide ((200 : Int) < (j.length : Int)) = false := decide_eq_false (by omega)
  have e4 : decide ((200 : Int) < (m.length : Int)) = false := decide_eq_false (by omega)
  have HV0 := Lib.hid hv0
  have HV1 := Lib.hid hv1
  have HV2 := Lib.hid hv2
  have HV3 := Lib.hid hv3
  clear hl hk hj hm hE hv0 hv1 hv2 hv3
  go_enter Tryd.func6, Tryd.ntmps6
  go_wp2_with fail
  refine (first6_any _).mono ?_
  rintro e w1 ⟨rfl, hb1⟩
  have hw1 : Below w.heap.size w w1 := stepH (by (repeat' (first | with_reducible exact Below.refl _ _ | with_reducible assumption | with_reducible refine Below.drew ?_ | with_reducible refine below_drewN ?_ _ | with_reducible refine Below.setCell ?_ ?_ _ | with_reducible refine Below.alloc ?_ ?_ _ | omega | (simp; done) | (simp; omega)))) hb1
  have z1 := hw1.size
  clear hb1
  go_wp2_with fail
  refine (piecesL_any l A c1 _ (moved HLl.out (by (repeat' (first | with_reducible exact Below.refl _ _ | with_reducible assumption | with_reducible refine Below.drew ?_ | with_reducible refine below_drewN ?_ _ | with_reducible refine Below.setCell ?_ ?_ _ | with_reducible refine Below.alloc ?_ ?_ _ | omega | (simp; done) | (simp; omega))))) (by omega)).mono ?_
  rintro e w2 ⟨⟨P0, p0, rfl, hp0⟩, hb2⟩
  have hw2 : Below w.heap.size w w2 := stepH (by (repeat' (first | with_reducible exact Below.refl _ _ | with_reducible assumption | with_reducible refine Below.drew ?_ | with_reducible refine below_drewN ?_ _ | with_reducible refine Below.setCell ?_ ?_ _ | with_reducible refine Below.alloc ?_ ?_ _ | omega | (simp; done) | (simp; omega)))) hb2
  have z2 := hw2.size
  clear hb2 hw1 z1
  go_wp2_with fail
  refine (make6_ok l P0 p0 _ (moved hp0 (by (repeat' (first | with_reducible exact Below.refl _ _ | with_reducible assumption | with_reducible refine Below.drew ?_ | with_reducible refine below_drewN ?_ _ | with_reducible refine Below.setCell ?_ ?_ _ | with_reducible refine Below.alloc ?_ ?_ _ | omega | (simp; done) | (simp; omega))))) (by omega) HV0.out).mono ?_
  rintro e w3 ⟨⟨Aa, qa, ra, rfl, hra, hAa, hsa⟩, hb3⟩
  have hw3 : Below w.heap.size w w3 := stepH (by (repeat' (first | with_reducible exact Below.refl _ _ | with_reducible assumption | with_reducible refine Below.drew ?_ | with_reducible refine below_drewN ?_ _ | with_reducible refine Below.setCell ?_ ?_ _ | with_reducible refine Below.alloc ?_ ?_ _ | omega | (simp; done) | (simp; omega)))) hb3
  clear hp0
  have Ha := Lib.hid hra
  have Ca := Lib.hid hsa
  have la : ra.length ≤ 400 := by have h := hsa.len; omega
  clear hra hsa
  have z3 := hw3.size
  clear hb3 hw2 z2
  have ya : Below w3.heap.size w3 w3 := Below.refl _ _
  have yya := ya.size
  go_wp2_with fail
  refine (piecesL_any k B c2 _ (moved HKk.out (by (repeat' (first | with_reducible exact Below.refl _ _ | with_reducible assumption | with_reducible refine Below.drew ?_ | with_reducible refine below_drewN ?_ _ | with_reducible refine Below.setCell ?_ ?_ _ | with_reducible refine Below.alloc ?_ ?_ _ | omega | (simp; done) | (simp; omega))))) (by omega)).mono ?_
  rintro e w4 ⟨⟨P1, p1, rfl, hp1⟩, hb4⟩
  have hw4 : Below w.heap.size w w4 := stepH (by (repeat' (first | with_reducible exact Below.refl _ _ | with_reducible assumption | with_reducible refine Below.drew ?_ | with_reducible refine below_drewN ?_ _ | with_reducible refine Below.setCell ?_ ?_ _ | with_reducible refine Below.alloc ?_ ?_ _ | omega | (simp; done) | (simp; omega)))) hb4
  replace ya : Below w3.heap.size w3 w4 := stepH (by (repeat' (first | with_reducible exact Below.refl _ _ | with_reducible assumption | with_reducible refine Below.drew ?_ | with_reducible refine below_drewN ?_ _ | with_reducible refine Below.setCell ?_ ?_ _ | with_reducible refine Below.alloc ?_ ?_ _ | omega | (simp; done) | (simp; omega)))) hb4
  replace yya := ya.size
  have R := keepH hb4 (g := w3.heap.size) (blk_new rfl)
  have z4 := hw4.size
  clear hb4 hw3 z3
  have cR := cellH R
  obtain ⟨lR, lR1, lR2⟩ := ltH R
  go_wp2_with fail
  refine (make6_ok k P1 p1 _ (moved hp1 (by (repeat' (first | with_reducible exact Below.refl _ _ | with_reducible assumption | with_reducible refine Below.drew ?_ | with_reducible refine below_drewN ?_ _ | with_reducible refine Below.setCell ?_ ?_ _ | with_reducible refine Below.alloc ?_ ?_ _ | omega | (simp; done) | (simp; omega))))) (by omega) HV1.out).mono ?_
  rintro e w5 ⟨⟨Ab, qb, rb, rfl, hrb, hAb, hsb⟩, hb5⟩
  have hw5 : Below w.heap.size w w5 := stepH (by (repeat' (first | with_reducible exact Below.refl _ _ | with_reducible assumption | with_reducible refine Below.drew ?_ | with_reducible refine below_drewN ?_ _ | with_reducible refine Below.setCell ?_ ?_ _ | with_reducible refine Below.alloc ?_ ?_ _ | omega | (simp; done) | (simp; omega)))) hb5
  replace ya : Below w3.heap.size w3 w5 := stepH (by (repeat' (first | with_reducible exact Below.refl _ _ | with_reducible assumption | with_reducible refine Below.drew ?_ | with_reducible refine below_drewN ?_ _ | with_reducible refine Below.setCell ?_ ?_ _ | with_reducible refine Below.alloc ?_ ?_ _ | omega | (simp; done) | (simp; omega)))) hb5
  replace yya := ya.size
  clear hp1
  have Hb := Lib.hid hrb
  have Cb := Lib.hid hsb
  have lb : rb.length ≤ 400 := by have h := hsb.len; omega
  clear hrb hsb
  replace R := keepH hb5 R.out
  have z5 := hw5.size
  clear hb5 hw4 z4
  clear cR lR lR1 lR2
  have cR := cellH R
  obtain ⟨lR, lR1, lR2⟩ := ltH R
  have yb : Below w5.heap.size w5 w5 := Below.refl _ _
  have yyb := yb.size
  go_wp2_with fail
  refine (piecesL_any j C c3 _ (moved HJj.out (by (repeat' (first | with_reducible exact Below.refl _ _ | with_reducible assumption | with_reducible refine Below.drew ?_ | with_reducible refine below_drewN ?_ _ | with_reducible refine Below.setCell ?_ ?_ _ | with_reducible refine Below.alloc ?_ ?_ _ | omega | (simp; done) | (simp; omega))))) (by omega)).mono ?_
  rintro e w6 ⟨⟨P2, p2, rfl, hp2⟩, hb6⟩
  have hw6 : Below w.heap.size w w6 := stepH (by (repeat' (first | with_reducible exact Below.refl _ _ | with_reducible assumption | with_reducible refine Below.drew ?_ | with_reducible refine below_drewN ?_ _ | with_reducible refine Below.setCell ?_ ?_ _ | with_reducible refine Below.alloc ?_ ?_ _ | omega | (simp; done) | (simp; omega)))) hb6
  replace ya : Below w3.heap.size w3 w6 := stepH (by (repeat' (first | with_reducible exact Below.refl _ _ | with_reducible assumption | with_reducible refine Below.drew ?_ | with_reducible refine below_drewN ?_ _ | with_reducible refine Below.setCell ?_ ?_ _ | with_reducible refine Below.alloc ?_ ?_ _ | omega | (simp; done) | (simp; omega)))) hb6
  replace yya := ya.size
  replace yb : Below w5.heap.size w5 w6 := stepH (by (repeat' (first | with_reducible exact Below.refl _ _ | with_reducible assumption | with_reducible refine Below.drew ?_ | with_reducible refine below_drewN ?_ _ | with_reducible refine Below.setCell ?_ ?_ _ | with_reducible refine Below.alloc ?_ ?_ _ | omega | (simp; done) | (simp; omega)))) hb6
  replace yyb := yb.size
  replace R := keepH hb6 (blk_old R.out)
  have S := keepH hb6 (g := w5.heap.size) (blk_new rfl)
  have z6 := hw6.size
  clear hb6 hw5 z5
  clear cR lR lR1 lR2
  have cR := cellH R
  obtain ⟨lR, lR1, lR2⟩ := ltH R
  have cS := cellH S
  obtain ⟨lS, lS1, lS2⟩ := ltH S
  go_wp2_with fail
  refine (make6_ok j P2 p2 _ (moved hp2 (by (repeat' (first | with_reducible exact Below.refl _ _ | with_reducible assumption | with_reducible refine Below.drew ?_ | with_reducible refine below_drewN ?_ _ | with_reducible refine Below.setCell ?_ ?_ _ | with_reducible refine Below.alloc ?_ ?_ _ | omega | (simp; done) | (simp; omega))))) (by omega) HV2.out).mono ?_
  rintro e w7 ⟨⟨Ac, qc, rc, rfl, hrc, hAc, hsc⟩, hb7⟩
  have hw7 : Below w.heap.size w w7 := stepH (by (repeat' (first | with_reducible exact Below.refl _ _ | with_reducible assumption | with_reducible refine Below.drew ?_ | with_reducible refine below_drewN ?_ _ | with_reducible refine Below.setCell ?_ ?_ _ | with_reducible refine Below.alloc ?_ ?_ _ | omega | (simp; done) | (simp; omega)))) hb7
  replace ya : Below w3.heap.size w3 w7 := stepH (by (repeat' (first | with_reducible exact Below.refl _ _ | with_reducible assumption | with_reducible refine Below.drew ?_ | with_reducible refine below_drewN ?_ _ | with_reducible refine Below.setCell ?_ ?_ _ | with_reducible refine Below.alloc ?_ ?_ _ | omega | (simp; done) | (simp; omega)))) hb7
  replace yya := ya.size
  replace yb : Below w5.heap.size w5 w7 := stepH (by (repeat' (first | with_reducible exact Below.refl _ _ | with_reducible assumption | with_reducible refine Below.drew ?_ | with_reducible refine below_drewN ?_ _ | with_reducible refine Below.setCell ?_ ?_ _ | with_reducible refine Below.alloc ?_ ?_ _ | omega | (simp; done) | (simp; omega)))) hb7
  replace yyb := yb.size
  clear hp2
  have Hc := Lib.hid hrc
  have Cc := Lib.hid hsc
  have lc : rc.length ≤ 400 := by have h := hsc.len; omega
  clear hrc hsc
  replace R := keepH hb7 R.out
  replace S := keepH hb7 S.out
  have z7 := hw7.size
  clear hb7 hw6 z6
  clear cR lR lR1 lR2 cS lS lS1 lS2
  have cR := cellH R
  obtain ⟨lR, lR1, lR2⟩ := ltH R
  have cS := cellH S
  obtain ⟨lS, lS1, lS2⟩ := ltH S
  have yc : Below w7.heap.size w7 w7 := Below.refl _ _
  have yyc := yc.size
  go_wp2_with fail
  refine (makeS_ok m D c4 _ (moved HMm.out (by (repeat' (first | with_reducible exact Below.refl _ _ | with_reducible assumption | with_reducible refine Below.drew ?_ | with_reducible refine below_drewN ?_ _ | with_reducible refine Below.setCell ?_ ?_ _ | with_reducible refine Below.alloc ?_ ?_ _ | omega | (simp; done) | (simp; omega))))) (by omega) HV3.out).mono ?_
  rintro e w8 ⟨⟨Ad, qd, rd, rfl, hrd, hAd, hsd⟩, hb8⟩
  have hw8 : Below w.heap.size w w8 := stepH (by (repeat' (first | with_reducible exact Below.refl _ _ | with_reducible assumption | with_reducible refine Below.drew ?_ | with_reducible refine below_drewN ?_ _ | with_reducible refine Below.setCell ?_ ?_ _ | with_reducible refine Below.alloc ?_ ?_ _ | omega | (simp; done) | (simp; omega)))) hb8
  replace ya : Below w3.heap.size w3 w8 := stepH (by (repeat' (first | with_reducible exact Below.refl _ _ | with_reducible assumption | with_reducible refine Below.drew ?_ | with_reducible refine below_drewN ?_ _ | with_reducible refine Below.setCell ?_ ?_ _ | with_reducible refine Below.alloc ?_ ?_ _ | omega | (simp; done) | (simp; omega)))) hb8
  replace yya := ya.size
  replace yb : Below w5.heap.size w5 w8 := stepH (by (repeat' (first | with_reducible exact Below.refl _ _ | with_reducible assumption | with_reducible refine Below.drew ?_ | with_reducible refine below_drewN ?_ _ | with_reducible refine Below.setCell ?_ ?_ _ | with_reducible refine Below.alloc ?_ ?_ _ | omega | (simp; done) | (simp; omega)))) hb8
  replace yyb := yb.size
  replace yc : Below w7.heap.size w7 w8 := stepH (by (repeat' (first | with_reducible exact Below.refl _ _ | with_reducible assumption | with_reducible refine Below.drew ?_ | with_reducible refine below_drewN ?_ _ | with_reducible refine Below.setCell ?_ ?_ _ | with_reducible refine Below.alloc ?_ ?_ _ | omega | (simp; done) | (simp; omega)))) hb8
  replace yyc := yc.size
  have Hd := Lib.hid hrd
  have Cd := Lib.hid hsd
  have ld : rd.length ≤ 200 := by have h := hsd.len; omega
  clear hrd hsd
  replace R := keepH hb8 (blk_old R.out)
  replace S := keepH hb8 (blk_old S.out)
  have U := keepH hb8 (g := w7.heap.size) (blk_new rfl)
  have z8 := hw8.size
  clear hb8 hw7 z7
  clear cR lR lR1 lR2 cS lS lS1 lS2
  have cR := cellH R
  obtain ⟨lR, lR1, lR2⟩ := ltH R
  have cS := cellH S
  obtain ⟨lS, lS1, lS2⟩ := ltH S
  have cU := cellH U
  obtain ⟨lU, lU1, lU2⟩ := ltH U
  have yd : Below w8.heap.size w8 w8 := Below.refl _ _
  have yyd := yd.size
  go_wp2_with fail
  have hw9 : Below w.heap.size w ((w8.alloc (.cells #[.slice Ad rd.length qd] 77)).alloc (.cells #[.slice none 0 0] 61)) := by (repeat' (first | with_reducible exact Below.refl _ _ | with_reducible assumption | with_reducible refine Below.drew ?_ | with_reducible refine below_drewN ?_ _ | with_reducible refine Below.setCell ?_ ?_ _ | with_reducible refine Below.alloc ?_ ?_ _ | omega | (simp; done) | (simp; omega)))
  replace ya : Below w3.heap.size w3 ((w8.alloc (.cells #[.slice Ad rd.length qd] 77)).alloc (.cells #[.slice none 0 0] 61)) := by (repeat' (first | with_reducible exact Below.refl _ _ | with_reducible assumption | with_reducible refine Below.drew ?_ | with_reducible refine below_drewN ?_ _ | with_reducible refine Below.setCell ?_ ?_ _ | with_reducible refine Below.alloc ?_ ?_ _ | omega | (simp; done) | (simp; omega)))
  replace yb : Below w5.heap.size w5 ((w8.alloc (.cells #[.slice Ad rd.length qd] 77)).alloc (.cells #[.slice none 0 0] 61)) := by (repeat' (first | with_reducible exact Below.refl _ _ | with_reducible assumption | with_reducible refine Below.drew ?_ | with_reducible refine below_drewN ?_ _ | with_reducible refine Below.setCell ?_ ?_ _ | with_reducible refine Below.alloc ?_ ?_ _ | omega | (simp; done) | (simp; omega)))
  replace yc : Below w7.heap.size w7 ((w8.alloc (.cells #[.slice Ad rd.length qd] 77)).alloc (.cells #[.slice none 0 0] 61)) := by (repeat' (first | with_reducible exact Below.refl _ _ | with_reducible assumption | with_reducible refine Below.drew ?_ | with_reducible refine below_drewN ?_ _ | with_reducible refine Below.setCell ?_ ?_ _ | with_reducible refine Below.alloc ?_ ?_ _ | omega | (simp; done) | (simp; omega)))
  replace yd : Below w8.heap.size w8 ((w8.alloc (.cells #[.slice Ad rd.length qd] 77)).alloc (.cells #[.slice none 0 0] 61)) := by (repeat' (first | with_reducible exact Below.refl _ _ | with_reducible assumption | with_reducible refine Below.drew ?_ | with_reducible refine below_drewN ?_ _ | with_reducible refine Below.setCell ?_ ?_ _ | with_reducible refine Below.alloc ?_ ?_ _ | omega | (simp; done) | (simp; omega)))
  replace R : Hid (((w8.alloc (.cells #[.slice Ad rd.length qd] 77)).alloc (.cells #[.slice none 0 0] 61)).heap[w3.heap.size]? = some (.cells #[.slice Aa ra.length qa] 61 (0, 0))) := (blk_old (blk_old R.out))
  replace S : Hid (((w8.alloc (.cells #[.slice Ad rd.length qd] 77)).alloc (.cells #[.slice none 0 0] 61)).heap[w5.heap.size]? = some (.cells #[.slice Ab rb.length qb] 61 (0, 0))) := (blk_old (blk_old S.out))
  replace U : Hid (((w8.alloc (.cells #[.slice Ad rd.length qd] 77)).alloc (.cells #[.slice none 0 0] 61)).heap[w7.heap.size]? = some (.cells #[.slice Ac rc.length qc] 61 (0, 0))) := (blk_old (blk_old U.out))
  have D : Hid (((w8.alloc (.cells #[.slice Ad rd.length qd] 77)).alloc (.cells #[.slice none 0 0] 61)).heap[w8.heap.size]? = some (.cells #[.slice Ad rd.length qd] 77 (0, 0))) := (blk_old (blk_new rfl))
  have Z : Hid (((w8.alloc (.cells #[.slice Ad rd.length qd] 77)).alloc (.cells #[.slice none 0 0] 61)).heap[w8.heap.size + 1]? = some (.cells #[.slice none 0 0] 61 (0, 0))) := (blk_new (by simp))
  clear cR lR lR1 lR2 cS lS lS1 lS2 cU lU lU1 lU2
  generalize ((w8.alloc (.cells #[.slice Ad rd.length qd] 77)).alloc (.cells #[.slice none 0 0] 61)) = w9 at *
  have z9 := hw9.size
  replace yya := ya.size
  replace yyb := yb.size
  replace yyc := yc.size
  replace yyd := yd.size
  have cR := cellH R
  obtain ⟨lR, lR1, lR2⟩ := ltH R
  have cS := cellH S
  obtain ⟨lS, lS1, lS2⟩ := ltH S
  have cU := cellH U
  obtain ⟨lU, lU1, lU2⟩ := ltH U
  have cD := cellH D
  obtain ⟨lD, lD1, lD2⟩ := ltH D
  have cZ := cellH Z
  obtain ⟨lZ, lZ1, lZ2⟩ := ltH Z
  clear cR lR lR1 lR2 cS lS lS1 lS2 cU lU lU1 lU2 cD lD lD1 lD2 cZ lZ lZ1 lZ2
  have xR : w9.cell? ⟨w3.heap.size, 0, none⟩ = some (.slice Aa ra.length qa) := cellH R 0
  have xS : w9.cell? ⟨w5.heap.size, 0, none⟩ = some (.slice Ab rb.length qb) := cellH S 0
  have xU : w9.cell? ⟨w7.heap.size, 0, none⟩ = some (.slice Ac rc.length qc) := cellH U 0
  refine wp_region_held_drew (S := fun w' => w'.cell? ⟨w3.heap.size, 0, none⟩ = some (.slice Aa ra.length qa) ∧ w'.cell? ⟨w5.heap.size, 0, none⟩ = some (.slice Ab rb.length qb) ∧ w'.cell? ⟨w7.heap.size, 0, none⟩ = some (.slice Ac rc.length qc)) (by kernel_rfl) ?_ (fun hH0 => ?_)
  · exact ⟨xR, xS, xU⟩
  refine wpAnyH_take (i := 0) (oi := { dst := some 86, op := Go.Op.load 61 (Go.Operand.tmp 10), type := 61, pos := "law.go:251", after := #[], guard := none }) (v := ?_) rfl (by kernel_rfl) (by kernel_rfl) (by kernel_rfl) (fun _ _ _ h => h) (Or.inl ⟨by rfl, ?_⟩) (by assumption) ?_
  rotate_left
  · intro wq hSw; (try dsimp only at hSw); go_simp; (try with_reducible rfl)
  try simp only [Act.put, List.setIfInBounds_toArray, List.set_cons_zero, List.set_cons_succ]
  refine wpAnyH_take (i := 1) (oi := { dst := some 87, op := Go.Op.load 61 (Go.Operand.tmp 12), type := 61, pos := "law.go:251", after := #[], guard := none }) (v := ?_) rfl (by kernel_rfl) (by kernel_rfl) (by kernel_rfl) (fun _ _ _ h => h) (Or.inl ⟨by rfl, ?_⟩) (by assumption) ?_
  rotate_left
  · intro wq hSw; (try dsimp only at hSw); go_simp; (try with_reducible rfl)
  try simp only [Act.put, List.setIfInBounds_toArray, List.set_cons_zero, List.set_cons_succ]
  refine wpAnyH_take (i := 3) (oi := { dst := some 89, op := Go.Op.load 61 (Go.Operand.tmp 14), type := 61, pos := "law.go:251", after := #[], guard := none }) (v := ?_) rfl (by kernel_rfl) (by kernel_rfl) (by kernel_rfl) (fun _ _ _ h => h) (Or.inl ⟨by rfl, ?_⟩) (by assumption) ?_
  rotate_left
  · intro wq hSw; (try dsimp only at hSw); go_simp; (try with_reducible rfl)
  try simp only [Act.put, List.setIfInBounds_toArray, List.set_cons_zero, List.set_cons_succ]
  refine wpAnyH_take (i := 5) (oi := { dst := some 91, op := Go.Op.load 61 (Go.Operand.tmp 10), type := 61, pos := "law.go:251", after := #[], guard := none }) (v := ?_) rfl (by kernel_rfl) (by kernel_rfl) (by kernel_rfl) (fun _ _ _ h => h) (Or.inl ⟨by rfl, ?_⟩) (by assumption) ?_
  rotate_left
  · intro wq hSw; (try dsimp only at hSw); go_simp; (try with_reducible rfl)
  try simp only [Act.put, List.setIfInBounds_toArray, List.set_cons_zero, List.set_cons_succ]
  refine wpAnyH_take (i := 6) (oi := { dst := some 92, op := Go.Op.load 61 (Go.Operand.tmp 12), type := 61, pos := "law.go:251", after := #[], guard := none }) (v := ?_) rfl (by kernel_rfl) (by kernel_rfl) (by kernel_rfl) (fun _ _ _ h => h) (Or.inl ⟨by rfl, ?_⟩) (by assumption) ?_
  rotate_left
  · intro wq hSw; (try dsimp only at hSw); go_simp; (try with_reducible rfl)
  try simp only [Act.put, List.setIfInBounds_toArray, List.set_cons_zero, List.set_cons_succ]
  refine wpAnyH_take (i := 7) (oi := { dst := some 93, op := Go.Op.load 61 (Go.Operand.tmp 14), type := 61, pos := "law.go:251", after := #[], guard := none }) (v := ?_) rfl (by kernel_rfl) (by kernel_rfl) (by kernel_rfl) (fun _ _ _ h => h) (Or.inl ⟨by rfl, ?_⟩) (by assumption) ?_
  rotate_left
  · intro wq hSw; (try dsimp only at hSw); go_simp; (try with_reducible rfl)
  try simp only [Act.put, List.setIfInBounds_toArray, List.set_cons_zero, List.set_cons_succ]
  refine wpAnyH_ready (rs := [2]) (by kernel_rfl) (by simp) ?_
  refine AllReadyH.cons (o := { dst := some 88, op := Go.Op.call { callee := Go.Callee.value (Go.Operand.func 41), args := #[Go.Operand.tmp 86, Go.Operand.tmp 87], argTypes := #[61, 61] }, type := 61, pos := "law.go:251", after := #[{ on := 0, ground := Go.Ground.data }, { on := 1, ground := Go.Ground.data }], guard := none }) rfl (fun K hK => ?_) ?_
  rotate_left
  · exact AllReadyH.nil
  go_simp
  refine (over6_any ra rb Aa Ab qa qb _ (moved Ha.out ya.drew) (moved Hb.out yb.drew) (by omega) (by omega) Ca.out.canon.rise Cb.out.canon.rise Ca.out.canon.upTo Cb.out.canon.upTo).mono ?_
  rintro e w10 ⟨⟨Ae, qe, re, rfl, hre, hAe, _, hce, hve⟩, hb10⟩
  have hw10 : Below w.heap.size w w10 := stepH hw9.drew hb10
  have z10 := hw10.size
  replace ya : Below w3.heap.size w3 w10 := stepH ya.drew hb10
  replace yya := ya.size
  replace yb : Below w5.heap.size w5 w10 := stepH yb.drew hb10
  replace yyb := yb.size
  replace yc : Below w7.heap.size w7 w10 := stepH yc.drew hb10
  replace yyc := yc.size
  replace yd : Below w8.heap.size w8 w10 := stepH yd.drew hb10
  replace yyd := yd.size
  replace R := keepH hb10 (drew_old R.out)
  replace S := keepH hb10 (drew_old S.out)
  replace U := keepH hb10 (drew_old U.out)
  replace D := keepH hb10 (drew_old D.out)
  replace Z := keepH hb10 (drew_old Z.out)
  replace xR : w10.cell? ⟨w3.heap.size, 0, none⟩ = some (.slice Aa ra.length qa) := cellOf hb10 (cell_drew xR)
  replace xS : w10.cell? ⟨w5.heap.size, 0, none⟩ = some (.slice Ab rb.length qb) := cellOf hb10 (cell_drew xS)
  replace xU : w10.cell? ⟨w7.heap.size, 0, none⟩ = some (.slice Ac rc.length qc) := cellOf hb10 (cell_drew xU)
  have le : re.length ≤ 800 := by have h := over_len Ca.out.val Cb.out.val hce hve; rw [List.length_reverse, List.length_reverse] at h; omega
  have Ve := Lib.hid hve
  clear hve
  have Ce := Lib.hid hce
  clear hce
  have He := Lib.hid hre
  clear hre
  have ye : Below w10.heap.size w10 w10 := Below.refl _ _
  have yye := ye.size
  clear hb10
  go_wp2_with fail
  refine hK.out _ _ ?_ (fun hH1 => ?_)
  · (try dsimp only); exact ⟨xR, xS, xU⟩
  clear hK K
  clear hH0
  try simp only [Act.put, List.setIfInBounds_toArray, List.set_cons_zero, List.set_cons_succ]
  refine wpAnyH_ready (rs := [4]) (by kernel_rfl) (by simp) ?_
  refine AllReadyH.cons (o := { dst := some 90, op := Go.Op.call { callee := Go.Callee.value (Go.Operand.func 41), args := #[Go.Operand.tmp 88, Go.Operand.tmp 89], argTypes := #[61, 61] }, type := 61, pos := "law.go:251", after := #[{ on := 2, ground := Go.Ground.data }, { on := 3, ground := Go.Ground.data }, { on := 2, ground := Go.Ground.chain }], guard := none }) rfl (fun K hK => ?_) ?_
  rotate_left
  · exact AllReadyH.nil
  go_simp
  refine (over6_any re rc Ae Ac qe qc _ (moved He.out ye) (moved Hc.out yc) (by omega) (by omega) Ce.out.rise Cc.out.canon.rise Ce.out.upTo Cc.out.canon.upTo).mono ?_
  rintro e w11 ⟨⟨Af, qf, rf, rfl, hrf, hAf, _, hcf, hvf⟩, hb11⟩
  have hw11 : Below w.heap.size w w11 := stepH hw10 hb11
  have z11 := hw11.size
  replace ya : Below w3.heap.size w3 w11 := stepH ya hb11
  replace yya := ya.size
  replace yb : Below w5.heap.size w5 w11 := stepH yb hb11
  replace yyb := yb.size
  replace yc : Below w7.heap.size w7 w11 := stepH yc hb11
  replace yyc := yc.size
  replace yd : Below w8.heap.size w8 w11 := stepH yd hb11
  replace yyd := yd.size
  replace ye : Below w10.heap.size w10 w11 := stepH ye hb11
  replace yye := ye.size
  replace R := keepH hb11 R.out
  replace S := keepH hb11 S.out
  replace U := keepH hb11 U.out
  replace D := keepH hb11 D.out
  replace Z := keepH hb11 Z.out
  replace xR : w11.cell? ⟨w3.heap.size, 0, none⟩ = some (.slice Aa ra.length qa) := cellOf hb11 xR
  replace xS : w11.cell? ⟨w5.heap.size, 0, none⟩ = some (.slice Ab rb.length qb) := cellOf hb11 xS
  replace xU : w11.cell? ⟨w7.heap.size, 0, none⟩ = some (.slice Ac rc.length qc) := cellOf hb11 xU
  have lf : rf.length ≤ 1200 := by have h := over_len (over_val Ca.out.val Cb.out.val Ve.out) Cc.out.val hcf hvf; rw [List.length_append, List.length_reverse, List.length_reverse, List.length_reverse] at h; omega
  have Hf := Lib.hid hrf
  clear hrf
  have yf : Below w11.heap.size w11 w11 := Below.refl _ _
  have yyf := yf.size
  clear hb11
  go_wp2_with fail
  refine hK.out _ _ ?_ (fun hH2 => ?_)
  · (try dsimp only); exact ⟨xR, xS, xU⟩
  clear hK K
  clear hH1
  try simp only [Act.put, List.setIfInBounds_toArray, List.set_cons_zero, List.set_cons_succ]
  refine wpAnyH_ready (rs := [8]) (by kernel_rfl) (by simp) ?_
  refine AllReadyH.cons (o := { dst := some 94, op := Go.Op.call { callee := Go.Callee.value (Go.Operand.func 41), args := #[Go.Operand.tmp 92, Go.Operand.tmp 93], argTypes := #[61, 61] }, type := 61, pos := "law.go:251", after := #[{ on := 6, ground := Go.Ground.data }, { on := 7, ground := Go.Ground.data }, { on := 4, ground := Go.Ground.chain }], guard := none }) rfl (fun K hK => ?_) ?_
  rotate_left
  · exact AllReadyH.nil
  go_simp
  refine (over6_any rb rc Ab Ac qb qc _ (moved Hb.out yb) (moved Hc.out yc) (by omega) (by omega) Cb.out.canon.rise Cc.out.canon.rise Cb.out.canon.upTo Cc.out.canon.upTo).mono ?_
  rintro e w12 ⟨⟨Ag, qg, rg, rfl, hrg, hAg, _, hcg, hvg⟩, hb12⟩
  have hw12 : Below w.heap.size w w12 := stepH hw11 hb12
  have z12 := hw12.size
  replace ya : Below w3.heap.size w3 w12 := stepH ya hb12
  replace yya := ya.size
  replace yb : Below w5.heap.size w5 w12 := stepH yb hb12
  replace yyb := yb.size
  replace yc : Below w7.heap.size w7 w12 := stepH yc hb12
  replace yyc := yc.size
  replace yd : Below w8.heap.size w8 w12 := stepH yd hb12
  replace yyd := yd.size
  replace ye : Below w10.heap.size w10 w12 := stepH ye hb12
  replace yye := ye.size
  replace yf : Below w11.heap.size w11 w12 := stepH yf hb12
  replace yyf := yf.size
  replace R := keepH hb12 R.out
  replace S := keepH hb12 S.out
  replace U := keepH hb12 U.out
  replace D := keepH hb12 D.out
  replace Z := keepH hb12 Z.out
  replace xR : w12.cell? ⟨w3.heap.size, 0, none⟩ = some (.slice Aa ra.length qa) := cellOf hb12 xR
  replace xS : w12.cell? ⟨w5.heap.size, 0, none⟩ = some (.slice Ab rb.length qb) := cellOf hb12 xS
  replace xU : w12.cell? ⟨w7.heap.size, 0, none⟩ = some (.slice Ac rc.length qc) := cellOf hb12 xU
  have lg : rg.length ≤ 800 := by have h := over_len Cb.out.val Cc.out.val hcg hvg; rw [List.length_reverse, List.length_reverse] at h; omega
  have Cg := Lib.hid hcg
  clear hcg
  have Hg := Lib.hid hrg
  clear hrg
  have yg : Below w12.heap.size w12 w12 := Below.refl _ _
  have yyg := yg.size
  clear hb12
  go_wp2_with fail
  refine hK.out _ _ ?_ (fun hH3 => ?_)
  · (try dsimp only); exact ⟨xR, xS, xU⟩
  clear hK K
  clear hH2
  try simp only [Act.put, List.setIfInBounds_toArray, List.set_cons_zero, List.set_cons_succ]
  refine wpAnyH_ready (rs := [9]) (by kernel_rfl) (by simp) ?_
  refine AllReadyH.cons (o := { dst := some 95, op := Go.Op.call { callee := Go.Callee.value (Go.Operand.func 41), args := #[Go.Operand.tmp 91, Go.Operand.tmp 94], argTypes := #[61, 61] }, type := 61, pos := "law.go:251", after := #[{ on := 5, ground := Go.Ground.data }, { on := 8, ground := Go.Ground.data }, { on := 8, ground := Go.Ground.chain }], guard := none }) rfl (fun K hK => ?_) ?_
  rotate_left
  · exact AllReadyH.nil
  go_simp
  refine (over6_any ra rg Aa Ag qa qg _ (moved Ha.out ya) (moved Hg.out yg) (by omega) (by omega) Ca.out.canon.rise Cg.out.rise Ca.out.canon.upTo Cg.out.upTo).mono ?_
  rintro e w13 ⟨⟨Ah, qh, rh, rfl, hrh, hAh, _, hch, hvh⟩, hb13⟩
  have hw13 : Below w.heap.size w w13 := stepH hw12 hb13
  have z13 := hw13.size
  replace ya : Below w3.heap.size w3 w13 := stepH ya hb13
  replace yya := ya.size
  replace yb : Below w5.heap.size w5 w13 := stepH yb hb13
  replace yyb := yb.size
  replace yc : Below w7.heap.size w7 w13 := stepH yc hb13
  replace yyc := yc.size
  replace yd : Below w8.heap.size w8 w13 := stepH yd hb13
  replace yyd := yd.size
  replace ye : Below w10.heap.size w10 w13 := stepH ye hb13
  replace yye := ye.size
  replace yf : Below w11.heap.size w11 w13 := stepH yf hb13
  replace yyf := yf.size
  replace yg : Below w12.heap.size w12 w13 := stepH yg hb13
  replace yyg := yg.size
  replace R := keepH hb13 R.out
  replace S := keepH hb13 S.out
  replace U := keepH hb13 U.out
  replace D := keepH hb13 D.out
  replace Z := keepH hb13 Z.out
  replace xR : w13.cell? ⟨w3.heap.size, 0, none⟩ = some (.slice Aa ra.length qa) := cellOf hb13 xR
  replace xS : w13.cell? ⟨w5.heap.size, 0, none⟩ = some (.slice Ab rb.length qb) := cellOf hb13 xS
  replace xU : w13.cell? ⟨w7.heap.size, 0, none⟩ = some (.slice Ac rc.length qc) := cellOf hb13 xU
  obtain rfl : rf = rh := hcf.ext hch (fun n => by rw [hvf, hvh, Ve.out, hvg, over_assoc])
  clear hch hvh
  have Hh := Lib.hid hrh
  clear hrh
  have yh : Below w13.heap.size w13 w13 := Below.refl _ _
  have yyh := yh.size
  clear hb13
  go_wp2_with fail
  refine hK.out _ _ ?_ (fun hH4 => ?_)
  · (try dsimp only); exact ⟨xR, xS, xU⟩
  clear hK K
  clear hH3
  try simp only [Act.put, List.setIfInBounds_toArray, List.set_cons_zero, List.set_cons_succ]
  refine wpAnyH_ready (rs := [10]) (by kernel_rfl) (by simp) ?_
  refine AllReadyH.cons (o := { dst := some 96, op := Go.Op.call { callee := Go.Callee.value (Go.Operand.func 40), args := #[Go.Operand.tmp 90, Go.Operand.tmp 95], argTypes := #[61, 61] }, type := 4, pos := "law.go:251", after := #[{ on := 4, ground := Go.Ground.data }, { on := 9, ground := Go.Ground.data }, { on := 9, ground := Go.Ground.chain }], guard := none }) rfl (fun K hK => ?_) ?_
  rotate_left
  · exact AllReadyH.nil
  go_simp
  refine (sameL_yes rf rf.length Af Ah qf qh _ rfl (moved Hf.out yf) (moved Hh.out yh) (by omega) hAf hAh).mono ?_
  rintro e w14 ⟨rfl, hb14⟩
  have hw14 : Below w.heap.size w w14 := stepH hw13 hb14
  have z14 := hw14.size
  replace ya : Below w3.heap.size w3 w14 := stepH ya hb14
  replace yya := ya.size
  replace yb : Below w5.heap.size w5 w14 := stepH yb hb14
  replace yyb := yb.size
  replace yc : Below w7.heap.size w7 w14 := stepH yc hb14
  replace yyc := yc.size
  replace yd : Below w8.heap.size w8 w14 := stepH yd hb14
  replace yyd := yd.size
  replace ye : Below w10.heap.size w10 w14 := stepH ye hb14
  replace yye := ye.size
  replace yf : Below w11.heap.size w11 w14 := stepH yf hb14
  replace yyf := yf.size
  replace yg : Below w12.heap.size w12 w14 := stepH yg hb14
  replace yyg := yg.size
  replace yh : Below w13.heap.size w13 w14 := stepH yh hb14
  replace yyh := yh.size
  replace R := keepH hb14 R.out
  replace S := keepH hb14 S.out
  replace U := keepH hb14 U.out
  replace D := keepH hb14 D.out
  replace Z := keepH hb14 Z.out
  replace xR : w14.cell? ⟨w3.heap.size, 0, none⟩ = some (.slice Aa ra.length qa) := cellOf hb14 xR
  replace xS : w14.cell? ⟨w5.heap.size, 0, none⟩ = some (.slice Ab rb.length qb) := cellOf hb14 xS
  replace xU : w14.cell? ⟨w7.heap.size, 0, none⟩ = some (.slice Ac rc.length qc) := cellOf hb14 xU
  clear hb14
  go_wp2_with fail
  refine hK.out _ _ ?_ (fun hH5 => ?_)
  · (try dsimp only); exact ⟨xR, xS, xU⟩
  clear hK K
  clear hH4
  try simp only [Act.put, List.setIfInBounds_toArray, List.set_cons_zero, List.set_cons_succ]
  refine wpAnyH_take (i := 11) (oi := { dst := some 19, op := Go.Op.assign (Go.Operand.tmp 96), type := 4, pos := "law.go:251", after := #[{ on := 10, ground := Go.Ground.data }, { on := 10, ground := Go.Ground.chain }, { on := 0, ground := Go.Ground.phase }, { on := 1, ground := Go.Ground.phase }, { on := 2, ground := Go.Ground.phase }, { on := 3, ground := Go.Ground.phase }, { on := 4, ground := Go.Ground.phase }, { on := 5, ground := Go.Ground.phase }, { on := 6, ground := Go.Ground.phase }, { on := 7, ground := Go.Ground.phase }, { on := 8, ground := Go.Ground.phase }, { on := 9, ground := Go.Ground.phase }, { on := 10, ground := Go.Ground.phase }], guard := none }) (v := ?_) rfl (by kernel_rfl) (by kernel_rfl) (by kernel_rfl) (fun _ _ _ h => h) (Or.inl ⟨by rfl, ?_⟩) (by assumption) ?_
  rotate_left
  · intro wq hSw; (try dsimp only at hSw); go_simp; (try with_reducible rfl)
  try simp only [Act.put, List.setIfInBounds_toArray, List.set_cons_zero, List.set_cons_succ]
  refine wpAnyH_done (by kernel_rfl) ?_ _
  clear xR xS xU
  clear hcf hvf hvg Ve Ce Cg le lf lg
  clear yye ye He hAe yyf yf Hf hAf yyg yg Hg hAg yyh yh Hh hAh
  have xR : w14.cell? ⟨w3.heap.size, 0, none⟩ = some (.slice Aa ra.length qa) := cellH R 0
  go_wp2_with fail
  refine wp_region_held_drew (S := fun w' => w'.cell? ⟨w3.heap.size, 0, none⟩ = some (.slice Aa ra.length qa)) (by kernel_rfl) ?_ (fun hH0 => ?_)
  · exact xR
  refine wpAnyH_take (i := 0) (oi := { dst := some 97, op := Go.Op.load 61 (Go.Operand.tmp 10), type := 61, pos := "law.go:252", after := #[], guard := none }) (v := ?_) rfl (by kernel_rfl) (by kernel_rfl) (by kernel_rfl) (fun _ _ _ h => h) (Or.inl ⟨by rfl, ?_⟩) (by assumption) ?_
  rotate_left
  · intro wq hSw; (try dsimp only at hSw); go_simp; (try with_reducible rfl)
  try simp only [Act.put, List.setIfInBounds_toArray, List.set_cons_zero, List.set_cons_succ]
  refine wpAnyH_take (i := 1) (oi := { dst := some 98, op := Go.Op.load 61 (Go.Operand.tmp 10), type := 61, pos := "law.go:252", after := #[], guard := none }) (v := ?_) rfl (by kernel_rfl) (by kernel_rfl) (by kernel_rfl) (fun _ _ _ h => h) (Or.inl ⟨by rfl, ?_⟩) (by assumption) ?_
  rotate_left
  · intro wq hSw; (try dsimp only at hSw); go_simp; (try with_reducible rfl)
  try simp only [Act.put, List.setIfInBounds_toArray, List.set_cons_zero, List.set_cons_succ]
  refine wpAnyH_take (i := 3) (oi := { dst := some 100, op := Go.Op.load 61 (Go.Operand.tmp 10), type := 61, pos := "law.go:252", after := #[], guard := none }) (v := ?_) rfl (by kernel_rfl) (by kernel_rfl) (by kernel_rfl) (fun _ _ _ h => h) (Or.inl ⟨by rfl, ?_⟩) (by assumption) ?_
  rotate_left
  · intro wq hSw; (try dsimp only at hSw); go_simp; (try with_reducible rfl)
  try simp only [Act.put, List.setIfInBounds_toArray, List.set_cons_zero, List.set_cons_succ]
  refine wpAnyH_ready (rs := [2]) (by kernel_rfl) (by simp) ?_
  refine AllReadyH.cons (o := { dst := some 99, op := Go.Op.call { callee := Go.Callee.value (Go.Operand.func 41), args := #[Go.Operand.tmp 97, Go.Operand.tmp 98], argTypes := #[61, 61] }, type := 61, pos := "law.go:252", after := #[{ on := 0, ground := Go.Ground.data }, { on := 1, ground := Go.Ground.data }], guard := none }) rfl (fun K hK => ?_) ?_
  rotate_left
  · exact AllReadyH.nil
  go_simp
  refine (over6_any ra ra Aa Aa qa qa _ (moved Ha.out ya.drew) (moved Ha.out ya.drew) (by omega) (by omega) Ca.out.canon.rise Ca.out.canon.rise Ca.out.canon.upTo Ca.out.canon.upTo).mono ?_
  rintro e w15 ⟨⟨Ae, qe, re, rfl, hre, hAe, _, hce, hve⟩, hb15⟩
  have hw15 : Below w.heap.size w w15 := stepH hw14.drew hb15
  have z15 := hw15.size
  replace ya : Below w3.heap.size w3 w15 := stepH ya.drew hb15
  replace yya := ya.size
  replace yb : Below w5.heap.size w5 w15 := stepH yb.drew hb15
  replace yyb := yb.size
  replace yc : Below w7.heap.size w7 w15 := stepH yc.drew hb15
  replace yyc := yc.size
  replace yd : Below w8.heap.size w8 w15 := stepH yd.drew hb15
  replace yyd := yd.size
  replace R := keepH hb15 (drew_old R.out)
  replace S := keepH hb15 (drew_old S.out)
  replace U := keepH hb15 (drew_old U.out)
  replace D := keepH hb15 (drew_old D.out)
  replace Z := keepH hb15 (drew_old Z.out)
  replace xR : w15.cell? ⟨w3.heap.size, 0, none⟩ = some (.slice Aa ra.length qa) := cellOf hb15 (cell_drew xR)
  obtain rfl : ra = re := Ca.out.canon.ext hce (fun n => by rw [hve, over_self])
  clear hce hve
  have He := Lib.hid hre
  clear hre
  have ye : Below w15.heap.size w15 w15 := Below.refl _ _
  have yye := ye.size
  clear hb15
  go_wp2_with fail
  refine hK.out _ _ ?_ (fun hH1 => ?_)
  · (try dsimp only); exact xR
  clear hK K
  clear hH0
  try simp only [Act.put, List.setIfInBounds_toArray, List.set_cons_zero, List.set_cons_succ]
  refine wpAnyH_ready (rs := [4]) (by kernel_rfl) (by simp) ?_
  refine AllReadyH.cons (o := { dst := some 101, op := Go.Op.call { callee := Go.Callee.value (Go.Operand.func 40), args := #[Go.Operand.tmp 99, Go.Operand.tmp 100], argTypes := #[61, 61] }, type := 4, pos := "law.go:252", after := #[{ on := 2, ground := Go.Ground.data }, { on := 3, ground := Go.Ground.data }, { on := 2, ground := Go.Ground.chain }], guard := none }) rfl (fun K hK => ?_) ?_
  rotate_left
  · exact AllReadyH.nil
  go_simp
  refine (sameL_yes ra ra.length Ae Aa qe qa _ rfl (moved He.out ye) (moved Ha.out ya) (by omega) hAe hAa).mono ?_
  rintro e w16 ⟨rfl, hb16⟩
  have hw16 : Below w.heap.size w w16 := stepH hw15 hb16
  have z16 := hw16.size
  replace ya : Below w3.heap.size w3 w16 := stepH ya hb16
  replace yya := ya.size
  replace yb : Below w5.heap.size w5 w16 := stepH yb hb16
  replace yyb := yb.size
  replace yc : Below w7.heap.size w7 w16 := stepH yc hb16
  replace yyc := yc.size
  replace yd : Below w8.heap.size w8 w16 := stepH yd hb16
  replace yyd := yd.size
  replace ye : Below w15.heap.size w15 w16 := stepH ye hb16
  replace yye := ye.size
  replace R := keepH hb16 R.out
  replace S := keepH hb16 S.out
  replace U := keepH hb16 U.out
  replace D := keepH hb16 D.out
  replace Z := keepH hb16 Z.out
  replace xR : w16.cell? ⟨w3.heap.size, 0, none⟩ = some (.slice Aa ra.length qa) := cellOf hb16 xR
  clear hb16
  go_wp2_with fail
  refine hK.out _ _ ?_ (fun hH2 => ?_)
  · (try dsimp only); exact xR
  clear hK K
  clear hH1
  try simp only [Act.put, List.setIfInBounds_toArray, List.set_cons_zero, List.set_cons_succ]
  refine wpAnyH_take (i := 5) (oi := { dst := some 20, op := Go.Op.assign (Go.Operand.tmp 101), type := 4, pos := "law.go:252", after := #[{ on := 4, ground := Go.Ground.data }, { on := 4, ground := Go.Ground.chain }, { on := 0, ground := Go.Ground.phase }, { on := 1, ground := Go.Ground.phase }, { on := 2, ground := Go.Ground.phase }, { on := 3, ground := Go.Ground.phase }, { on := 4, ground := Go.Ground.phase }], guard := none }) (v := ?_) rfl (by kernel_rfl) (by kernel_rfl) (by kernel_rfl) (fun _ _ _ h => h) (Or.inl ⟨by rfl, ?_⟩) (by assumption) ?_
  rotate_left
  · intro wq hSw; (try dsimp only at hSw); go_simp; (try with_reducible rfl)
  try simp only [Act.put, List.setIfInBounds_toArray, List.set_cons_zero, List.set_cons_succ]
  refine wpAnyH_done (by kernel_rfl) ?_ _
  clear xR
  clear yye ye He hAe
  have xR : w16.cell? ⟨w3.heap.size, 0, none⟩ = some (.slice Aa ra.length qa) := cellH R 0
  have xZ : w16.cell? ⟨w8.heap.size + 1, 0, none⟩ = some (.slice none 0 0) := cellH Z 0
  go_wp2_with fail
  refine wp_region_held_drew (S := fun w' => w'.cell? ⟨w3.heap.size, 0, none⟩ = some (.slice Aa ra.length qa) ∧ w'.cell? ⟨w8.heap.size + 1, 0, none⟩ = some (.slice none 0 0)) (by kernel_rfl) ?_ (fun hH0 => ?_)
  · exact ⟨xR, xZ⟩
  refine wpAnyH_take (i := 0) (oi := { dst := some 102, op := Go.Op.load 61 (Go.Operand.tmp 18), type := 61, pos := "law.go:253", after := #[], guard := none }) (v := ?_) rfl (by kernel_rfl) (by kernel_rfl) (by kernel_rfl) (fun _ _ _ h => h) (Or.inl ⟨by rfl, ?_⟩) (by assumption) ?_
  rotate_left
  · intro wq hSw; (try dsimp only at hSw); go_simp; (try with_reducible rfl)
  try simp only [Act.put, List.setIfInBounds_toArray, List.set_cons_zero, List.set_cons_succ]
  refine wpAnyH_take (i := 1) (oi := { dst := some 103, op := Go.Op.load 61 (Go.Operand.tmp 10), type := 61, pos := "law.go:253", after := #[], guard := none }) (v := ?_) rfl (by kernel_rfl) (by kernel_rfl) (by kernel_rfl) (fun _ _ _ h => h) (Or.inl ⟨by rfl, ?_⟩) (by assumption) ?_
  rotate_left
  · intro wq hSw; (try dsimp only at hSw); go_simp; (try with_reducible rfl)
  try simp only [Act.put, List.setIfInBounds_toArray, List.set_cons_zero, List.set_cons_succ]
  refine wpAnyH_take (i := 3) (oi := { dst := some 105, op := Go.Op.load 61 (Go.Operand.tmp 10), type := 61, pos := "law.go:253", after := #[], guard := none }) (v := ?_) rfl (by kernel_rfl) (by kernel_rfl) (by kernel_rfl) (fun _ _ _ h => h) (Or.inl ⟨by rfl, ?_⟩) (by assumption) ?_
  rotate_left
  · intro wq hSw; (try dsimp only at hSw); go_simp; (try with_reducible rfl)
  try simp only [Act.put, List.setIfInBounds_toArray, List.set_cons_zero, List.set_cons_succ]
  refine wpAnyH_ready (rs := [2]) (by kernel_rfl) (by simp) ?_
  refine AllReadyH.cons (o := { dst := some 104, op := Go.Op.call { callee := Go.Callee.value (Go.Operand.func 41), args := #[Go.Operand.tmp 102, Go.Operand.tmp 103], argTypes := #[61, 61] }, type := 61, pos := "law.go:253", after := #[{ on := 0, ground := Go.Ground.data }, { on := 1, ground := Go.Ground.data }], guard := none }) rfl (fun K hK => ?_) ?_
  rotate_left
  · exact AllReadyH.nil
  go_simp
  refine (over6_any [] ra none Aa 0 qa _ RowAt.nil (moved Ha.out ya.drew) (by decide) (by omega) (Canon.nil (M := MD)).rise Ca.out.canon.rise (Canon.nil (M := MD)).upTo Ca.out.canon.upTo).mono ?_
  rintro e w17 ⟨⟨Ae, qe, re, rfl, hre, hAe, _, hce, hve⟩, hb17⟩
  have hw17 : Below w.heap.size w w17 := stepH hw16.drew hb17
  have z17 := hw17.size
  replace ya : Below w3.heap.size w3 w17 := stepH ya.drew hb17
  replace yya := ya.size
  replace yb : Below w5.heap.size w5 w17 := stepH yb.drew hb17
  replace yyb := yb.size
  replace yc : Below w7.heap.size w7 w17 := stepH yc.drew hb17
  replace yyc := yc.size
  replace yd : Below w8.heap.size w8 w17 := stepH yd.drew hb17
  replace yyd := yd.size
  replace R := keepH hb17 (drew_old R.out)
  replace S := keepH hb17 (drew_old S.out)
  replace U := keepH hb17 (drew_old U.out)
  replace D := keepH hb17 (drew_old D.out)
  replace Z := keepH hb17 (drew_old Z.out)
  replace xR : w17.cell? ⟨w3.heap.size, 0, none⟩ = some (.slice Aa ra.length qa) := cellOf hb17 (cell_drew xR)
  replace xZ : w17.cell? ⟨w8.heap.size + 1, 0, none⟩ = some (.slice none 0 0) := cellOf hb17 (cell_drew xZ)
  obtain rfl : ra = re := Ca.out.canon.ext hce (fun n => (hve n).symm)
  clear hce hve
  have He := Lib.hid hre
  clear hre
  have ye : Below w17.heap.size w17 w17 := Below.refl _ _
  have yye := ye.size
  clear hb17
  go_wp2_with fail
  refine hK.out _ _ ?_ (fun hH1 => ?_)
  · (try dsimp only); exact ⟨xR, xZ⟩
  clear hK K
  clear hH0
  try simp only [Act.put, List.setIfInBounds_toArray, List.set_cons_zero, List.set_cons_succ]
  refine wpAnyH_ready (rs := [4]) (by kernel_rfl) (by simp) ?_
  refine AllReadyH.cons (o := { dst := some 106, op := Go.Op.call { callee := Go.Callee.value (Go.Operand.func 40), args := #[Go.Operand.tmp 104, Go.Operand.tmp 105], argTypes := #[61, 61] }, type := 4, pos := "law.go:253", after := #[{ on := 2, ground := Go.Ground.data }, { on := 3, ground := Go.Ground.data }, { on := 2, ground := Go.Ground.chain }], guard := none }) rfl (fun K hK => ?_) ?_
  rotate_left
  · exact AllReadyH.nil
  go_simp
  refine (sameL_yes ra ra.length Ae Aa qe qa _ rfl (moved He.out ye) (moved Ha.out ya) (by omega) hAe hAa).mono ?_
  rintro e w18 ⟨rfl, hb18⟩
  have hw18 : Below w.heap.size w w18 := stepH hw17 hb18
  have z18 := hw18.size
  replace ya : Below w3.heap.size w3 w18 := stepH ya hb18
  replace yya := ya.size
  replace yb : Below w5.heap.size w5 w18 := stepH yb hb18
  replace yyb := yb.size
  replace yc : Below w7.heap.size w7 w18 := stepH yc hb18
  replace yyc := yc.size
  replace yd : Below w8.heap.size w8 w18 := stepH yd hb18
  replace yyd := yd.size
  replace ye : Below w17.heap.size w17 w18 := stepH ye hb18
  replace yye := ye.size
  replace R := keepH hb18 R.out
  replace S := keepH hb18 S.out
  replace U := keepH hb18 U.out
  replace D := keepH hb18 D.out
  replace Z := keepH hb18 Z.out
  replace xR : w18.cell? ⟨w3.heap.size, 0, none⟩ = some (.slice Aa ra.length qa) := cellOf hb18 xR
  replace xZ : w18.cell? ⟨w8.heap.size + 1, 0, none⟩ = some (.slice none 0 0) := cellOf hb18 xZ
  clear hb18
  go_wp2_with fail
  refine hK.out _ _ ?_ (fun hH2 => ?_)
  · (try dsimp only); exact ⟨xR, xZ⟩
  clear hK K
  clear hH1
  try simp only [Act.put, List.setIfInBounds_toArray, List.set_cons_zero, List.set_cons_succ]
  refine wpAnyH_take (i := 5) (oi := { dst := some 107, op := Go.Op.move (Go.Operand.tmp 106), type := 4, pos := "law.go:253", after := #[{ on := 4, ground := Go.Ground.data }, { on := 4, ground := Go.Ground.chain }], guard := none }) (v := ?_) rfl (by kernel_rfl) (by kernel_rfl) (by kernel_rfl) (fun _ _ _ h => h) (Or.inl ⟨by rfl, ?_⟩) (by assumption) ?_
  rotate_left
  · intro wq hSw; (try dsimp only at hSw); go_simp; (try with_reducible rfl)
  try simp only [Act.put, List.setIfInBounds_toArray, List.set_cons_zero, List.set_cons_succ]
  refine wpAnyH_take (i := 6) (oi := { dst := some 108, op := Go.Op.load 61 (Go.Operand.tmp 10), type := 61, pos := "law.go:253", after := #[{ on := 5, ground := Go.Ground.guard }], guard := some (5, true) }) (v := ?_) rfl (by kernel_rfl) (by kernel_rfl) (by kernel_rfl) (fun _ _ _ h => h) (Or.inl ⟨by rfl, ?_⟩) (by assumption) ?_
  rotate_left
  · intro wq hSw; (try dsimp only at hSw); go_simp; (try with_reducible rfl)
  try simp only [Act.put, List.setIfInBounds_toArray, List.set_cons_zero, List.set_cons_succ]
  refine wpAnyH_take (i := 7) (oi := { dst := some 109, op := Go.Op.load 61 (Go.Operand.tmp 18), type := 61, pos := "law.go:253", after := #[{ on := 5, ground := Go.Ground.guard }], guard := some (5, true) }) (v := ?_) rfl (by kernel_rfl) (by kernel_rfl) (by kernel_rfl) (fun _ _ _ h => h) (Or.inl ⟨by rfl, ?_⟩) (by assumption) ?_
  rotate_left
  · intro wq hSw; (try dsimp only at hSw); go_simp; (try with_reducible rfl)
  try simp only [Act.put, List.setIfInBounds_toArray, List.set_cons_zero, List.set_cons_succ]
  refine wpAnyH_take (i := 9) (oi := { dst := some 111, op := Go.Op.load 61 (Go.Operand.tmp 10), type := 61, pos := "law.go:253", after := #[{ on := 5, ground := Go.Ground.guard }], guard := some (5, true) }) (v := ?_) rfl (by kernel_rfl) (by kernel_rfl) (by kernel_rfl) (fun _ _ _ h => h) (Or.inl ⟨by rfl, ?_⟩) (by assumption) ?_
  rotate_left
  · intro wq hSw; (try dsimp only at hSw); go_simp; (try with_reducible rfl)
  try simp only [Act.put, List.setIfInBounds_toArray, List.set_cons_zero, List.set_cons_succ]
  refine wpAnyH_ready (rs := [8]) (by kernel_rfl) (by simp) ?_
  refine AllReadyH.cons (o := { dst := some 110, op := Go.Op.call { callee := Go.Callee.value (Go.Operand.func 41), args := #[Go.Operand.tmp 108, Go.Operand.tmp 109], argTypes := #[61, 61] }, type := 61, pos := "law.go:253", after := #[{ on := 6, ground := Go.Ground.data }, { on := 7, ground := Go.Ground.data }, { on := 5, ground := Go.Ground.chain }, { on := 5, ground := Go.Ground.guard }], guard := some (5, true) }) rfl (fun K hK => ?_) ?_
  rotate_left
  · exact AllReadyH.nil
  go_simp
  refine (over6_any ra [] Aa none qa 0 _ (moved Ha.out ya) RowAt.nil (by omega) (by decide) Ca.out.canon.rise (Canon.nil (M := MD)).rise Ca.out.canon.upTo (Canon.nil (M := MD)).upTo).mono ?_
  rintro e w19 ⟨⟨Af, qf, rf, rfl, hrf, hAf, _, hcf, hvf⟩, hb19⟩
  have hw19 : Below w.heap.size w w19 := stepH hw18 hb19
  have z19 := hw19.size
  replace ya : Below w3.heap.size w3 w19 := stepH ya hb19
  replace yya := ya.size
  replace yb : Below w5.heap.size w5 w19 := stepH yb hb19
  replace yyb := yb.size
  replace yc : Below w7.heap.size w7 w19 := stepH yc hb19
  replace yyc := yc.size
  replace yd : Below w8.heap.size w8 w19 := stepH yd hb19
  replace yyd := yd.size
  replace ye : Below w17.heap.size w17 w19 := stepH ye hb19
  replace yye := ye.size
  replace R := keepH hb19 R.out
  replace S := keepH hb19 S.out
  replace U := keepH hb19 U.out
  replace D := keepH hb19 D.out
  replace Z := keepH hb19 Z.out
  replace xR : w19.cell? ⟨w3.heap.size, 0, none⟩ = some (.slice Aa ra.length qa) := cellOf hb19 xR
  replace xZ : w19.cell? ⟨w8.heap.size + 1, 0, none⟩ = some (.slice none 0 0) := cellOf hb19 xZ
  obtain rfl : ra = rf := Ca.out.canon.ext hcf (fun n => by rw [hvf]; exact (over_none _).symm)
  clear hcf hvf
  have Hf := Lib.hid hrf
  clear hrf
  have yf : Below w19.heap.size w19 w19 := Below.refl _ _
  have yyf := yf.size
  clear hb19
  go_wp2_with fail
  refine hK.out _ _ ?_ (fun hH3 => ?_)
  · (try dsimp only); exact ⟨xR, xZ⟩
  clear hK K
  clear hH2
  try simp only [Act.put, List.setIfInBounds_toArray, List.set_cons_zero, List.set_cons_succ]
  refine wpAnyH_ready (rs := [10]) (by kernel_rfl) (by simp) ?_
  refine AllReadyH.cons (o := { dst := some 112, op := Go.Op.call { callee := Go.Callee.value (Go.Operand.func 40), args := #[Go.Operand.tmp 110, Go.Operand.tmp 111], argTypes := #[61, 61] }, type := 4, pos := "law.go:253", after := #[{ on := 8, ground := Go.Ground.data }, { on := 9, ground := Go.Ground.data }, { on := 8, ground := Go.Ground.chain }, { on := 5, ground := Go.Ground.guard }], guard := some (5, true) }) rfl (fun K hK => ?_) ?_
  rotate_left
  · exact AllReadyH.nil
  go_simp
  refine (sameL_yes ra ra.length Af Aa qf qa _ rfl (moved Hf.out yf) (moved Ha.out ya) (by omega) hAf hAa).mono ?_
  rintro e w20 ⟨rfl, hb20⟩
  have hw20 : Below w.heap.size w w20 := stepH hw19 hb20
  have z20 := hw20.size
  replace ya : Below w3.heap.size w3 w20 := stepH ya hb20
  replace yya := ya.size
  replace yb : Below w5.heap.size w5 w20 := stepH yb hb20
  replace yyb := yb.size
  replace yc : Below w7.heap.size w7 w20 := stepH yc hb20
  replace yyc := yc.size
  replace yd : Below w8.heap.size w8 w20 := stepH yd hb20
  replace yyd := yd.size
  replace ye : Below w17.heap.size w17 w20 := stepH ye hb20
  replace yye := ye.size
  replace yf : Below w19.heap.size w19 w20 := stepH yf hb20
  replace yyf := yf.size
  replace R := keepH hb20 R.out
  replace S := keepH hb20 S.out
  replace U := keepH hb20 U.out
  replace D := keepH hb20 D.out
  replace Z := keepH hb20 Z.out
  replace xR : w20.cell? ⟨w3.heap.size, 0, none⟩ = some (.slice Aa ra.length qa) := cellOf hb20 xR
  replace xZ : w20.cell? ⟨w8.heap.size + 1, 0, none⟩ = some (.slice none 0 0) := cellOf hb20 xZ
  clear hb20
  go_wp2_with fail
  refine hK.out _ _ ?_ (fun hH4 => ?_)
  · (try dsimp only); exact ⟨xR, xZ⟩
  clear hK K
  clear hH3
  try simp only [Act.put, List.setIfInBounds_toArray, List.set_cons_zero, List.set_cons_succ]
  refine wpAnyH_take (i := 11) (oi := { dst := some 113, op := Go.Op.pick (Go.Operand.tmp 107) (Go.Operand.tmp 112) (Go.Operand.const (Go.Value.bool false)), type := 4, pos := "law.go:253", after := #[{ on := 5, ground := Go.Ground.data }, { on := 10, ground := Go.Ground.data }], guard := none }) (v := ?_) rfl (by kernel_rfl) (by kernel_rfl) (by kernel_rfl) (fun _ _ _ h => h) (Or.inl ⟨by rfl, ?_⟩) (by assumption) ?_
  rotate_left
  · intro wq hSw; (try dsimp only at hSw); go_simp; (try with_reducible rfl)
  try simp only [Act.put, List.setIfInBounds_toArray, List.set_cons_zero, List.set_cons_succ]
  refine wpAnyH_take (i := 12) (oi := { dst := some 114, op := Go.Op.move (Go.Operand.tmp 113), type := 4, pos := "law.go:253", after := #[{ on := 11, ground := Go.Ground.data }, { on := 10, ground := Go.Ground.chain }], guard := none }) (v := ?_) rfl (by kernel_rfl) (by kernel_rfl) (by kernel_rfl) (fun _ _ _ h => h) (Or.inl ⟨by rfl, ?_⟩) (by assumption) ?_
  rotate_left
  · intro wq hSw; (try dsimp only at hSw); go_simp; (try with_reducible rfl)
  try simp only [Act.put, List.setIfInBounds_toArray, List.set_cons_zero, List.set_cons_succ]
  refine wpAnyH_take (i := 13) (oi := { dst := some 115, op := Go.Op.load 61 (Go.Operand.tmp 18), type := 61, pos := "law.go:253", after := #[{ on := 12, ground := Go.Ground.guard }], guard := some (12, true) }) (v := ?_) rfl (by kernel_rfl) (by kernel_rfl) (by kernel_rfl) (fun _ _ _ h => h) (Or.inl ⟨by rfl, ?_⟩) (by assumption) ?_
  rotate_left
  · intro wq hSw; (try dsimp only at hSw); go_simp; (try with_reducible rfl)
  try simp only [Act.put, List.setIfInBounds_toArray, List.set_cons_zero, List.set_cons_succ]
  refine wpAnyH_ready (rs := [14]) (by kernel_rfl) (by simp) ?_
  refine AllReadyH.cons (o := { dst := some 116, op := Go.Op.call { callee := Go.Callee.value (Go.Operand.func 36), args := #[Go.Operand.tmp 115], argTypes := #[61] }, type := 59, pos := "law.go:253", after := #[{ on := 13, ground := Go.Ground.data }, { on := 12, ground := Go.Ground.chain }, { on := 12, ground := Go.Ground.guard }], guard := some (12, true) }) rfl (fun K hK => ?_) ?_
  rotate_left
  · exact AllReadyH.nil
  go_simp
  refine (pieces6_any [] none 0 _ RowAt.nil (by decide) (fun _ => rfl)).mono ?_
  rintro e w21 ⟨v1, rfl, hown1, hb21⟩
  have hw21 : Below w.heap.size w w21 := stepH hw20 hb21
  have z21 := hw21.size
  replace ya : Below w3.heap.size w3 w21 := stepH ya hb21
  replace yya := ya.size
  replace yb : Below w5.heap.size w5 w21 := stepH yb hb21
  replace yyb := yb.size
  replace yc : Below w7.heap.size w7 w21 := stepH yc hb21
  replace yyc := yc.size
  replace yd : Below w8.heap.size w8 w21 := stepH yd hb21
  replace yyd := yd.size
  replace ye : Below w17.heap.size w17 w21 := stepH ye hb21
  replace yye := ye.size
  replace yf : Below w19.heap.size w19 w21 := stepH yf hb21
  replace yyf := yf.size
  replace R := keepH hb21 R.out
  replace S := keepH hb21 S.out
  replace U := keepH hb21 U.out
  replace D := keepH hb21 D.out
  replace Z := keepH hb21 Z.out
  replace xR : w21.cell? ⟨w3.heap.size, 0, none⟩ = some (.slice Aa ra.length qa) := cellOf hb21 xR
  replace xZ : w21.cell? ⟨w8.heap.size + 1, 0, none⟩ = some (.slice none 0 0) := cellOf hb21 xZ
  obtain ⟨Ag, qg, rfl, _, _, _⟩ := own_line (fun x _ => encP_len x) hown1
  clear hown1
  clear hb21
  go_wp2_with fail
  refine hK.out _ _ ?_ (fun hH5 => ?_)
  · (try dsimp only); exact ⟨xR, xZ⟩
  clear hK K
  clear hH4
  try simp only [Act.put, List.setIfInBounds_toArray, List.set_cons_zero, List.set_cons_succ]
  refine wpAnyH_take (i := 15) (oi := { dst := some 117, op := Go.Op.call { callee := Go.Callee.builtin Go.Builtin.len, args := #[Go.Operand.tmp 116], argTypes := #[59] }, type := 3, pos := "law.go:253", after := #[{ on := 14, ground := Go.Ground.data }, { on := 12, ground := Go.Ground.guard }], guard := some (12, true) }) (v := ?_) rfl (by kernel_rfl) (by kernel_rfl) (by kernel_rfl) (fun _ _ _ h => h) (Or.inl ⟨by rfl, ?_⟩) (by assumption) ?_
  rotate_left
  · intro wq hSw; (try dsimp only at hSw); go_simp; (try with_reducible rfl)
  try simp only [Act.put, List.setIfInBounds_toArray, List.set_cons_zero, List.set_cons_succ]
  refine wpAnyH_take (i := 16) (oi := { dst := some 118, op := Go.Op.binOp Go.BinOp.eql 3 (Go.Operand.tmp 117) (Go.Operand.const (Go.Value.int Go.IntKind.i64 0)) 3, type := 4, pos := "law.go:253", after := #[{ on := 15, ground := Go.Ground.data }, { on := 12, ground := Go.Ground.guard }], guard := some (12, true) }) (v := ?_) rfl (by kernel_rfl) (by kernel_rfl) (by kernel_rfl) (fun _ _ _ h => h) (Or.inl ⟨by rfl, ?_⟩) (by assumption) ?_
  rotate_left
  · intro wq hSw; (try dsimp only at hSw); go_simp; (try with_reducible rfl)
  try simp only [Act.put, List.setIfInBounds_toArray, List.set_cons_zero, List.set_cons_succ]
  refine wpAnyH_take (i := 17) (oi := { dst := some 119, op := Go.Op.pick (Go.Operand.tmp 114) (Go.Operand.tmp 118) (Go.Operand.const (Go.Value.bool false)), type := 4, pos := "law.go:253", after := #[{ on := 12, ground := Go.Ground.data }, { on := 16, ground := Go.Ground.data }], guard := none }) (v := ?_) rfl (by kernel_rfl) (by kernel_rfl) (by kernel_rfl) (fun _ _ _ h => h) (Or.inl ⟨by rfl, ?_⟩) (by assumption) ?_
  rotate_left
  · intro wq hSw; (try dsimp only at hSw); go_simp; (try with_reducible rfl)
  try simp only [Act.put, List.setIfInBounds_toArray, List.set_cons_zero, List.set_cons_succ]
  refine wpAnyH_take (i := 18) (oi := { dst := some 120, op := Go.Op.move (Go.Operand.tmp 119), type := 4, pos := "law.go:253", after := #[{ on := 17, ground := Go.Ground.data }, { on := 14, ground := Go.Ground.chain }], guard := none }) (v := ?_) rfl (by kernel_rfl) (by kernel_rfl) (by kernel_rfl) (fun _ _ _ h => h) (Or.inl ⟨by rfl, ?_⟩) (by assumption) ?_
  rotate_left
  · intro wq hSw; (try dsimp only at hSw); go_simp; (try with_reducible rfl)
  try simp only [Act.put, List.setIfInBounds_toArray, List.set_cons_zero, List.set_cons_succ]
  refine wpAnyH_take (i := 19) (oi := { dst := some 121, op := Go.Op.load 61 (Go.Operand.tmp 18), type := 61, pos := "law.go:253", after := #[{ on := 18, ground := Go.Ground.guard }], guard := some (18, true) }) (v := ?_) rfl (by kernel_rfl) (by kernel_rfl) (by kernel_rfl) (fun _ _ _ h => h) (Or.inl ⟨by rfl, ?_⟩) (by assumption) ?_
  rotate_left
  · intro wq hSw; (try dsimp only at hSw); go_simp; (try with_reducible rfl)
  try simp only [Act.put, List.setIfInBounds_toArray, List.set_cons_zero, List.set_cons_succ]
  refine wpAnyH_ready (rs := [20]) (by kernel_rfl) (by simp) ?_
  refine AllReadyH.cons (o := { dst := some 122, op := Go.Op.call { callee := Go.Callee.value (Go.Operand.func 42), args := #[Go.Operand.tmp 121], argTypes := #[61] }, type := 77, pos := "law.go:253", after := #[{ on := 19, ground := Go.Ground.data }, { on := 18, ground := Go.Ground.chain }, { on := 18, ground := Go.Ground.guard }], guard := some (18, true) }) rfl (fun K hK => ?_) ?_
  rotate_left
  · exact AllReadyH.nil
  go_simp
  refine (setL_any [] none 0 _ RowAt.nil (by decide) (Canon.nil (M := MD)).rise (Canon.nil (M := MD)).upTo).mono ?_
  rintro e w22 ⟨⟨Ah, qh, rh, rfl, hrh, hAh, hch⟩, hb22⟩
  have hw22 : Below w.heap.size w w22 := stepH hw21 hb22
  have z22 := hw22.size
  replace ya : Below w3.heap.size w3 w22 := stepH ya hb22
  replace yya := ya.size
  replace yb : Below w5.heap.size w5 w22 := stepH yb hb22
  replace yyb := yb.size
  replace yc : Below w7.heap.size w7 w22 := stepH yc hb22
  replace yyc := yc.size
  replace yd : Below w8.heap.size w8 w22 := stepH yd hb22
  replace yyd := yd.size
  replace ye : Below w17.heap.size w17 w22 := stepH ye hb22
  replace yye := ye.size
  replace yf : Below w19.heap.size w19 w22 := stepH yf hb22
  replace yyf := yf.size
  replace R := keepH hb22 R.out
  replace S := keepH hb22 S.out
  replace U := keepH hb22 U.out
  replace D := keepH hb22 D.out
  replace Z := keepH hb22 Z.out
  replace xR : w22.cell? ⟨w3.heap.size, 0, none⟩ = some (.slice Aa ra.length qa) := cellOf hb22 xR
  replace xZ : w22.cell? ⟨w8.heap.size + 1, 0, none⟩ = some (.slice none 0 0) := cellOf hb22 xZ
  obtain rfl : rh = [] := hch.uniq SetOf.nil
  have Hh := Lib.hid hrh
  clear hrh hch
  have yh : Below w22.heap.size w22 w22 := Below.refl _ _
  have yyh := yh.size
  clear hb22
  go_wp2_with fail
  refine hK.out _ _ ?_ (fun hH6 => ?_)
  · (try dsimp only); exact ⟨xR, xZ⟩
  clear hK K
  clear hH5
  try simp only [Act.put, List.setIfInBounds_toArray, List.set_cons_zero, List.set_cons_succ]
  refine wpAnyH_ready (rs := [21]) (by kernel_rfl) (by simp) ?_
  refine AllReadyH.cons (o := { dst := some 123, op := Go.Op.call { callee := Go.Callee.value (Go.Operand.func 43), args := #[Go.Operand.tmp 122], argTypes := #[77] }, type := 75, pos := "law.go:253", after := #[{ on := 20, ground := Go.Ground.data }, { on := 20, ground := Go.Ground.chain }, { on := 18, ground := Go.Ground.guard }], guard := some (18, true) }) rfl (fun K hK => ?_) ?_
  rotate_left
  · exact AllReadyH.nil
  go_simp
  refine (spansD_any [] Ah qh _ (moved Hh.out yh) (by decide) hAh).mono ?_
  rintro e w23 ⟨v2, rfl, hown2, hb23⟩
  have hw23 : Below w.heap.size w w23 := stepH hw22 hb23
  have z23 := hw23.size
  replace ya : Below w3.heap.size w3 w23 := stepH ya hb23
  replace yya := ya.size
  replace yb : Below w5.heap.size w5 w23 := stepH yb hb23
  replace yyb := yb.size
  replace yc : Below w7.heap.size w7 w23 := stepH yc hb23
  replace yyc := yc.size
  replace yd : Below w8.heap.size w8 w23 := stepH yd hb23
  replace yyd := yd.size
  replace ye : Below w17.heap.size w17 w23 := stepH ye hb23
  replace yye := ye.size
  replace yf : Below w19.heap.size w19 w23 := stepH yf hb23
  replace yyf := yf.size
  replace yh : Below w22.heap.size w22 w23 := stepH yh hb23
  replace yyh := yh.size
  replace R := keepH hb23 R.out
  replace S := keepH hb23 S.out
  replace U := keepH hb23 U.out
  replace D := keepH hb23 D.out
  replace Z := keepH hb23 Z.out
  replace xR : w23.cell? ⟨w3.heap.size, 0, none⟩ = some (.slice Aa ra.length qa) := cellOf hb23 xR
  replace xZ : w23.cell? ⟨w8.heap.size + 1, 0, none⟩ = some (.slice none 0 0) := cellOf hb23 xZ
  obtain ⟨Ai, qi, rfl, _, _, _⟩ := own_line (fun x _ => encU_len x) hown2
  clear hown2
  clear hb23
  go_wp2_with fail
  refine hK.out _ _ ?_ (fun hH7 => ?_)
  · (try dsimp only); exact ⟨xR, xZ⟩
  clear hK K
  clear hH6
  try simp only [Act.put, List.setIfInBounds_toArray, List.set_cons_zero, List.set_cons_succ]
  refine wpAnyH_take (i := 22) (oi := { dst := some 124, op := Go.Op.call { callee := Go.Callee.builtin Go.Builtin.len, args := #[Go.Operand.tmp 123], argTypes := #[75] }, type := 3, pos := "law.go:253", after := #[{ on := 21, ground := Go.Ground.data }, { on := 18, ground := Go.Ground.guard }], guard := some (18, true) }) (v := ?_) rfl (by kernel_rfl) (by kernel_rfl) (by kernel_rfl) (fun _ _ _ h => h) (Or.inl ⟨by rfl, ?_⟩) (by assumption) ?_
  rotate_left
  · intro wq hSw; (try dsimp only at hSw); go_simp; (try with_reducible rfl)
  try simp only [Act.put, List.setIfInBounds_toArray, List.set_cons_zero, List.set_cons_succ]
  refine wpAnyH_take (i := 23) (oi := { dst := some 125, op := Go.Op.binOp Go.BinOp.eql 3 (Go.Operand.tmp 124) (Go.Operand.const (Go.Value.int Go.IntKind.i64 0)) 3, type := 4, pos := "law.go:253", after := #[{ on := 22, ground := Go.Ground.data }, { on := 18, ground := Go.Ground.guard }], guard := some (18, true) }) (v := ?_) rfl (by kernel_rfl) (by kernel_rfl) (by kernel_rfl) (fun _ _ _ h => h) (Or.inl ⟨by rfl, ?_⟩) (by assumption) ?_
  rotate_left
  · intro wq hSw; (try dsimp only at hSw); go_simp; (try with_reducible rfl)
  try simp only [Act.put, List.setIfInBounds_toArray, List.set_cons_zero, List.set_cons_succ]
  refine wpAnyH_take (i := 24) (oi := { dst := some 126, op := Go.Op.pick (Go.Operand.tmp 120) (Go.Operand.tmp 125) (Go.Operand.const (Go.Value.bool false)), type := 4, pos := "law.go:253", after := #[{ on := 18, ground := Go.Ground.data }, { on := 23, ground := Go.Ground.data }], guard := none }) (v := ?_) rfl (by kernel_rfl) (by kernel_rfl) (by kernel_rfl) (fun _ _ _ h => h) (Or.inl ⟨by rfl, ?_⟩) (by assumption) ?_
  rotate_left
  · intro wq hSw; (try dsimp only at hSw); go_simp; (try with_reducible rfl)
  try simp only [Act.put, List.setIfInBounds_toArray, List.set_cons_zero, List.set_cons_succ]
  refine wpAnyH_take (i := 25) (oi := { dst := some 21, op := Go.Op.assign (Go.Operand.tmp 126), type := 4, pos := "law.go:253", after := #[{ on := 24, ground := Go.Ground.data }, { on := 21, ground := Go.Ground.chain }, { on := 0, ground := Go.Ground.phase }, { on := 1, ground := Go.Ground.phase }, { on := 2, ground := Go.Ground.phase }, { on := 3, ground := Go.Ground.phase }, { on := 4, ground := Go.Ground.phase }, { on := 5, ground := Go.Ground.phase }, { on := 6, ground := Go.Ground.phase }, { on := 7, ground := Go.Ground.phase }, { on := 8, ground := Go.Ground.phase }, { on := 9, ground := Go.Ground.phase }, { on := 10, ground := Go.Ground.phase }, { on := 11, ground := Go.Ground.phase }, { on := 12, ground := Go.Ground.phase }, { on := 13, ground := Go.Ground.phase }, { on := 14, ground := Go.Ground.phase }, { on := 15, ground := Go.Ground.phase }, { on := 16, ground := Go.Ground.phase }, { on := 17, ground := Go.Ground.phase }, { on := 18, ground := Go.Ground.phase }, { on := 19, ground := Go.Ground.phase }, { on := 20, ground := Go.Ground.phase }, { on := 21, ground := Go.Ground.phase }, { on := 22, ground := Go.Ground.phase }, { on := 23, ground := Go.Ground.phase }, { on := 24, ground := Go.Ground.phase }], guard := none }) (v := ?_) rfl (by kernel_rfl) (by kernel_rfl) (by kernel_rfl) (fun _ _ _ h => h) (Or.inl ⟨by rfl, ?_⟩) (by assumption) ?_
  rotate_left
  · intro wq hSw; (try dsimp only at hSw); go_simp; (try with_reducible rfl)
  try simp only [Act.put, List.setIfInBounds_toArray, List.set_cons_zero, List.set_cons_succ]
  refine wpAnyH_done (by kernel_rfl) ?_ _
  clear xR xZ
  clear yye ye He hAe yyf yf Hf hAf yyh yh Hh hAh
  have xR : w23.cell? ⟨w3.heap.size, 0, none⟩ = some (.slice Aa ra.length qa) := cellH R 0
  have xS : w23.cell? ⟨w5.heap.size, 0, none⟩ = some (.slice Ab rb.length qb) := cellH S 0
  have xD : w23.cell? ⟨w8.heap.size, 0, none⟩ = some (.slice Ad rd.length qd) := cellH D 0
  go_wp2_with fail
  refine wp_region_held_drew (S := fun w' => w'.cell? ⟨w3.heap.size, 0, none⟩ = some (.slice Aa ra.length qa) ∧ w'.cell? ⟨w5.heap.size, 0, none⟩ = some (.slice Ab rb.length qb) ∧ w'.cell? ⟨w8.heap.size, 0, none⟩ = some (.slice Ad rd.length qd)) (by kernel_rfl) ?_ (fun hH0 => ?_)
  · exact ⟨xR, xS, xD⟩
  refine wpAnyH_take (i := 0) (oi := { dst := some 127, op := Go.Op.load 61 (Go.Operand.tmp 10), type := 61, pos := "law.go:254", after := #[], guard := none }) (v := ?_) rfl (by kernel_rfl) (by kernel_rfl) (by kernel_rfl) (fun _ _ _ h => h) (Or.inl ⟨by rfl, ?_⟩) (by assumption) ?_
  rotate_left
  · intro wq hSw; (try dsimp only at hSw); go_simp; (try with_reducible rfl)
  try simp only [Act.put, List.setIfInBounds_toArray, List.set_cons_zero, List.set_cons_succ]
  refine wpAnyH_take (i := 1) (oi := { dst := some 128, op := Go.Op.load 61 (Go.Operand.tmp 12), type := 61, pos := "law.go:254", after := #[], guard := none }) (v := ?_) rfl (by kernel_rfl) (by kernel_rfl) (by kernel_rfl) (fun _ _ _ h => h) (Or.inl ⟨by rfl, ?_⟩) (by assumption) ?_
  rotate_left
  · intro wq hSw; (try dsimp only at hSw); go_simp; (try with_reducible rfl)
  try simp only [Act.put, List.setIfInBounds_toArray, List.set_cons_zero, List.set_cons_succ]
  refine wpAnyH_take (i := 3) (oi := { dst := some 130, op := Go.Op.load 77 (Go.Operand.tmp 16), type := 77, pos := "law.go:254", after := #[], guard := none }) (v := ?_) rfl (by kernel_rfl) (by kernel_rfl) (by kernel_rfl) (fun _ _ _ h => h) (Or.inl ⟨by rfl, ?_⟩) (by assumption) ?_
  rotate_left
  · intro wq hSw; (try dsimp only at hSw); go_simp; (try with_reducible rfl)
  try simp only [Act.put, List.setIfInBounds_toArray, List.set_cons_zero, List.set_cons_succ]
  refine wpAnyH_take (i := 5) (oi := { dst := some 132, op := Go.Op.load 61 (Go.Operand.tmp 10), type := 61, pos := "law.go:254", after := #[], guard := none }) (v := ?_) rfl (by kernel_rfl) (by kernel_rfl) (by kernel_rfl) (fun _ _ _ h => h) (Or.inl ⟨by rfl, ?_⟩) (by assumption) ?_
  rotate_left
  · intro wq hSw; (try dsimp only at hSw); go_simp; (try with_reducible rfl)
  try simp only [Act.put, List.setIfInBounds_toArray, List.set_cons_zero, List.set_cons_succ]
  refine wpAnyH_take (i := 6) (oi := { dst := some 133, op := Go.Op.load 77 (Go.Operand.tmp 16), type := 77, pos := "law.go:254", after := #[], guard := none }) (v := ?_) rfl (by kernel_rfl) (by kernel_rfl) (by kernel_rfl) (fun _ _ _ h => h) (Or.inl ⟨by rfl, ?_⟩) (by assumption) ?_
  rotate_left
  · intro wq hSw; (try dsimp only at hSw); go_simp; (try with_reducible rfl)
  try simp only [Act.put, List.setIfInBounds_toArray, List.set_cons_zero, List.set_cons_succ]
  refine wpAnyH_take (i := 8) (oi := { dst := some 135, op := Go.Op.load 61 (Go.Operand.tmp 12), type := 61, pos := "law.go:254", after := #[], guard := none }) (v := ?_) rfl (by kernel_rfl) (by kernel_rfl) (by kernel_rfl) (fun _ _ _ h => h) (Or.inl ⟨by rfl, ?_⟩) (by assumption) ?_
  rotate_left
  · intro wq hSw; (try dsimp only at hSw); go_simp; (try with_reducible rfl)
  try simp only [Act.put, List.setIfInBounds_toArray, List.set_cons_zero, List.set_cons_succ]
  refine wpAnyH_take (i := 9) (oi := { dst := some 136, op := Go.Op.load 77 (Go.Operand.tmp 16), type := 77, pos := "law.go:254", after := #[], guard := none }) (v := ?_) rfl (by kernel_rfl) (by kernel_rfl) (by kernel_rfl) (fun _ _ _ h => h) (Or.inl ⟨by rfl, ?_⟩) (by assumption) ?_
  rotate_left
  · intro wq hSw; (try dsimp only at hSw); go_simp; (try with_reducible rfl)
  try simp only [Act.put, List.setIfInBounds_toArray, List.set_cons_zero, List.set_cons_succ]
  refine wpAnyH_ready (rs := [2]) (by kernel_rfl) (by simp) ?_
  refine AllReadyH.cons (o := { dst := some 129, op := Go.Op.call { callee := Go.Callee.value (Go.Operand.func 41), args := #[Go.Operand.tmp 127, Go.Operand.tmp 128], argTypes := #[61, 61] }, type := 61, pos := "law.go:254", after := #[{ on := 0, ground := Go.Ground.data }, { on := 1, ground := Go.Ground.data }], guard := none }) rfl (fun K hK => ?_) ?_
  rotate_left
  · exact AllReadyH.nil
  go_simp
  refine (over6_any ra rb Aa Ab qa qb _ (moved Ha.out ya.drew) (moved Hb.out yb.drew) (by omega) (by omega) Ca.out.canon.rise Cb.out.canon.rise Ca.out.canon.upTo Cb.out.canon.upTo).mono ?_
  rintro e w24 ⟨⟨Ae, qe, re, rfl, hre, hAe, _, hce, hve⟩, hb24⟩
  have hw24 : Below w.heap.size w w24 := stepH hw23.drew hb24
  have z24 := hw24.size
  replace ya : Below w3.heap.size w3 w24 := stepH ya.drew hb24
  replace yya := ya.size
  replace yb : Below w5.heap.size w5 w24 := stepH yb.drew hb24
  replace yyb := yb.size
  replace yc : Below w7.heap.size w7 w24 := stepH yc.drew hb24
  replace yyc := yc.size
  replace yd : Below w8.heap.size w8 w24 := stepH yd.drew hb24
  replace yyd := yd.size
  replace R := keepH hb24 (drew_old R.out)
  replace S := keepH hb24 (drew_old S.out)
  replace U := keepH hb24 (drew_old U.out)
  replace D := keepH hb24 (drew_old D.out)
  replace Z := keepH hb24 (drew_old Z.out)
  replace xR : w24.cell? ⟨w3.heap.size, 0, none⟩ = some (.slice Aa ra.length qa) := cellOf hb24 (cell_drew xR)
  replace xS : w24.cell? ⟨w5.heap.size, 0, none⟩ = some (.slice Ab rb.length qb) := cellOf hb24 (cell_drew xS)
  replace xD : w24.cell? ⟨w8.heap.size, 0, none⟩ = some (.slice Ad rd.length qd) := cellOf hb24 (cell_drew xD)
  have le : re.length ≤ 800 := by have h := over_len Ca.out.val Cb.out.val hce hve; rw [List.length_reverse, List.length_reverse] at h; omega
  have Ve := Lib.hid hve
  clear hve
  have Ce := Lib.hid hce
  clear hce
  have He := Lib.hid hre
  clear hre
  have ye : Below w24.heap.size w24 w24 := Below.refl _ _
  have yye := ye.size
  clear hb24
  go_wp2_with fail
  refine hK.out _ _ ?_ (fun hH1 => ?_)
  · (try dsimp only); exact ⟨xR, xS, xD⟩
  clear hK K
  clear hH0
  try simp only [Act.put, List.setIfInBounds_toArray, List.set_cons_zero, List.set_cons_succ]
  refine wpAnyH_ready (rs := [4]) (by kernel_rfl) (by simp) ?_
  refine AllReadyH.cons (o := { dst := some 131, op := Go.Op.call { callee := Go.Callee.value (Go.Operand.func 44), args := #[Go.Operand.tmp 129, Go.Operand.tmp 130], argTypes := #[61, 77] }, type := 61, pos := "law.go:254", after := #[{ on := 2, ground := Go.Ground.data }, { on := 3, ground := Go.Ground.data }, { on := 2, ground := Go.Ground.chain }], guard := none }) rfl (fun K hK => ?_) ?_
  rotate_left
  · exact AllReadyH.nil
  go_simp
  refine (cut_any re rd Ae Ad qe qd _ (moved He.out ye) (moved Hd.out yd) (by omega) (by omega) hAd Ce.out.rise Ce.out.upTo Cd.out.canon.rise Cd.out.canon.upTo).mono ?_
  rintro e w25 ⟨⟨Af, qf, rf, rfl, hrf, hAf, _, hcf, hvf⟩, hb25⟩
  have hw25 : Below w.heap.size w w25 := stepH hw24 hb25
  have z25 := hw25.size
  replace ya : Below w3.heap.size w3 w25 := stepH ya hb25
  replace yya := ya.size
  replace yb : Below w5.heap.size w5 w25 := stepH yb hb25
  replace yyb := yb.size
  replace yc : Below w7.heap.size w7 w25 := stepH yc hb25
  replace yyc := yc.size
  replace yd : Below w8.heap.size w8 w25 := stepH yd hb25
  replace yyd := yd.size
  replace ye : Below w24.heap.size w24 w25 := stepH ye hb25
  replace yye := ye.size
  replace R := keepH hb25 R.out
  replace S := keepH hb25 S.out
  replace U := keepH hb25 U.out
  replace D := keepH hb25 D.out
  replace Z := keepH hb25 Z.out
  replace xR : w25.cell? ⟨w3.heap.size, 0, none⟩ = some (.slice Aa ra.length qa) := cellOf hb25 xR
  replace xS : w25.cell? ⟨w5.heap.size, 0, none⟩ = some (.slice Ab rb.length qb) := cellOf hb25 xS
  replace xD : w25.cell? ⟨w8.heap.size, 0, none⟩ = some (.slice Ad rd.length qd) := cellOf hb25 xD
  have lf : rf.length ≤ 1000 := by have h := cut_len hcf Ce.out.rise Cd.out.canon.rise hvf; omega
  have Hf := Lib.hid hrf
  clear hrf
  have yf : Below w25.heap.size w25 w25 := Below.refl _ _
  have yyf := yf.size
  clear hb25
  go_wp2_with fail
  refine hK.out _ _ ?_ (fun hH2 => ?_)
  · (try dsimp only); exact ⟨xR, xS, xD⟩
  clear hK K
  clear hH1
  try simp only [Act.put, List.setIfInBounds_toArray, List.set_cons_zero, List.set_cons_succ]
  refine wpAnyH_ready (rs := [7]) (by kernel_rfl) (by simp) ?_
  refine AllReadyH.cons (o := { dst := some 134, op := Go.Op.call { callee := Go.Callee.value (Go.Operand.func 44), args := #[Go.Operand.tmp 132, Go.Operand.tmp 133], argTypes := #[61, 77] }, type := 61, pos := "law.go:254", after := #[{ on := 5, ground := Go.Ground.data }, { on := 6, ground := Go.Ground.data }, { on := 4, ground := Go.Ground.chain }], guard := none }) rfl (fun K hK => ?_) ?_
  rotate_left
  · exact AllReadyH.nil
  go_simp
  refine (cut_any ra rd Aa Ad qa qd _ (moved Ha.out ya) (moved Hd.out yd) (by omega) (by omega) hAd Ca.out.canon.rise Ca.out.canon.upTo Cd.out.canon.rise Cd.out.canon.upTo).mono ?_
  rintro e w26 ⟨⟨Ag, qg, rg, rfl, hrg, hAg, _, hcg, hvg⟩, hb26⟩
  have hw26 : Below w.heap.size w w26 := stepH hw25 hb26
  have z26 := hw26.size
  replace ya : Below w3.heap.size w3 w26 := stepH ya hb26
  replace yya := ya.size
  replace yb : Below w5.heap.size w5 w26 := stepH yb hb26
  replace yyb := yb.size
  replace yc : Below w7.heap.size w7 w26 := stepH yc hb26
  replace yyc := yc.size
  replace yd : Below w8.heap.size w8 w26 := stepH yd hb26
  replace yyd := yd.size
  replace ye : Below w24.heap.size w24 w26 := stepH ye hb26
  replace yye := ye.size
  replace yf : Below w25.heap.size w25 w26 := stepH yf hb26
  replace yyf := yf.size
  replace R := keepH hb26 R.out
  replace S := keepH hb26 S.out
  replace U := keepH hb26 U.out
  replace D := keepH hb26 D.out
  replace Z := keepH hb26 Z.out
  replace xR : w26.cell? ⟨w3.heap.size, 0, none⟩ = some (.slice Aa ra.length qa) := cellOf hb26 xR
  replace xS : w26.cell? ⟨w5.heap.size, 0, none⟩ = some (.slice Ab rb.length qb) := cellOf hb26 xS
  replace xD : w26.cell? ⟨w8.heap.size, 0, none⟩ = some (.slice Ad rd.length qd) := cellOf hb26 xD
  have lg : rg.length ≤ 600 := by have h := cut_len hcg Ca.out.canon.rise Cd.out.canon.rise hvg; omega
  have Cg := Lib.hid hcg
  clear hcg
  have Hg := Lib.hid hrg
  clear hrg
  have yg : Below w26.heap.size w26 w26 := Below.refl _ _
  have yyg := yg.size
  clear hb26
  go_wp2_with fail
  refine hK.out _ _ ?_ (fun hH3 => ?_)
  · (try dsimp only); exact ⟨xR, xS, xD⟩
  clear hK K
  clear hH2
  try simp only [Act.put, List.setIfInBounds_toArray, List.set_cons_zero, List.set_cons_succ]
  refine wpAnyH_ready (rs := [10]) (by kernel_rfl) (by simp) ?_
  refine AllReadyH.cons (o := { dst := some 137, op := Go.Op.call { callee := Go.Callee.value (Go.Operand.func 44), args := #[Go.Operand.tmp 135, Go.Operand.tmp 136], argTypes := #[61, 77] }, type := 61, pos := "law.go:254", after := #[{ on := 8, ground := Go.Ground.data }, { on := 9, ground := Go.Ground.data }, { on := 7, ground := Go.Ground.chain }], guard := none }) rfl (fun K hK => ?_) ?_
  rotate_left
  · exact AllReadyH.nil
  go_simp
  refine (cut_any rb rd Ab Ad qb qd _ (moved Hb.out yb) (moved Hd.out yd) (by omega) (by omega) hAd Cb.out.canon.rise Cb.out.canon.upTo Cd.out.canon.rise Cd.out.canon.upTo).mono ?_
  rintro e w27 ⟨⟨Ah, qh, rh, rfl, hrh, hAh, _, hch, hvh⟩, hb27⟩
  have hw27 : Below w.heap.size w w27 := stepH hw26 hb27
  have z27 := hw27.size
  replace ya : Below w3.heap.size w3 w27 := stepH ya hb27
  replace yya := ya.size
  replace yb : Below w5.heap.size w5 w27 := stepH yb hb27
  replace yyb := yb.size
  replace yc : Below w7.heap.size w7 w27 := stepH yc hb27
  replace yyc := yc.size
  replace yd : Below w8.heap.size w8 w27 := stepH yd hb27
  replace yyd := yd.size
  replace ye : Below w24.heap.size w24 w27 := stepH ye hb27
  replace yye := ye.size
  replace yf : Below w25.heap.size w25 w27 := stepH yf hb27
  replace yyf := yf.size
  replace yg : Below w26.heap.size w26 w27 := stepH yg hb27
  replace yyg := yg.size
  replace R := keepH hb27 R.out
  replace S := keepH hb27 S.out
  replace U := keepH hb27 U.out
  replace D := keepH hb27 D.out
  replace Z := keepH hb27 Z.out
  replace xR : w27.cell? ⟨w3.heap.size, 0, none⟩ = some (.slice Aa ra.length qa) := cellOf hb27 xR
  replace xS : w27.cell? ⟨w5.heap.size, 0, none⟩ = some (.slice Ab rb.length qb) := cellOf hb27 xS
  replace xD : w27.cell? ⟨w8.heap.size, 0, none⟩ = some (.slice Ad rd.length qd) := cellOf hb27 xD
  have lh : rh.length ≤ 600 := by have h := cut_len hch Cb.out.canon.rise Cd.out.canon.rise hvh; omega
  have Ch := Lib.hid hch
  clear hch
  have Hh := Lib.hid hrh
  clear hrh
  have yh : Below w27.heap.size w27 w27 := Below.refl _ _
  have yyh := yh.size
  clear hb27
  go_wp2_with fail
  refine hK.out _ _ ?_ (fun hH4 => ?_)
  · (try dsimp only); exact ⟨xR, xS, xD⟩
  clear hK K
  clear hH3
  try simp only [Act.put, List.setIfInBounds_toArray, List.set_cons_zero, List.set_cons_succ]
  refine wpAnyH_ready (rs := [11]) (by kernel_rfl) (by simp) ?_
  refine AllReadyH.cons (o := { dst := some 138, op := Go.Op.call { callee := Go.Callee.value (Go.Operand.func 41), args := #[Go.Operand.tmp 134, Go.Operand.tmp 137], argTypes := #[61, 61] }, type := 61, pos := "law.go:254", after := #[{ on := 7, ground := Go.Ground.data }, { on := 10, ground := Go.Ground.data }, { on := 10, ground := Go.Ground.chain }], guard := none }) rfl (fun K hK => ?_) ?_
  rotate_left
  · exact AllReadyH.nil
  go_simp
  refine (over6_any rg rh Ag Ah qg qh _ (moved Hg.out yg) (moved Hh.out yh) (by omega) (by omega) Cg.out.rise Ch.out.rise Cg.out.upTo Ch.out.upTo).mono ?_
  rintro e w28 ⟨⟨Ai, qi, ri, rfl, hri, hAi, _, hci, hvi⟩, hb28⟩
  have hw28 : Below w.heap.size w w28 := stepH hw27 hb28
  have z28 := hw28.size
  replace ya : Below w3.heap.size w3 w28 := stepH ya hb28
  replace yya := ya.size
  replace yb : Below w5.heap.size w5 w28 := stepH yb hb28
  replace yyb := yb.size
  replace yc : Below w7.heap.size w7 w28 := stepH yc hb28
  replace yyc := yc.size
  replace yd : Below w8.heap.size w8 w28 := stepH yd hb28
  replace yyd := yd.size
  replace ye : Below w24.heap.size w24 w28 := stepH ye hb28
  replace yye := ye.size
  replace yf : Below w25.heap.size w25 w28 := stepH yf hb28
  replace yyf := yf.size
  replace yg : Below w26.heap.size w26 w28 := stepH yg hb28
  replace yyg := yg.size
  replace yh : Below w27.heap.size w27 w28 := stepH yh hb28
  replace yyh := yh.size
  replace R := keepH hb28 R.out
  replace S := keepH hb28 S.out
  replace U := keepH hb28 U.out
  replace D := keepH hb28 D.out
  replace Z := keepH hb28 Z.out
  replace xR : w28.cell? ⟨w3.heap.size, 0, none⟩ = some (.slice Aa ra.length qa) := cellOf hb28 xR
  replace xS : w28.cell? ⟨w5.heap.size, 0, none⟩ = some (.slice Ab rb.length qb) := cellOf hb28 xS
  replace xD : w28.cell? ⟨w8.heap.size, 0, none⟩ = some (.slice Ad rd.length qd) := cellOf hb28 xD
  obtain rfl : rf = ri := hcf.ext hci (fun n => by rw [hvf, hvi, hvg, hvh, Ve.out, cut_over])
  clear hci hvi
  have Hi := Lib.hid hri
  clear hri
  have yi : Below w28.heap.size w28 w28 := Below.refl _ _
  have yyi := yi.size
  clear hb28
  go_wp2_with fail
  refine hK.out _ _ ?_ (fun hH5 => ?_)
  · (try dsimp only); exact ⟨xR, xS, xD⟩
  clear hK K
  clear hH4
  try simp only [Act.put, List.setIfInBounds_toArray, List.set_cons_zero, List.set_cons_succ]
  refine wpAnyH_ready (rs := [12]) (by kernel_rfl) (by simp) ?_
  refine AllReadyH.cons (o := { dst := some 139, op := Go.Op.call { callee := Go.Callee.value (Go.Operand.func 40), args := #[Go.Operand.tmp 131, Go.Operand.tmp 138], argTypes := #[61, 61] }, type := 4, pos := "law.go:254", after := #[{ on := 4, ground := Go.Ground.data }, { on := 11, ground := Go.Ground.data }, { on := 11, ground := Go.Ground.chain }], guard := none }) rfl (fun K hK => ?_) ?_
  rotate_left
  · exact AllReadyH.nil
  go_simp
  refine (sameL_yes rf rf.length Af Ai qf qi _ rfl (moved Hf.out yf) (moved Hi.out yi) (by omega) hAf hAi).mono ?_
  rintro e w29 ⟨rfl, hb29⟩
  have hw29 : Below w.heap.size w w29 := stepH hw28 hb29
  have z29 := hw29.size
  replace ya : Below w3.heap.size w3 w29 := stepH ya hb29
  replace yya := ya.size
  replace yb : Below w5.heap.size w5 w29 := stepH yb hb29
  replace yyb := yb.size
  replace yc : Below w7.heap.size w7 w29 := stepH yc hb29
  replace yyc := yc.size
  replace yd : Below w8.heap.size w8 w29 := stepH yd hb29
  replace yyd := yd.size
  replace ye : Below w24.heap.size w24 w29 := stepH ye hb29
  replace yye := ye.size
  replace yf : Below w25.heap.size w25 w29 := stepH yf hb29
  replace yyf := yf.size
  replace yg : Below w26.heap.size w26 w29 := stepH yg hb29
  replace yyg := yg.size
  replace yh : Below w27.heap.size w27 w29 := stepH yh hb29
  replace yyh := yh.size
  replace yi : Below w28.heap.size w28 w29 := stepH yi hb29
  replace yyi := yi.size
  replace R := keepH hb29 R.out
  replace S := keepH hb29 S.out
  replace U := keepH hb29 U.out
  replace D := keepH hb29 D.out
  replace Z := keepH hb29 Z.out
  replace xR : w29.cell? ⟨w3.heap.size, 0, none⟩ = some (.slice Aa ra.length qa) := cellOf hb29 xR
  replace xS : w29.cell? ⟨w5.heap.size, 0, none⟩ = some (.slice Ab rb.length qb) := cellOf hb29 xS
  replace xD : w29.cell? ⟨w8.heap.size, 0, none⟩ = some (.slice Ad rd.length qd) := cellOf hb29 xD
  clear hb29
  go_wp2_with fail
  refine hK.out _ _ ?_ (fun hH6 => ?_)
  · (try dsimp only); exact ⟨xR, xS, xD⟩
  clear hK K
  clear hH5
  try simp only [Act.put, List.setIfInBounds_toArray, List.set_cons_zero, List.set_cons_succ]
  refine wpAnyH_take (i := 13) (oi := { dst := some 22, op := Go.Op.assign (Go.Operand.tmp 139), type := 4, pos := "law.go:254", after := #[{ on := 12, ground := Go.Ground.data }, { on := 12, ground := Go.Ground.chain }, { on := 0, ground := Go.Ground.phase }, { on := 1, ground := Go.Ground.phase }, { on := 2, ground := Go.Ground.phase }, { on := 3, ground := Go.Ground.phase }, { on := 4, ground := Go.Ground.phase }, { on := 5, ground := Go.Ground.phase }, { on := 6, ground := Go.Ground.phase }, { on := 7, ground := Go.Ground.phase }, { on := 8, ground := Go.Ground.phase }, { on := 9, ground := Go.Ground.phase }, { on := 10, ground := Go.Ground.phase }, { on := 11, ground := Go.Ground.phase }, { on := 12, ground := Go.Ground.phase }], guard := none }) (v := ?_) rfl (by kernel_rfl) (by kernel_rfl) (by kernel_rfl) (fun _ _ _ h => h) (Or.inl ⟨by rfl, ?_⟩) (by assumption) ?_
  rotate_left
  · intro wq hSw; (try dsimp only at hSw); go_simp; (try with_reducible rfl)
  try simp only [Act.put, List.setIfInBounds_toArray, List.set_cons_zero, List.set_cons_succ]
  refine wpAnyH_done (by kernel_rfl) ?_ _
  clear xR xS xD
  clear hcf hvf hvg hvh Ve Ce Cg Ch le lf lg lh
  clear yye ye He hAe yyf yf Hf hAf yyg yg Hg hAg yyh yh Hh hAh yyi yi Hi hAi
  have Va := Ca.out.val
  have Vb := Cb.out.val
  have xR : w29.cell? ⟨w3.heap.size, 0, none⟩ = some (.slice Aa ra.length qa) := cellH R 0
  have xS : w29.cell? ⟨w5.heap.size, 0, none⟩ = some (.slice Ab rb.length qb) := cellH S 0
  go_wp2_with fail
  refine wp_region_held_drew (S := fun w' => w'.cell? ⟨w3.heap.size, 0, none⟩ = some (.slice Aa ra.length qa) ∧ w'.cell? ⟨w5.heap.size, 0, none⟩ = some (.slice Ab rb.length qb)) (by kernel_rfl) ?_ (fun hH0 => ?_)
  · exact ⟨xR, xS⟩
  refine wpAnyH_take (i := 0) (oi := { dst := some 140, op := Go.Op.load 61 (Go.Operand.tmp 10), type := 61, pos := "law.go:256", after := #[], guard := none }) (v := ?_) rfl (by kernel_rfl) (by kernel_rfl) (by kernel_rfl) (fun _ _ _ h => h) (Or.inl ⟨by rfl, ?_⟩) (by assumption) ?_
  rotate_left
  · intro wq hSw; (try dsimp only at hSw); go_simp; (try with_reducible rfl)
  try simp only [Act.put, List.setIfInBounds_toArray, List.set_cons_zero, List.set_cons_succ]
  refine wpAnyH_take (i := 1) (oi := { dst := some 141, op := Go.Op.load 61 (Go.Operand.tmp 12), type := 61, pos := "law.go:256", after := #[], guard := none }) (v := ?_) rfl (by kernel_rfl) (by kernel_rfl) (by kernel_rfl) (fun _ _ _ h => h) (Or.inl ⟨by rfl, ?_⟩) (by assumption) ?_
  rotate_left
  · intro wq hSw; (try dsimp only at hSw); go_simp; (try with_reducible rfl)
  try simp only [Act.put, List.setIfInBounds_toArray, List.set_cons_zero, List.set_cons_succ]
  refine wpAnyH_take (i := 3) (oi := { dst := some 143, op := Go.Op.move (Go.Operand.tmp 23), type := 86, pos := "law.go:256", after := #[], guard := none }) (v := ?_) rfl (by kernel_rfl) (by kernel_rfl) (by kernel_rfl) (fun _ _ _ h => h) (Or.inl ⟨by rfl, ?_⟩) (by assumption) ?_
  rotate_left
  · intro wq hSw; (try dsimp only at hSw); go_simp; (try with_reducible rfl)
  try simp only [Act.put, List.setIfInBounds_toArray, List.set_cons_zero, List.set_cons_succ]
  refine wpAnyH_take (i := 5) (oi := { dst := some 145, op := Go.Op.load 61 (Go.Operand.tmp 10), type := 61, pos := "law.go:256", after := #[], guard := none }) (v := ?_) rfl (by kernel_rfl) (by kernel_rfl) (by kernel_rfl) (fun _ _ _ h => h) (Or.inl ⟨by rfl, ?_⟩) (by assumption) ?_
  rotate_left
  · intro wq hSw; (try dsimp only at hSw); go_simp; (try with_reducible rfl)
  try simp only [Act.put, List.setIfInBounds_toArray, List.set_cons_zero, List.set_cons_succ]
  refine wpAnyH_take (i := 6) (oi := { dst := some 146, op := Go.Op.move (Go.Operand.tmp 23), type := 86, pos := "law.go:256", after := #[], guard := none }) (v := ?_) rfl (by kernel_rfl) (by kernel_rfl) (by kernel_rfl) (fun _ _ _ h => h) (Or.inl ⟨by rfl, ?_⟩) (by assumption) ?_
  rotate_left
  · intro wq hSw; (try dsimp only at hSw); go_simp; (try with_reducible rfl)
  try simp only [Act.put, List.setIfInBounds_toArray, List.set_cons_zero, List.set_cons_succ]
  refine wpAnyH_take (i := 8) (oi := { dst := some 148, op := Go.Op.load 61 (Go.Operand.tmp 12), type := 61, pos := "law.go:256", after := #[], guard := none }) (v := ?_) rfl (by kernel_rfl) (by kernel_rfl) (by kernel_rfl) (fun _ _ _ h => h) (Or.inl ⟨by rfl, ?_⟩) (by assumption) ?_
  rotate_left
  · intro wq hSw; (try dsimp only at hSw); go_simp; (try with_reducible rfl)
  try simp only [Act.put, List.setIfInBounds_toArray, List.set_cons_zero, List.set_cons_succ]
  refine wpAnyH_take (i := 9) (oi := { dst := some 149, op := Go.Op.move (Go.Operand.tmp 23), type := 86, pos := "law.go:256", after := #[], guard := none }) (v := ?_) rfl (by kernel_rfl) (by kernel_rfl) (by kernel_rfl) (fun _ _ _ h => h) (Or.inl ⟨by rfl, ?_⟩) (by assumption) ?_
  rotate_left
  · intro wq hSw; (try dsimp only at hSw); go_simp; (try with_reducible rfl)
  try simp only [Act.put, List.setIfInBounds_toArray, List.set_cons_zero, List.set_cons_succ]
  refine wpAnyH_ready (rs := [2]) (by kernel_rfl) (by simp) ?_
  refine AllReadyH.cons (o := { dst := some 142, op := Go.Op.call { callee := Go.Callee.value (Go.Operand.func 41), args := #[Go.Operand.tmp 140, Go.Operand.tmp 141], argTypes := #[61, 61] }, type := 61, pos := "law.go:256", after := #[{ on := 0, ground := Go.Ground.data }, { on := 1, ground := Go.Ground.data }], guard := none }) rfl (fun K hK => ?_) ?_
  rotate_left
  · exact AllReadyH.nil
  go_simp
  refine (over6_any ra rb Aa Ab qa qb _ (moved Ha.out ya.drew) (moved Hb.out yb.drew) (by omega) (by omega) Ca.out.canon.rise Cb.out.canon.rise Ca.out.canon.upTo Cb.out.canon.upTo).mono ?_
  rintro e w30 ⟨⟨Ae, qe, re, rfl, hre, hAe, _, hce, hve⟩, hb30⟩
  have hw30 : Below w.heap.size w w30 := stepH hw29.drew hb30
  have z30 := hw30.size
  replace ya : Below w3.heap.size w3 w30 := stepH ya.drew hb30
  replace yya := ya.size
  replace yb : Below w5.heap.size w5 w30 := stepH yb.drew hb30
  replace yyb := yb.size
  replace yc : Below w7.heap.size w7 w30 := stepH yc.drew hb30
  replace yyc := yc.size
  replace yd : Below w8.heap.size w8 w30 := stepH yd.drew hb30
  replace yyd := yd.size
  replace R := keepH hb30 (drew_old R.out)
  replace S := keepH hb30 (drew_old S.out)
  replace U := keepH hb30 (drew_old U.out)
  replace D := keepH hb30 (drew_old D.out)
  replace Z := keepH hb30 (drew_old Z.out)
  replace xR : w30.cell? ⟨w3.heap.size, 0, none⟩ = some (.slice Aa ra.length qa) := cellOf hb30 (cell_drew xR)
  replace xS : w30.cell? ⟨w5.heap.size, 0, none⟩ = some (.slice Ab rb.length qb) := cellOf hb30 (cell_drew xS)
  have le : re.length ≤ 800 := by have h := over_len Ca.out.val Cb.out.val hce hve; rw [List.length_reverse, List.length_reverse] at h; omega
  have Ve := over_val Ca.out.val Cb.out.val hve
  have Vo := Lib.hid hve
  clear hve
  have Ce := Lib.hid hce
  clear hce
  have He := Lib.hid hre
  clear hre
  have ye : Below w30.heap.size w30 w30 := Below.refl _ _
  have yye := ye.size
  clear hb30
  go_wp2_with fail
  refine hK.out _ _ ?_ (fun hH1 => ?_)
  · (try dsimp only); exact ⟨xR, xS⟩
  clear hK K
  clear hH0
  try simp only [Act.put, List.setIfInBounds_toArray, List.set_cons_zero, List.set_cons_succ]
  refine wpAnyH_ready (rs := [4]) (by kernel_rfl) (by simp) ?_
  refine AllReadyH.cons (o := { dst := some 144, op := Go.Op.call { callee := Go.Callee.value (Go.Operand.func 46), args := #[Go.Operand.tmp 142, Go.Operand.tmp 143], argTypes := #[61, 86] }, type := 61, pos := "law.go:256", after := #[{ on := 2, ground := Go.Ground.data }, { on := 3, ground := Go.Ground.data }, { on := 2, ground := Go.Ground.chain }], guard := none }) rfl (fun K hK => ?_) ?_
  rotate_left
  · exact AllReadyH.nil
  go_simp
  refine (mapQ_any re Ae qe _ (moved He.out ye) (by omega)).mono ?_
  rintro e w31 ⟨⟨Af, qf, rfl, hrf, hAf⟩, hb31⟩
  have hw31 : Below w.heap.size w w31 := stepH hw30 hb31
  have z31 := hw31.size
  replace ya : Below w3.heap.size w3 w31 := stepH ya hb31
  replace yya := ya.size
  replace yb : Below w5.heap.size w5 w31 := stepH yb hb31
  replace yyb := yb.size
  replace yc : Below w7.heap.size w7 w31 := stepH yc hb31
  replace yyc := yc.size
  replace yd : Below w8.heap.size w8 w31 := stepH yd hb31
  replace yyd := yd.size
  replace ye : Below w30.heap.size w30 w31 := stepH ye hb31
  replace yye := ye.size
  replace R := keepH hb31 R.out
  replace S := keepH hb31 S.out
  replace U := keepH hb31 U.out
  replace D := keepH hb31 D.out
  replace Z := keepH hb31 Z.out
  replace xR : w31.cell? ⟨w3.heap.size, 0, none⟩ = some (.slice Aa ra.length qa) := cellOf hb31 xR
  replace xS : w31.cell? ⟨w5.heap.size, 0, none⟩ = some (.slice Ab rb.length qb) := cellOf hb31 xS
  have lf := map_len (f := (fun v : Int => v / 2)) Ce.out Ve
  obtain ⟨hcf, hvf⟩ := map_canon (f := (fun v : Int => v / 2)) Ce.out
  rw [List.length_append, List.length_reverse, List.length_reverse] at lf
  generalize joinedL (mapP (fun v : Int => v / 2) re) = rf at *
  have Cf := Lib.hid hcf
  clear hcf
  have Hf := Lib.hid hrf
  clear hrf
  have yf : Below w31.heap.size w31 w31 := Below.refl _ _
  have yyf := yf.size
  clear hb31
  go_wp2_with fail
  refine hK.out _ _ ?_ (fun hH2 => ?_)
  · (try dsimp only); exact ⟨xR, xS⟩
  clear hK K
  clear hH1
  try simp only [Act.put, List.setIfInBounds_toArray, List.set_cons_zero, List.set_cons_succ]
  refine wpAnyH_ready (rs := [7]) (by kernel_rfl) (by simp) ?_
  refine AllReadyH.cons (o := { dst := some 147, op := Go.Op.call { callee := Go.Callee.value (Go.Operand.func 46), args := #[Go.Operand.tmp 145, Go.Operand.tmp 146], argTypes := #[61, 86] }, type := 61, pos := "law.go:256", after := #[{ on := 5, ground := Go.Ground.data }, { on := 6, ground := Go.Ground.data }, { on := 4, ground := Go.Ground.chain }], guard := none }) rfl (fun K hK => ?_) ?_
  rotate_left
  · exact AllReadyH.nil
  go_simp
  refine (mapQ_any ra Aa qa _ (moved Ha.out ya) (by omega)).mono ?_
  rintro e w32 ⟨⟨Ag, qg, rfl, hrg, hAg⟩, hb32⟩
  have hw32 : Below w.heap.size w w32 := stepH hw31 hb32
  have z32 := hw32.size
  replace ya : Below w3.heap.size w3 w32 := stepH ya hb32
  replace yya := ya.size
  replace yb : Below w5.heap.size w5 w32 := stepH yb hb32
  replace yyb := yb.size
  replace yc : Below w7.heap.size w7 w32 := stepH yc hb32
  replace yyc := yc.size
  replace yd : Below w8.heap.size w8 w32 := stepH yd hb32
  replace yyd := yd.size
  replace ye : Below w30.heap.size w30 w32 := stepH ye hb32
  replace yye := ye.size
  replace yf : Below w31.heap.size w31 w32 := stepH yf hb32
  replace yyf := yf.size
  replace R := keepH hb32 R.out
  replace S := keepH hb32 S.out
  replace U := keepH hb32 U.out
  replace D := keepH hb32 D.out
  replace Z := keepH hb32 Z.out
  replace xR : w32.cell? ⟨w3.heap.size, 0, none⟩ = some (.slice Aa ra.length qa) := cellOf hb32 xR
  replace xS : w32.cell? ⟨w5.heap.size, 0, none⟩ = some (.slice Ab rb.length qb) := cellOf hb32 xS
  have lg := map_len (f := (fun v : Int => v / 2)) Ca.out.canon Va
  obtain ⟨hcg, hvg⟩ := map_canon (f := (fun v : Int => v / 2)) Ca.out.canon
  rw [List.length_reverse] at lg
  generalize joinedL (mapP (fun v : Int => v / 2) ra) = rg at *
  have Cg := Lib.hid hcg
  clear hcg
  have Hg := Lib.hid hrg
  clear hrg
  have yg : Below w32.heap.size w32 w32 := Below.refl _ _
  have yyg := yg.size
  clear hb32
  go_wp2_with fail
  refine hK.out _ _ ?_ (fun hH3 => ?_)
  · (try dsimp only); exact ⟨xR, xS⟩
  clear hK K
  clear hH2
  try simp only [Act.put, List.setIfInBounds_toArray, List.set_cons_zero, List.set_cons_succ]
  refine wpAnyH_ready (rs := [10]) (by kernel_rfl) (by simp) ?_
  refine AllReadyH.cons (o := { dst := some 150, op := Go.Op.call { callee := Go.Callee.value (Go.Operand.func 46), args := #[Go.Operand.tmp 148, Go.Operand.tmp 149], argTypes := #[61, 86] }, type := 61, pos := "law.go:256", after := #[{ on := 8, ground := Go.Ground.data }, { on := 9, ground := Go.Ground.data }, { on := 7, ground := Go.Ground.chain }], guard := none }) rfl (fun K hK => ?_) ?_
  rotate_left
  · exact AllReadyH.nil
  go_simp
  refine (mapQ_any rb Ab qb _ (moved Hb.out yb) (by omega)).mono ?_
  rintro e w33 ⟨⟨Ah, qh, rfl, hrh, hAh⟩, hb33⟩
  have hw33 : Below w.heap.size w w33 := stepH hw32 hb33
  have z33 := hw33.size
  replace ya : Below w3.heap.size w3 w33 := stepH ya hb33
  replace yya := ya.size
  replace yb : Below w5.heap.size w5 w33 := stepH yb hb33
  replace yyb := yb.size
  replace yc : Below w7.heap.size w7 w33 := stepH yc hb33
  replace yyc := yc.size
  replace yd : Below w8.heap.size w8 w33 := stepH yd hb33
  replace yyd := yd.size
  replace ye : Below w30.heap.size w30 w33 := stepH ye hb33
  replace yye := ye.size
  replace yf : Below w31.heap.size w31 w33 := stepH yf hb33
  replace yyf := yf.size
  replace yg : Below w32.heap.size w32 w33 := stepH yg hb33
  replace yyg := yg.size
  replace R := keepH hb33 R.out
  replace S := keepH hb33 S.out
  replace U := keepH hb33 U.out
  replace D := keepH hb33 D.out
  replace Z := keepH hb33 Z.out
  replace xR : w33.cell? ⟨w3.heap.size, 0, none⟩ = some (.slice Aa ra.length qa) := cellOf hb33 xR
  replace xS : w33.cell? ⟨w5.heap.size, 0, none⟩ = some (.slice Ab rb.length qb) := cellOf hb33 xS
  have lh := map_len (f := (fun v : Int => v / 2)) Cb.out.canon Vb
  obtain ⟨hch, hvh⟩ := map_canon (f := (fun v : Int => v / 2)) Cb.out.canon
  rw [List.length_reverse] at lh
  generalize joinedL (mapP (fun v : Int => v / 2) rb) = rh at *
  have Ch := Lib.hid hch
  clear hch
  have Hh := Lib.hid hrh
  clear hrh
  have yh : Below w33.heap.size w33 w33 := Below.refl _ _
  have yyh := yh.size
  clear hb33
  go_wp2_with fail
  refine hK.out _ _ ?_ (fun hH4 => ?_)
  · (try dsimp only); exact ⟨xR, xS⟩
  clear hK K
  clear hH3
  try simp only [Act.put, List.setIfInBounds_toArray, List.set_cons_zero, List.set_cons_succ]
  refine wpAnyH_ready (rs := [11]) (by kernel_rfl) (by simp) ?_
  refine AllReadyH.cons (o := { dst := some 151, op := Go.Op.call { callee := Go.Callee.value (Go.Operand.func 41), args := #[Go.Operand.tmp 147, Go.Operand.tmp 150], argTypes := #[61, 61] }, type := 61, pos := "law.go:256", after := #[{ on := 7, ground := Go.Ground.data }, { on := 10, ground := Go.Ground.data }, { on := 10, ground := Go.Ground.chain }], guard := none }) rfl (fun K hK => ?_) ?_
  rotate_left
  · exact AllReadyH.nil
  go_simp
  refine (over6_any rg rh Ag Ah qg qh _ (moved Hg.out yg) (moved Hh.out yh) (by omega) (by omega) Cg.out.rise Ch.out.rise Cg.out.upTo Ch.out.upTo).mono ?_
  rintro e w34 ⟨⟨Ai, qi, ri, rfl, hri, hAi, _, hci, hvi⟩, hb34⟩
  have hw34 : Below w.heap.size w w34 := stepH hw33 hb34
  have z34 := hw34.size
  replace ya : Below w3.heap.size w3 w34 := stepH ya hb34
  replace yya := ya.size
  replace yb : Below w5.heap.size w5 w34 := stepH yb hb34
  replace yyb := yb.size
  replace yc : Below w7.heap.size w7 w34 := stepH yc hb34
  replace yyc := yc.size
  replace yd : Below w8.heap.size w8 w34 := stepH yd hb34
  replace yyd := yd.size
  replace ye : Below w30.heap.size w30 w34 := stepH ye hb34
  replace yye := ye.size
  replace yf : Below w31.heap.size w31 w34 := stepH yf hb34
  replace yyf := yf.size
  replace yg : Below w32.heap.size w32 w34 := stepH yg hb34
  replace yyg := yg.size
  replace yh : Below w33.heap.size w33 w34 := stepH yh hb34
  replace yyh := yh.size
  replace R := keepH hb34 R.out
  replace S := keepH hb34 S.out
  replace U := keepH hb34 U.out
  replace D := keepH hb34 D.out
  replace Z := keepH hb34 Z.out
  replace xR : w34.cell? ⟨w3.heap.size, 0, none⟩ = some (.slice Aa ra.length qa) := cellOf hb34 xR
  replace xS : w34.cell? ⟨w5.heap.size, 0, none⟩ = some (.slice Ab rb.length qb) := cellOf hb34 xS
  obtain rfl : rf = ri := Cf.out.ext hci (fun n => by rw [hvf, hvi, hvg, hvh, Vo.out, map_over])
  clear hci hvi
  have Hi := Lib.hid hri
  clear hri
  have yi : Below w34.heap.size w34 w34 := Below.refl _ _
  have yyi := yi.size
  clear hb34
  go_wp2_with fail
  refine hK.out _ _ ?_ (fun hH5 => ?_)
  · (try dsimp only); exact ⟨xR, xS⟩
  clear hK K
  clear hH4
  try simp only [Act.put, List.setIfInBounds_toArray, List.set_cons_zero, List.set_cons_succ]
  refine wpAnyH_ready (rs := [12]) (by kernel_rfl) (by simp) ?_
  refine AllReadyH.cons (o := { dst := some 152, op := Go.Op.call { callee := Go.Callee.value (Go.Operand.func 40), args := #[Go.Operand.tmp 144, Go.Operand.tmp 151], argTypes := #[61, 61] }, type := 4, pos := "law.go:256", after := #[{ on := 4, ground := Go.Ground.data }, { on := 11, ground := Go.Ground.data }, { on := 11, ground := Go.Ground.chain }], guard := none }) rfl (fun K hK => ?_) ?_
  rotate_left
  · exact AllReadyH.nil
  go_simp
  refine (sameL_yes rf rf.length Af Ai qf qi _ rfl (moved Hf.out yf) (moved Hi.out yi) (by omega) hAf hAi).mono ?_
  rintro e w35 ⟨rfl, hb35⟩
  have hw35 : Below w.heap.size w w35 := stepH hw34 hb35
  have z35 := hw35.size
  replace ya : Below w3.heap.size w3 w35 := stepH ya hb35
  replace yya := ya.size
  replace yb : Below w5.heap.size w5 w35 := stepH yb hb35
  replace yyb := yb.size
  replace yc : Below w7.heap.size w7 w35 := stepH yc hb35
  replace yyc := yc.size
  replace yd : Below w8.heap.size w8 w35 := stepH yd hb35
  replace yyd := yd.size
  replace ye : Below w30.heap.size w30 w35 := stepH ye hb35
  replace yye := ye.size
  replace yf : Below w31.heap.size w31 w35 := stepH yf hb35
  replace yyf := yf.size
  replace yg : Below w32.heap.size w32 w35 := stepH yg hb35
  replace yyg := yg.size
  replace yh : Below w33.heap.size w33 w35 := stepH yh hb35
  replace yyh := yh.size
  replace yi : Below w34.heap.size w34 w35 := stepH yi hb35
  replace yyi := yi.size
  replace R := keepH hb35 R.out
  replace S := keepH hb35 S.out
  replace U := keepH hb35 U.out
  replace D := keepH hb35 D.out
  replace Z := keepH hb35 Z.out
  replace xR : w35.cell? ⟨w3.heap.size, 0, none⟩ = some (.slice Aa ra.length qa) := cellOf hb35 xR
  replace xS : w35.cell? ⟨w5.heap.size, 0, none⟩ = some (.slice Ab rb.length qb) := cellOf hb35 xS
  clear hb35
  go_wp2_with fail
  refine hK.out _ _ ?_ (fun hH6 => ?_)
  · (try dsimp only); exact ⟨xR, xS⟩
  clear hK K
  clear hH5
  try simp only [Act.put, List.setIfInBounds_toArray, List.set_cons_zero, List.set_cons_succ]
  refine wpAnyH_take (i := 13) (oi := { dst := some 24, op := Go.Op.assign (Go.Operand.tmp 152), type := 4, pos := "law.go:256", after := #[{ on := 12, ground := Go.Ground.data }, { on := 12, ground := Go.Ground.chain }, { on := 0, ground := Go.Ground.phase }, { on := 1, ground := Go.Ground.phase }, { on := 2, ground := Go.Ground.phase }, { on := 3, ground := Go.Ground.phase }, { on := 4, ground := Go.Ground.phase }, { on := 5, ground := Go.Ground.phase }, { on := 6, ground := Go.Ground.phase }, { on := 7, ground := Go.Ground.phase }, { on := 8, ground := Go.Ground.phase }, { on := 9, ground := Go.Ground.phase }, { on := 10, ground := Go.Ground.phase }, { on := 11, ground := Go.Ground.phase }, { on := 12, ground := Go.Ground.phase }], guard := none }) (v := ?_) rfl (by kernel_rfl) (by kernel_rfl) (by kernel_rfl) (fun _ _ _ h => h) (Or.inl ⟨by rfl, ?_⟩) (by assumption) ?_
  rotate_left
  · intro wq hSw; (try dsimp only at hSw); go_simp; (try with_reducible rfl)
  try simp only [Act.put, List.setIfInBounds_toArray, List.set_cons_zero, List.set_cons_succ]
  refine wpAnyH_done (by kernel_rfl) ?_ _
  clear xR xS
  go_wp2_with fail
  go_ret
  exact ⟨rfl, by (repeat' (first | with_reducible exact Below.refl _ _ | with_reducible assumption | with_reducible refine Below.drew ?_ | with_reducible refine below_drewN ?_ _ | with_reducible refine Below.setCell ?_ ?_ _ | with_reducible refine Below.alloc ?_ ?_ _ | omega | (simp; done) | (simp; omega)))⟩

set_option maxRecDepth 100000 in
theorem lineLaws_walk (l k j : List (Pc Int)) (m : List (Pc Unit)) (A B C D : Option Addr) (c1 c2 c3 c4 : Nat) (E : Nat → Addr) (w : World) (hl : RowAt encP 3 w w.heap.size A l) (hk : RowAt encP 3 w w.heap.size B k) (hj : RowAt encP 3 w w.heap.size C j) (hm : RowAt encU 2 w w.heap.size D m) (hE : Env L6 E w) :
    Calls Tryd.prog 6 #[.slice A l.length c1, .slice B k.length c2, .slice C j.length c3, .slice D m.length c4] w fun e w' => e = .returned (.bool true) ∧ Below w.heap.size w w' := by
  have bad : ∀ l : List (Pc Int), ¬ (∀ p ∈ l, ValidP MD p) → ∃ p ∈ l, ¬ ValidP MD p := fun l hv => Classical.byContradiction fun h => hv fun p hp => Classical.byContradiction fun hn => h ⟨p, hp, hn⟩
  have badS : ∀ l : List (Pc Unit), ¬ (∀ p ∈ l, ValidS MD p) → ∃ p ∈ l, ¬ ValidS MD p := fun l hv => Classical.byContradiction fun h => hv fun p hp => Classical.byContradiction fun hn => h ⟨p, hp, hn⟩
  by_cases h1 : 200 < l.length
  · exact lineLaws_x0 l k j m A B C D c1 c2 c3 c4 E w hl hk hj hm hE h1
  replace h1 : l.length ≤ 200 := by omega
  by_cases h2 : 200 < k.length
  · exact lineLaws_x1 l k j m A B C D c1 c2 c3 c4 E w hl hk hj hm hE h1 h2
  replace h2 : k.length ≤ 200 := by omega
  by_cases h3 : 200 < j.length
  · exact lineLaws_x2 l k j m A B C D c1 c2 c3 c4 E w hl hk hj hm hE h1 h2 h3
  replace h3 : j.length ≤ 200 := by omega
  by_cases h4 : 200 < m.length
  · exact lineLaws_x3 l k j m A B C D c1 c2 c3 c4 E w hl hk hj hm hE h1 h2 h3 h4
  replace h4 : m.length ≤ 200 := by omega
  by_cases hv0 : ∀ p ∈ l, ValidP MD p
  rotate_left
  · exact lineLaws_b0 l k j m A B C D c1 c2 c3 c4 E w hl hk hj hm hE h1 h2 h3 h4  (bad l hv0)
  by_cases hv1 : ∀ p ∈ k, ValidP MD p
  rotate_left
  · exact lineLaws_b1 l k j m A B C D c1 c2 c3 c4 E w hl hk hj hm hE h1 h2 h3 h4 hv0 (bad k hv1)
  by_cases hv2 : ∀ p ∈ j, ValidP MD p
  rotate_left
  · exact lineLaws_b2 l k j m A B C D c1 c2 c3 c4 E w hl hk hj hm hE h1 h2 h3 h4 hv0 hv1 (bad j hv2)
  by_cases hv3 : ∀ p ∈ m, ValidS MD p
  rotate_left
  · exact lineLaws_b3 l k j m A B C D c1 c2 c3 c4 E w hl hk hj hm hE h1 h2 h3 h4 hv0 hv1 hv2 (badS m hv3)
  exact lineLaws_g l k j m A B C D c1 c2 c3 c4 E w hl hk hj hm hE h1 h2 h3 h4 hv0 hv1 hv2 hv3

end Go.Proofs.YthgdjocoiniphaaDoor
