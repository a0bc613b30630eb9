/- The walk of DayByDay. -/
import Derived.Test.YthgdjocoiniphaaDoorDayP
import Derived.Deep.RegionHeldLaw
namespace Go.Proofs.YthgdjocoiniphaaDoor
open Go.RowKit

theorem makeS_some (l : List (Pc Unit)) (A : Option Addr) (c : Nat) (E : Nat → Addr) (w : World) (hl : RowAt encU 2 w w.heap.size A l) (h1 : l.length ≤ 1000000) (hE : Env L6 E w) :
    Calls Tryd.prog 39 #[.slice A l.length c] w fun e w' => (∃ A' k c' x, e = .returned (.tuple #[.agg #[.slice A' k c'], x])) ∧ Below w.heap.size w w' := by
  by_cases hv : ∀ p ∈ l, ValidS MD p
  · refine (makeS_ok l A c w hl h1 hv).mono ?_
    rintro e w' ⟨⟨A', c', r, rfl, _⟩, hb⟩
    exact ⟨⟨_, _, _, _, rfl⟩, hb⟩
  · refine (makeS_bad l A c E w hl h1 (Classical.byContradiction fun h => hv fun p hp => Classical.byContradiction fun hn => h ⟨p, hp, hn⟩) hE).mono ?_
    rintro e w' ⟨rfl, hb⟩
    exact ⟨⟨_, _, _, _, rfl⟩, hb⟩

set_option maxRecDepth 100000 in
set_option maxHeartbeats 16000000 in
theorem dayByDay_x (l m : List (Pc Unit)) (A B : Option Addr) (c d : Nat) (n : Int) (E : Nat → Addr) (w : World) (hl : RowAt encU 2 w w.heap.size A l) (hm : RowAt encU 2 w w.heap.size B m) (hT : Tabs w) (hE : Env LD E w) (h1 : 300 < l.length) :
    Calls Tryd.prog 12 #[.slice A l.length c, .slice B m.length d, .int .i64 n] w fun e w' => e = .returned (.bool true) ∧ Below w.heap.size w w' := by
  have HF := Lib.hid (first3_any w hT)
  have HLl := Lib.hid hl
  have HMm := Lib.hid hm
  have HE := Lib.hid hE
  have e1 : decide ((300 : Int) < (l.length : Int)) = true := decide_eq_true (by omega)
  clear hl hm hT hE
  go_enter Tryd.func12, Tryd.ntmps12
  go_wp2_with fail
  refine (HF.out).mono ?_
  rintro e w1 ⟨rfl, hb1⟩
  have hw1 : Below w.heap.size w w1 := stepH (by (repeat' (first | with_reducible exact Below.refl _ _ | with_reducible assumption | with_reducible refine Below.drew ?_ | with_reducible refine below_drewN ?_ _ | with_reducible refine Below.setCell ?_ ?_ _ | with_reducible refine Below.alloc ?_ ?_ _ | omega | (simp; done) | (simp; omega)))) hb1
  have z1 := hw1.size
  clear hb1
  go_wp2_with fail
  go_ret
  exact ⟨rfl, hw1⟩

set_option maxRecDepth 100000 in
set_option maxHeartbeats 16000000 in
theorem dayByDay_y (l m : List (Pc Unit)) (A B : Option Addr) (c d : Nat) (n : Int) (E : Nat → Addr) (w : World) (hl : RowAt encU 2 w w.heap.size A l) (hm : RowAt encU 2 w w.heap.size B m) (hT : Tabs w) (hE : Env LD E w) (h1 : l.length ≤ 300) (h2 : 300 < m.length) :
    Calls Tryd.prog 12 #[.slice A l.length c, .slice B m.length d, .int .i64 n] w fun e w' => e = .returned (.bool true) ∧ Below w.heap.size w w' := by
  have HF := Lib.hid (first3_any w hT)
  have HLl := Lib.hid hl
  have HMm := Lib.hid hm
  have HE := Lib.hid hE
  have e1 : decide ((300 : Int) < (l.length : Int)) = false := decide_eq_false (by omega)
  have e2 : decide ((300 : Int) < (m.length : Int)) = true := decide_eq_true (by omega)
  clear hl hm hT hE
  go_enter Tryd.func12, Tryd.ntmps12
  go_wp2_with fail
  refine (HF.out).mono ?_
  rintro e w1 ⟨rfl, hb1⟩
  have hw1 : Below w.heap.size w w1 := stepH (by (repeat' (first | with_reducible exact Below.refl _ _ | with_reducible assumption | with_reducible refine Below.drew ?_ | with_reducible refine below_drewN ?_ _ | with_reducible refine Below.setCell ?_ ?_ _ | with_reducible refine Below.alloc ?_ ?_ _ | omega | (simp; done) | (simp; omega)))) hb1
  have z1 := hw1.size
  clear hb1
  go_wp2_with fail
  go_ret
  exact ⟨rfl, hw1⟩

set_option maxRecDepth 100000 in
set_option maxHeartbeats 16000000 in
theorem dayByDay_a (l m : List (Pc Unit)) (A B : Option Addr) (c d : Nat) (n : Int) (E : Nat → Addr) (w : World) (hl : RowAt encU 2 w w.heap.size A l) (hm : RowAt encU 2 w w.heap.size B m) (hT : Tabs w) (hE : Env LD E w) (h1 : l.length ≤ 300) (h2 : m.length ≤ 300) (hb : ∃ p ∈ l, ¬ ValidS MD p) :
    Calls Tryd.prog 12 #[.slice A l.length c, .slice B m.length d, .int .i64 n] w fun e w' => e = .returned (.bool true) ∧ Below w.heap.size w w' := by
  have HF := Lib.hid (first3_any w hT)
  have HLl := Lib.hid hl
  have HMm := Lib.hid hm
  have HE := Lib.hid hE
  have e1 : decide ((300 : Int) < (l.length : Int)) = false := decide_eq_false (by omega)
  have e2 : decide ((300 : Int) < (m.length : Int)) = false := decide_eq_false (by omega)
  have HB := Lib.hid hb
  have hen := fun w => eql_nil (E 6) w
  clear hl hm hT hE hb
  go_enter Tryd.func12, Tryd.ntmps12
  go_wp2_with fail
  refine (HF.out).mono ?_
  rintro e w1 ⟨rfl, hb1⟩
  have hw1 : Below w.heap.size w w1 := stepH (by (repeat' (first | with_reducible exact Below.refl _ _ | with_reducible assumption | with_reducible refine Below.drew ?_ | with_reducible refine below_drewN ?_ _ | with_reducible refine Below.setCell ?_ ?_ _ | with_reducible refine Below.alloc ?_ ?_ _ | omega | (simp; done) | (simp; omega)))) hb1
  have z1 := hw1.size
  clear hb1
  go_wp2_with fail
  refine (makeS_bad l A c E _ (moved HLl.out (by (repeat' (first | with_reducible exact Below.refl _ _ | with_reducible assumption | with_reducible refine Below.drew ?_ | with_reducible refine below_drewN ?_ _ | with_reducible refine Below.setCell ?_ ?_ _ | with_reducible refine Below.alloc ?_ ?_ _ | omega | (simp; done) | (simp; omega))))) (by omega) HB.out ((HE.out.below (by (repeat' (first | with_reducible exact Below.refl _ _ | with_reducible assumption | with_reducible refine Below.drew ?_ | with_reducible refine below_drewN ?_ _ | with_reducible refine Below.setCell ?_ ?_ _ | with_reducible refine Below.alloc ?_ ?_ _ | omega | (simp; done) | (simp; omega))))).sub (by decide))).mono ?_
  rintro e w2 ⟨rfl, hb2⟩
  have hw2 : Below w.heap.size w w2 := stepH (by (repeat' (first | with_reducible exact Below.refl _ _ | with_reducible assumption | with_reducible refine Below.drew ?_ | with_reducible refine below_drewN ?_ _ | with_reducible refine Below.setCell ?_ ?_ _ | with_reducible refine Below.alloc ?_ ?_ _ | omega | (simp; done) | (simp; omega)))) hb2
  have z2 := hw2.size
  clear hb2 hw1 z1
  go_wp2_with fail
  refine (makeS_some m B d E _ (moved HMm.out (by (repeat' (first | with_reducible exact Below.refl _ _ | with_reducible assumption | with_reducible refine Below.drew ?_ | with_reducible refine below_drewN ?_ _ | with_reducible refine Below.setCell ?_ ?_ _ | with_reducible refine Below.alloc ?_ ?_ _ | omega | (simp; done) | (simp; omega))))) (by omega) ((HE.out.below (by (repeat' (first | with_reducible exact Below.refl _ _ | with_reducible assumption | with_reducible refine Below.drew ?_ | with_reducible refine below_drewN ?_ _ | with_reducible refine Below.setCell ?_ ?_ _ | with_reducible refine Below.alloc ?_ ?_ _ | omega | (simp; done) | (simp; omega))))).sub (by decide))).mono ?_
  rintro e w3 ⟨⟨A3, k3, c3, x3, rfl⟩, hb3⟩
  have hw3 : Below w.heap.size w w3 := stepH (by (repeat' (first | with_reducible exact Below.refl _ _ | with_reducible assumption | with_reducible refine Below.drew ?_ | with_reducible refine below_drewN ?_ _ | with_reducible refine Below.setCell ?_ ?_ _ | with_reducible refine Below.alloc ?_ ?_ _ | omega | (simp; done) | (simp; omega)))) hb3
  have S := keepH hb3 (g := w2.heap.size) (blk_new rfl)
  have z3 := hw3.size
  clear hb3 hw2 z2
  have cS := cellH S
  obtain ⟨lS, lS1, lS2⟩ := ltH S
  go_wp2_with fail
  go_ret
  exact ⟨rfl, by (repeat' (first | with_reducible exact Below.refl _ _ | with_reducible assumption | with_reducible refine Below.drew ?_ | with_reducible refine below_drewN ?_ _ | with_reducible refine Below.setCell ?_ ?_ _ | with_reducible refine Below.alloc ?_ ?_ _ | omega | (simp; done) | (simp; omega)))⟩

set_option maxRecDepth 100000 in
set_option maxHeartbeats 16000000 in
theorem dayByDay_b (l m : List (Pc Unit)) (A B : Option Addr) (c d : Nat) (n : Int) (E : Nat → Addr) (w : World) (hl : RowAt encU 2 w w.heap.size A l) (hm : RowAt encU 2 w w.heap.size B m) (hT : Tabs w) (hE : Env LD E w) (h1 : l.length ≤ 300) (h2 : m.length ≤ 300) (hv : ∀ p ∈ l, ValidS MD p) (hb : ∃ p ∈ m, ¬ ValidS MD p) :
    Calls Tryd.prog 12 #[.slice A l.length c, .slice B m.length d, .int .i64 n] w fun e w' => e = .returned (.bool true) ∧ Below w.heap.size w w' := by
  have HF := Lib.hid (first3_any w hT)
  have HLl := Lib.hid hl
  have HMm := Lib.hid hm
  have HE := Lib.hid hE
  have e1 : decide ((300 : Int) < (l.length : Int)) = false := decide_eq_false (by omega)
  have e2 : decide ((300 : Int) < (m.length : Int)) = false := decide_eq_false (by omega)
  have HB := Lib.hid hb
  have HV := Lib.hid hv
  have hen := fun w => eql_nil (E 6) w
  clear hl hm hT hE hb hv
  go_enter Tryd.func12, Tryd.ntmps12
  go_wp2_with fail
  refine (HF.out).mono ?_
  rintro e w1 ⟨rfl, hb1⟩
  have hw1 : Below w.heap.size w w1 := stepH (by (repeat' (first | with_reducible exact Below.refl _ _ | with_reducible assumption | with_reducible refine Below.drew ?_ | with_reducible refine below_drewN ?_ _ | with_reducible refine Below.setCell ?_ ?_ _ | with_reducible refine Below.alloc ?_ ?_ _ | omega | (simp; done) | (simp; omega)))) hb1
  have z1 := hw1.size
  clear hb1
  go_wp2_with fail
  refine (makeS_ok l A c _ (moved HLl.out (by (repeat' (first | with_reducible exact Below.refl _ _ | with_reducible assumption | with_reducible refine Below.drew ?_ | with_reducible refine below_drewN ?_ _ | with_reducible refine Below.setCell ?_ ?_ _ | with_reducible refine Below.alloc ?_ ?_ _ | omega | (simp; done) | (simp; omega))))) (by omega) HV.out).mono ?_
  rintro e w2 ⟨⟨As, cs, rs, rfl, hrs, hAs, hss⟩, hb2⟩
  have hw2 : Below w.heap.size w w2 := stepH (by (repeat' (first | with_reducible exact Below.refl _ _ | with_reducible assumption | with_reducible refine Below.drew ?_ | with_reducible refine below_drewN ?_ _ | with_reducible refine Below.setCell ?_ ?_ _ | with_reducible refine Below.alloc ?_ ?_ _ | omega | (simp; done) | (simp; omega)))) hb2
  have z2 := hw2.size
  clear hb2 hw1 z1
  go_wp2_with fail
  refine (makeS_bad m B d E _ (moved HMm.out (by (repeat' (first | with_reducible exact Below.refl _ _ | with_reducible assumption | with_reducible refine Below.drew ?_ | with_reducible refine below_drewN ?_ _ | with_reducible refine Below.setCell ?_ ?_ _ | with_reducible refine Below.alloc ?_ ?_ _ | omega | (simp; done) | (simp; omega))))) (by omega) HB.out ((HE.out.below (by (repeat' (first | with_reducible exact Below.refl _ _ | with_reducible assumption | with_reducible refine Below.drew ?_ | with_reducible refine below_drewN ?_ _ | with_reducible refine Below.setCell ?_ ?_ _ | with_reducible refine Below.alloc ?_ ?_ _ | omega | (simp; done) | (simp; omega))))).sub (by decide))).mono ?_
  rintro e w3 ⟨rfl, hb3⟩
  have hw3 : Below w.heap.size w w3 := stepH (by (repeat' (first | with_reducible exact Below.refl _ _ | with_reducible assumption | with_reducible refine Below.drew ?_ | with_reducible refine below_drewN ?_ _ | with_reducible refine Below.setCell ?_ ?_ _ | with_reducible refine Below.alloc ?_ ?_ _ | omega | (simp; done) | (simp; omega)))) hb3
  have S := keepH hb3 (g := w2.heap.size) (blk_new rfl)
  have z3 := hw3.size
  clear hb3 hw2 z2
  have cS := cellH S
  obtain ⟨lS, lS1, lS2⟩ := ltH S
  go_wp2_with fail
  go_ret
  exact ⟨rfl, by (repeat' (first | with_reducible exact Below.refl _ _ | with_reducible assumption | with_reducible refine Below.drew ?_ | with_reducible refine below_drewN ?_ _ | with_reducible refine Below.setCell ?_ ?_ _ | with_reducible refine Below.alloc ?_ ?_ _ | omega | (simp; done) | (simp; omega)))⟩

set_option maxRecDepth 100000 in
set_option maxHeartbeats 16000000 in
theorem dayByDay_g (l m : List (Pc Unit)) (A B : Option Addr) (c d : Nat) (n : Int) (E : Nat → Addr) (w : World) (hl : RowAt encU 2 w w.heap.size A l) (hm : RowAt encU 2 w w.heap.size B m) (hT : Tabs w) (hE : Env LD E w) (h1 : l.length ≤ 300) (h2 : m.length ≤ 300) (hv : ∀ p ∈ l, ValidS MD p) (hu : ∀ p ∈ m, ValidS MD p) :
    Calls Tryd.prog 12 #[.slice A l.length c, .slice B m.length d, .int .i64 n] w fun e w' => e = .returned (.bool true) ∧ Below w.heap.size w w' := by
  have HF := Lib.hid (first3_any w hT)
  have HLl := Lib.hid hl
  have HMm := Lib.hid hm
  have HE := Lib.hid hE
  have e1 : decide ((300 : Int) < (l.length : Int)) = false := decide_eq_false (by omega)
  have e2 : decide ((300 : Int) < (m.length : Int)) = false := decide_eq_false (by omega)
  have HV := Lib.hid hv
  have HU := Lib.hid hu
  clear hl hm hT hE hu hv
  go_enter Tryd.func12, Tryd.ntmps12
  go_wp2_with fail
  refine (HF.out).mono ?_
  rintro e w1 ⟨rfl, hb1⟩
  have hw1 : Below w.heap.size w w1 := stepH (by (repeat' (first | with_reducible exact Below.refl _ _ | with_reducible assumption | with_reducible refine Below.drew ?_ | with_reducible refine below_drewN ?_ _ | with_reducible refine Below.setCell ?_ ?_ _ | with_reducible refine Below.alloc ?_ ?_ _ | omega | (simp; done) | (simp; omega)))) hb1
  have z1 := hw1.size
  clear hb1
  go_wp2_with fail
  refine (makeS_ok l A c _ (moved HLl.out (by (repeat' (first | with_reducible exact Below.refl _ _ | with_reducible assumption | with_reducible refine Below.drew ?_ | with_reducible refine below_drewN ?_ _ | with_reducible refine Below.setCell ?_ ?_ _ | with_reducible refine Below.alloc ?_ ?_ _ | omega | (simp; done) | (simp; omega))))) (by omega) HV.out).mono ?_
  rintro e w2 ⟨⟨As, cs, rs, rfl, hrs, hAs, hss⟩, hb2⟩
  have hw2 : Below w.heap.size w w2 := stepH (by (repeat' (first | with_reducible exact Below.refl _ _ | with_reducible assumption | with_reducible refine Below.drew ?_ | with_reducible refine below_drewN ?_ _ | with_reducible refine Below.setCell ?_ ?_ _ | with_reducible refine Below.alloc ?_ ?_ _ | omega | (simp; done) | (simp; omega)))) hb2
  have HS := Lib.hid hrs
  have CS := Lib.hid hss
  have ls : rs.length ≤ 300 := by have h := hss.len; omega
  clear hrs hss
  have z2 := hw2.size
  clear hb2 hw1 z1
  have aS : Below w2.heap.size w2 w2 := Below.refl _ _
  have yaS := aS.size
  go_wp2_with fail
  refine (makeS_ok m B d _ (moved HMm.out (by (repeat' (first | with_reducible exact Below.refl _ _ | with_reducible assumption | with_reducible refine Below.drew ?_ | with_reducible refine below_drewN ?_ _ | with_reducible refine Below.setCell ?_ ?_ _ | with_reducible refine Below.alloc ?_ ?_ _ | omega | (simp; done) | (simp; omega))))) (by omega) HU.out).mono ?_
  rintro e w3 ⟨⟨At, ct, rt, rfl, hrt, hAt, hst⟩, hb3⟩
  have hw3 : Below w.heap.size w w3 := stepH (by (repeat' (first | with_reducible exact Below.refl _ _ | with_reducible assumption | with_reducible refine Below.drew ?_ | with_reducible refine below_drewN ?_ _ | with_reducible refine Below.setCell ?_ ?_ _ | with_reducible refine Below.alloc ?_ ?_ _ | omega | (simp; done) | (simp; omega)))) hb3
  replace aS : Below w2.heap.size w2 w3 := stepH (by (repeat' (first | with_reducible exact Below.refl _ _ | with_reducible assumption | with_reducible refine Below.drew ?_ | with_reducible refine below_drewN ?_ _ | with_reducible refine Below.setCell ?_ ?_ _ | with_reducible refine Below.alloc ?_ ?_ _ | omega | (simp; done) | (simp; omega)))) hb3
  replace yaS := aS.size
  have HT := Lib.hid hrt
  have CT := Lib.hid hst
  have lt : rt.length ≤ 300 := by have h := hst.len; omega
  clear hrt hst
  have S := keepH hb3 (g := w2.heap.size) (blk_new rfl)
  have z3 := hw3.size
  clear hb3 hw2 z2
  have cS := cellH S
  obtain ⟨lS, lS1, lS2⟩ := ltH S
  have aT : Below w3.heap.size w3 w3 := Below.refl _ _
  have yaT := aT.size
  go_wp2_with fail
  refine (hasS_any rs As cs n _ (moved HS.out (by (repeat' (first | with_reducible exact Below.refl _ _ | with_reducible assumption | with_reducible refine Below.drew ?_ | with_reducible refine below_drewN ?_ _ | with_reducible refine Below.setCell ?_ ?_ _ | with_reducible refine Below.alloc ?_ ?_ _ | omega | (simp; done) | (simp; omega))))) (by omega)).mono ?_
  rintro e w4 ⟨rfl, hb4⟩
  have hw4 : Below w.heap.size w w4 := stepH (by (repeat' (first | with_reducible exact Below.refl _ _ | with_reducible assumption | with_reducible refine Below.drew ?_ | with_reducible refine below_drewN ?_ _ | with_reducible refine Below.setCell ?_ ?_ _ | with_reducible refine Below.alloc ?_ ?_ _ | omega | (simp; done) | (simp; omega)))) hb4
  replace aS : Below w2.heap.size w2 w4 := stepH (by (repeat' (first | with_reducible exact Below.refl _ _ | with_reducible assumption | with_reducible refine Below.drew ?_ | with_reducible refine below_drewN ?_ _ | with_reducible refine Below.setCell ?_ ?_ _ | with_reducible refine Below.alloc ?_ ?_ _ | omega | (simp; done) | (simp; omega)))) hb4
  replace yaS := aS.size
  replace aT : Below w3.heap.size w3 w4 := stepH (by (repeat' (first | with_reducible exact Below.refl _ _ | with_reducible assumption | with_reducible refine Below.drew ?_ | with_reducible refine below_drewN ?_ _ | with_reducible refine Below.setCell ?_ ?_ _ | with_reducible refine Below.alloc ?_ ?_ _ | omega | (simp; done) | (simp; omega)))) hb4
  replace yaT := aT.size
  replace S := keepH hb4 (blk_old S.out)
  have T := keepH hb4 (g := w3.heap.size) (blk_new rfl)
  have z4 := hw4.size
  clear hb4 hw3 z3
  clear cS lS lS1 lS2
  have cS := cellH S
  obtain ⟨lS, lS1, lS2⟩ := ltH S
  have cT := cellH T
  obtain ⟨lT, lT1, lT2⟩ := ltH T
  generalize hx : hasB rs n = x
  have HX := Lib.hid hx
  clear hx
  go_wp2_with fail
  refine (hasS_any rt At ct n _ (moved HT.out (by (repeat' (first | with_reducible exact Below.refl _ _ | with_reducible assumption | with_reducible refine Below.drew ?_ | with_reducible refine below_drewN ?_ _ | with_reducible refine Below.setCell ?_ ?_ _ | with_reducible refine Below.alloc ?_ ?_ _ | omega | (simp; done) | (simp; omega))))) (by omega)).mono ?_
  rintro e w5 ⟨rfl, hb5⟩
  have hw5 : Below w.heap.size w w5 := stepH (by (repeat' (first | with_reducible exact Below.refl _ _ | with_reducible assumption | with_reducible refine Below.drew ?_ | with_reducible refine below_drewN ?_ _ | with_reducible refine Below.setCell ?_ ?_ _ | with_reducible refine Below.alloc ?_ ?_ _ | omega | (simp; done) | (simp; omega)))) hb5
  replace aS : Below w2.heap.size w2 w5 := stepH (by (repeat' (first | with_reducible exact Below.refl _ _ | with_reducible assumption | with_reducible refine Below.drew ?_ | with_reducible refine below_drewN ?_ _ | with_reducible refine Below.setCell ?_ ?_ _ | with_reducible refine Below.alloc ?_ ?_ _ | omega | (simp; done) | (simp; omega)))) hb5
  replace yaS := aS.size
  replace aT : Below w3.heap.size w3 w5 := stepH (by (repeat' (first | with_reducible exact Below.refl _ _ | with_reducible assumption | with_reducible refine Below.drew ?_ | with_reducible refine below_drewN ?_ _ | with_reducible refine Below.setCell ?_ ?_ _ | with_reducible refine Below.alloc ?_ ?_ _ | omega | (simp; done) | (simp; omega)))) hb5
  replace yaT := aT.size
  replace S := keepH hb5 S.out
  replace T := keepH hb5 T.out
  have z5 := hw5.size
  clear hb5 hw4 z4
  clear cS lS lS1 lS2 cT lT lT1 lT2
  have cS := cellH S
  obtain ⟨lS, lS1, lS2⟩ := ltH S
  have cT := cellH T
  obtain ⟨lT, lT1, lT2⟩ := ltH T
  generalize hy : hasB rt n = y
  have HY := Lib.hid hy
  clear hy
  go_wp2_with fail
  refine (or_any rs rt As At cs ct _ (moved HS.out (by (repeat' (first | with_reducible exact Below.refl _ _ | with_reducible assumption | with_reducible refine Below.drew ?_ | with_reducible refine below_drewN ?_ _ | with_reducible refine Below.setCell ?_ ?_ _ | with_reducible refine Below.alloc ?_ ?_ _ | omega | (simp; done) | (simp; omega))))) (moved HT.out (by (repeat' (first | with_reducible exact Below.refl _ _ | with_reducible assumption | with_reducible refine Below.drew ?_ | with_reducible refine below_drewN ?_ _ | with_reducible refine Below.setCell ?_ ?_ _ | with_reducible refine Below.alloc ?_ ?_ _ | omega | (simp; done) | (simp; omega))))) (by omega) (by omega) hAs hAt CS.out.canon CT.out.canon).mono ?_
  rintro e w6 ⟨⟨Ao, co, ro, rfl, hro, hAo, hso⟩, hb6⟩
  have hw6 : Below w.heap.size w w6 := stepH (by (repeat' (first | with_reducible exact Below.refl _ _ | with_reducible assumption | with_reducible refine Below.drew ?_ | with_reducible refine below_drewN ?_ _ | with_reducible refine Below.setCell ?_ ?_ _ | with_reducible refine Below.alloc ?_ ?_ _ | omega | (simp; done) | (simp; omega)))) hb6
  replace aS : Below w2.heap.size w2 w6 := stepH (by (repeat' (first | with_reducible exact Below.refl _ _ | with_reducible assumption | with_reducible refine Below.drew ?_ | with_reducible refine below_drewN ?_ _ | with_reducible refine Below.setCell ?_ ?_ _ | with_reducible refine Below.alloc ?_ ?_ _ | omega | (simp; done) | (simp; omega)))) hb6
  replace yaS := aS.size
  replace aT : Below w3.heap.size w3 w6 := stepH (by (repeat' (first | with_reducible exact Below.refl _ _ | with_reducible assumption | with_reducible refine Below.drew ?_ | with_reducible refine below_drewN ?_ _ | with_reducible refine Below.setCell ?_ ?_ _ | with_reducible refine Below.alloc ?_ ?_ _ | omega | (simp; done) | (simp; omega)))) hb6
  replace yaT := aT.size
  have HO := Lib.hid hro
  have CO := Lib.hid hso
  have lo : ro.length ≤ 600 := by have h := hso.len; rw [List.length_append] at h; omega
  clear hro hso
  replace S := keepH hb6 S.out
  replace T := keepH hb6 T.out
  have z6 := hw6.size
  clear hb6 hw5 z5
  clear cS lS lS1 lS2 cT lT lT1 lT2
  have cS := cellH S
  obtain ⟨lS, lS1, lS2⟩ := ltH S
  have cT := cellH T
  obtain ⟨lT, lT1, lT2⟩ := ltH T
  have aO : Below w6.heap.size w6 w6 := Below.refl _ _
  have yaO := aO.size
  go_wp2_with fail
  refine (and_any rs rt As At cs ct _ (moved HS.out (by (repeat' (first | with_reducible exact Below.refl _ _ | with_reducible assumption | with_reducible refine Below.drew ?_ | with_reducible refine below_drewN ?_ _ | with_reducible refine Below.setCell ?_ ?_ _ | with_reducible refine Below.alloc ?_ ?_ _ | omega | (simp; done) | (simp; omega))))) (moved HT.out (by (repeat' (first | with_reducible exact Below.refl _ _ | with_reducible assumption | with_reducible refine Below.drew ?_ | with_reducible refine below_drewN ?_ _ | with_reducible refine Below.setCell ?_ ?_ _ | with_reducible refine Below.alloc ?_ ?_ _ | omega | (simp; done) | (simp; omega))))) (by omega) (by omega) CS.out.canon CT.out.canon).mono ?_
  rintro e w7 ⟨⟨Ad, cd, rd, rfl, hrd, hAd, hsd⟩, hb7⟩
  have hw7 : Below w.heap.size w w7 := stepH (by (repeat' (first | with_reducible exact Below.refl _ _ | with_reducible assumption | with_reducible refine Below.drew ?_ | with_reducible refine below_drewN ?_ _ | with_reducible refine Below.setCell ?_ ?_ _ | with_reducible refine Below.alloc ?_ ?_ _ | omega | (simp; done) | (simp; omega)))) hb7
  replace aS : Below w2.heap.size w2 w7 := stepH (by (repeat' (first | with_reducible exact Below.refl _ _ | with_reducible assumption | with_reducible refine Below.drew ?_ | with_reducible refine below_drewN ?_ _ | with_reducible refine Below.setCell ?_ ?_ _ | with_reducible refine Below.alloc ?_ ?_ _ | omega | (simp; done) | (simp; omega)))) hb7
  replace yaS := aS.size
  replace aT : Below w3.heap.size w3 w7 := stepH (by (repeat' (first | with_reducible exact Below.refl _ _ | with_reducible assumption | with_reducible refine Below.drew ?_ | with_reducible refine below_drewN ?_ _ | with_reducible refine Below.setCell ?_ ?_ _ | with_reducible refine Below.alloc ?_ ?_ _ | omega | (simp; done) | (simp; omega)))) hb7
  replace yaT := aT.size
  replace aO : Below w6.heap.size w6 w7 := stepH (by (repeat' (first | with_reducible exact Below.refl _ _ | with_reducible assumption | with_reducible refine Below.drew ?_ | with_reducible refine below_drewN ?_ _ | with_reducible refine Below.setCell ?_ ?_ _ | with_reducible refine Below.alloc ?_ ?_ _ | omega | (simp; done) | (simp; omega)))) hb7
  replace yaO := aO.size
  have HD := Lib.hid hrd
  have CD := Lib.hid hsd
  have ld : rd.length ≤ 90000 := by have h := hsd.len; have h3 := andP_len rs rt; have h4 : rs.length * rt.length ≤ 300 * 300 := Nat.mul_le_mul ls lt; omega
  clear hrd hsd
  replace S := keepH hb7 (blk_old S.out)
  replace T := keepH hb7 (blk_old T.out)
  have O := keepH hb7 (g := w6.heap.size) (blk_new rfl)
  have z7 := hw7.size
  clear hb7 hw6 z6
  clear cS lS lS1 lS2 cT lT lT1 lT2
  have cS := cellH S
  obtain ⟨lS, lS1, lS2⟩ := ltH S
  have cT := cellH T
  obtain ⟨lT, lT1, lT2⟩ := ltH T
  have cO := cellH O
  obtain ⟨lO, lO1, lO2⟩ := ltH O
  have aD : Below w7.heap.size w7 w7 := Below.refl _ _
  have yaD := aD.size
  go_wp2_with fail
  refine (less_any rs rt As At cs ct _ (moved HS.out (by (repeat' (first | with_reducible exact Below.refl _ _ | with_reducible assumption | with_reducible refine Below.drew ?_ | with_reducible refine below_drewN ?_ _ | with_reducible refine Below.setCell ?_ ?_ _ | with_reducible refine Below.alloc ?_ ?_ _ | omega | (simp; done) | (simp; omega))))) (moved HT.out (by (repeat' (first | with_reducible exact Below.refl _ _ | with_reducible assumption | with_reducible refine Below.drew ?_ | with_reducible refine below_drewN ?_ _ | with_reducible refine Below.setCell ?_ ?_ _ | with_reducible refine Below.alloc ?_ ?_ _ | omega | (simp; done) | (simp; omega))))) (by omega) (by omega) CS.out.canon CT.out.canon).mono ?_
  rintro e w8 ⟨⟨Al, cl, rl, rfl, hrl, hAl, hsl⟩, hb8⟩
  have hw8 : Below w.heap.size w w8 := stepH (by (repeat' (first | with_reducible exact Below.refl _ _ | with_reducible assumption | with_reducible refine Below.drew ?_ | with_reducible refine below_drewN ?_ _ | with_reducible refine Below.setCell ?_ ?_ _ | with_reducible refine Below.alloc ?_ ?_ _ | omega | (simp; done) | (simp; omega)))) hb8
  replace aS : Below w2.heap.size w2 w8 := stepH (by (repeat' (first | with_reducible exact Below.refl _ _ | with_reducible assumption | with_reducible refine Below.drew ?_ | with_reducible refine below_drewN ?_ _ | with_reducible refine Below.setCell ?_ ?_ _ | with_reducible refine Below.alloc ?_ ?_ _ | omega | (simp; done) | (simp; omega)))) hb8
  replace yaS := aS.size
  replace aT : Below w3.heap.size w3 w8 := stepH (by (repeat' (first | with_reducible exact Below.refl _ _ | with_reducible assumption | with_reducible refine Below.drew ?_ | with_reducible refine below_drewN ?_ _ | with_reducible refine Below.setCell ?_ ?_ _ | with_reducible refine Below.alloc ?_ ?_ _ | omega | (simp; done) | (simp; omega)))) hb8
  replace yaT := aT.size
  replace aO : Below w6.heap.size w6 w8 := stepH (by (repeat' (first | with_reducible exact Below.refl _ _ | with_reducible assumption | with_reducible refine Below.drew ?_ | with_reducible refine below_drewN ?_ _ | with_reducible refine Below.setCell ?_ ?_ _ | with_reducible refine Below.alloc ?_ ?_ _ | omega | (simp; done) | (simp; omega)))) hb8
  replace yaO := aO.size
  replace aD : Below w7.heap.size w7 w8 := stepH (by (repeat' (first | with_reducible exact Below.refl _ _ | with_reducible assumption | with_reducible refine Below.drew ?_ | with_reducible refine below_drewN ?_ _ | with_reducible refine Below.setCell ?_ ?_ _ | with_reducible refine Below.alloc ?_ ?_ _ | omega | (simp; done) | (simp; omega)))) hb8
  replace yaD := aD.size
  have HL := Lib.hid hrl
  have CL := Lib.hid hsl
  have ll : rl.length ≤ 90300 := by have h := hsl.len; have h3 := lessP_len rs rt; have h4 : rs.length * (rt.length + 1) ≤ 300 * 301 := Nat.mul_le_mul ls (by omega); omega
  clear hrl hsl
  replace S := keepH hb8 (blk_old S.out)
  replace T := keepH hb8 (blk_old T.out)
  replace O := keepH hb8 (blk_old O.out)
  have D := keepH hb8 (g := w7.heap.size) (blk_new rfl)
  have z8 := hw8.size
  clear hb8 hw7 z7
  clear cS lS lS1 lS2 cT lT lT1 lT2 cO lO lO1 lO2
  have cS := cellH S
  obtain ⟨lS, lS1, lS2⟩ := ltH S
  have cT := cellH T
  obtain ⟨lT, lT1, lT2⟩ := ltH T
  have cO := cellH O
  obtain ⟨lO, lO1, lO2⟩ := ltH O
  have cD := cellH D
  obtain ⟨lD, lD1, lD2⟩ := ltH D
  have aL : Below w8.heap.size w8 w8 := Below.refl _ _
  have yaL := aL.size
  go_wp2_with fail
  refine (spansD_any rs As cs _ (moved HS.out (by (repeat' (first | with_reducible exact Below.refl _ _ | with_reducible assumption | with_reducible refine Below.drew ?_ | with_reducible refine below_drewN ?_ _ | with_reducible refine Below.setCell ?_ ?_ _ | with_reducible refine Below.alloc ?_ ?_ _ | omega | (simp; done) | (simp; omega))))) (by omega) hAs).mono ?_
  rintro e w9 ⟨v1, rfl, hown1, hb9⟩
  have hw9 : Below w.heap.size w w9 := stepH (by (repeat' (first | with_reducible exact Below.refl _ _ | with_reducible assumption | with_reducible refine Below.drew ?_ | with_reducible refine below_drewN ?_ _ | with_reducible refine Below.setCell ?_ ?_ _ | with_reducible refine Below.alloc ?_ ?_ _ | omega | (simp; done) | (simp; omega)))) hb9
  replace aS : Below w2.heap.size w2 w9 := stepH (by (repeat' (first | with_reducible exact Below.refl _ _ | with_reducible assumption | with_reducible refine Below.drew ?_ | with_reducible refine below_drewN ?_ _ | with_reducible refine Below.setCell ?_ ?_ _ | with_reducible refine Below.alloc ?_ ?_ _ | omega | (simp; done) | (simp; omega)))) hb9
  replace yaS := aS.size
  replace aT : Below w3.heap.size w3 w9 := stepH (by (repeat' (first | with_reducible exact Below.refl _ _ | with_reducible assumption | with_reducible refine Below.drew ?_ | with_reducible refine below_drewN ?_ _ | with_reducible refine Below.setCell ?_ ?_ _ | with_reducible refine Below.alloc ?_ ?_ _ | omega | (simp; done) | (simp; omega)))) hb9
  replace yaT := aT.size
  replace aO : Below w6.heap.size w6 w9 := stepH (by (repeat' (first | with_reducible exact Below.refl _ _ | with_reducible assumption | with_reducible refine Below.drew ?_ | with_reducible refine below_drewN ?_ _ | with_reducible refine Below.setCell ?_ ?_ _ | with_reducible refine Below.alloc ?_ ?_ _ | omega | (simp; done) | (simp; omega)))) hb9
  replace yaO := aO.size
  replace aD : Below w7.heap.size w7 w9 := stepH (by (repeat' (first | with_reducible exact Below.refl _ _ | with_reducible assumption | with_reducible refine Below.drew ?_ | with_reducible refine below_drewN ?_ _ | with_reducible refine Below.setCell ?_ ?_ _ | with_reducible refine Below.alloc ?_ ?_ _ | omega | (simp; done) | (simp; omega)))) hb9
  replace yaD := aD.size
  replace aL : Below w8.heap.size w8 w9 := stepH (by (repeat' (first | with_reducible exact Below.refl _ _ | with_reducible assumption | with_reducible refine Below.drew ?_ | with_reducible refine below_drewN ?_ _ | with_reducible refine Below.setCell ?_ ?_ _ | with_reducible refine Below.alloc ?_ ?_ _ | omega | (simp; done) | (simp; omega)))) hb9
  replace yaL := aL.size
  obtain ⟨A1, c1, rfl, hq1, _, _⟩ := own_line (fun x _ => encU_len x) hown1
  have Q1 := Lib.hid hq1
  clear hown1 hq1
  replace S := keepH hb9 (blk_old S.out)
  replace T := keepH hb9 (blk_old T.out)
  replace O := keepH hb9 (blk_old O.out)
  replace D := keepH hb9 (blk_old D.out)
  have L := keepH hb9 (g := w8.heap.size) (blk_new rfl)
  have z9 := hw9.size
  clear hb9 hw8 z8
  clear cS lS lS1 lS2 cT lT lT1 lT2 cO lO lO1 lO2 cD lD lD1 lD2
  have cS := cellH S
  obtain ⟨lS, lS1, lS2⟩ := ltH S
  have cT := cellH T
  obtain ⟨lT, lT1, lT2⟩ := ltH T
  have cO := cellH O
  obtain ⟨lO, lO1, lO2⟩ := ltH O
  have cD := cellH D
  obtain ⟨lD, lD1, lD2⟩ := ltH D
  have cL := cellH L
  obtain ⟨lL, lL1, lL2⟩ := ltH L
  have q1 : Below w9.heap.size w9 w9 := Below.refl _ _
  have yq1 := q1.size
  go_wp2_with fail
  refine (makeS_ok rs A1 c1 _ (moved Q1.out (by (repeat' (first | with_reducible exact Below.refl _ _ | with_reducible assumption | with_reducible refine Below.drew ?_ | with_reducible refine below_drewN ?_ _ | with_reducible refine Below.setCell ?_ ?_ _ | with_reducible refine Below.alloc ?_ ?_ _ | omega | (simp; done) | (simp; omega))))) (by omega) CS.out.canon.valid).mono ?_
  rintro e w10 ⟨⟨Ag, cg, rg, rfl, hrg, hAg, hsg⟩, hb10⟩
  have hw10 : Below w.heap.size w w10 := stepH (by (repeat' (first | with_reducible exact Below.refl _ _ | with_reducible assumption | with_reducible refine Below.drew ?_ | with_reducible refine below_drewN ?_ _ | with_reducible refine Below.setCell ?_ ?_ _ | with_reducible refine Below.alloc ?_ ?_ _ | omega | (simp; done) | (simp; omega)))) hb10
  replace aS : Below w2.heap.size w2 w10 := stepH (by (repeat' (first | with_reducible exact Below.refl _ _ | with_reducible assumption | with_reducible refine Below.drew ?_ | with_reducible refine below_drewN ?_ _ | with_reducible refine Below.setCell ?_ ?_ _ | with_reducible refine Below.alloc ?_ ?_ _ | omega | (simp; done) | (simp; omega)))) hb10
  replace yaS := aS.size
  replace aT : Below w3.heap.size w3 w10 := stepH (by (repeat' (first | with_reducible exact Below.refl _ _ | with_reducible assumption | with_reducible refine Below.drew ?_ | with_reducible refine below_drewN ?_ _ | with_reducible refine Below.setCell ?_ ?_ _ | with_reducible refine Below.alloc ?_ ?_ _ | omega | (simp; done) | (simp; omega)))) hb10
  replace yaT := aT.size
  replace aO : Below w6.heap.size w6 w10 := stepH (by (repeat' (first | with_reducible exact Below.refl _ _ | with_reducible assumption | with_reducible refine Below.drew ?_ | with_reducible refine below_drewN ?_ _ | with_reducible refine Below.setCell ?_ ?_ _ | with_reducible refine Below.alloc ?_ ?_ _ | omega | (simp; done) | (simp; omega)))) hb10
  replace yaO := aO.size
  replace aD : Below w7.heap.size w7 w10 := stepH (by (repeat' (first | with_reducible exact Below.refl _ _ | with_reducible assumption | with_reducible refine Below.drew ?_ | with_reducible refine below_drewN ?_ _ | with_reducible refine Below.setCell ?_ ?_ _ | with_reducible refine Below.alloc ?_ ?_ _ | omega | (simp; done) | (simp; omega)))) hb10
  replace yaD := aD.size
  replace aL : Below w8.heap.size w8 w10 := stepH (by (repeat' (first | with_reducible exact Below.refl _ _ | with_reducible assumption | with_reducible refine Below.drew ?_ | with_reducible refine below_drewN ?_ _ | with_reducible refine Below.setCell ?_ ?_ _ | with_reducible refine Below.alloc ?_ ?_ _ | omega | (simp; done) | (simp; omega)))) hb10
  replace yaL := aL.size
  replace q1 : Below w9.heap.size w9 w10 := stepH (by (repeat' (first | with_reducible exact Below.refl _ _ | with_reducible assumption | with_reducible refine Below.drew ?_ | with_reducible refine below_drewN ?_ _ | with_reducible refine Below.setCell ?_ ?_ _ | with_reducible refine Below.alloc ?_ ?_ _ | omega | (simp; done) | (simp; omega)))) hb10
  replace yq1 := q1.size
  obtain rfl := again_set CS.out.canon hsg
  have HG := Lib.hid hrg
  clear hrg hsg
  replace S := keepH hb10 S.out
  replace T := keepH hb10 T.out
  replace O := keepH hb10 O.out
  replace D := keepH hb10 D.out
  replace L := keepH hb10 L.out
  have z10 := hw10.size
  clear hb10 hw9 z9
  clear cS lS lS1 lS2 cT lT lT1 lT2 cO lO lO1 lO2 cD lD lD1 lD2 cL lL lL1 lL2
  have cS := cellH S
  obtain ⟨lS, lS1, lS2⟩ := ltH S
  have cT := cellH T
  obtain ⟨lT, lT1, lT2⟩ := ltH T
  have cO := cellH O
  obtain ⟨lO, lO1, lO2⟩ := ltH O
  have cD := cellH D
  obtain ⟨lD, lD1, lD2⟩ := ltH D
  have cL := cellH L
  obtain ⟨lL, lL1, lL2⟩ := ltH L
  have aG : Below w10.heap.size w10 w10 := Below.refl _ _
  have yaG := aG.size
  go_wp2_with fail
  have hw11 : Below w.heap.size w (w10.alloc (.cells #[.slice Ag rs.length cg] 77)) := by (repeat' (first | with_reducible exact Below.refl _ _ | with_reducible assumption | with_reducible refine Below.drew ?_ | with_reducible refine below_drewN ?_ _ | with_reducible refine Below.setCell ?_ ?_ _ | with_reducible refine Below.alloc ?_ ?_ _ | omega | (simp; done) | (simp; omega)))
  replace aS : Below w2.heap.size w2 (w10.alloc (.cells #[.slice Ag rs.length cg] 77)) := by (repeat' (first | with_reducible exact Below.refl _ _ | with_reducible assumption | with_reducible refine Below.drew ?_ | with_reducible refine below_drewN ?_ _ | with_reducible refine Below.setCell ?_ ?_ _ | with_reducible refine Below.alloc ?_ ?_ _ | omega | (simp; done) | (simp; omega)))
  replace aT : Below w3.heap.size w3 (w10.alloc (.cells #[.slice Ag rs.length cg] 77)) := by (repeat' (first | with_reducible exact Below.refl _ _ | with_reducible assumption | with_reducible refine Below.drew ?_ | with_reducible refine below_drewN ?_ _ | with_reducible refine Below.setCell ?_ ?_ _ | with_reducible refine Below.alloc ?_ ?_ _ | omega | (simp; done) | (simp; omega)))
  replace aO : Below w6.heap.size w6 (w10.alloc (.cells #[.slice Ag rs.length cg] 77)) := by (repeat' (first | with_reducible exact Below.refl _ _ | with_reducible assumption | with_reducible refine Below.drew ?_ | with_reducible refine below_drewN ?_ _ | with_reducible refine Below.setCell ?_ ?_ _ | with_reducible refine Below.alloc ?_ ?_ _ | omega | (simp; done) | (simp; omega)))
  replace aD : Below w7.heap.size w7 (w10.alloc (.cells #[.slice Ag rs.length cg] 77)) := by (repeat' (first | with_reducible exact Below.refl _ _ | with_reducible assumption | with_reducible refine Below.drew ?_ | with_reducible refine below_drewN ?_ _ | with_reducible refine Below.setCell ?_ ?_ _ | with_reducible refine Below.alloc ?_ ?_ _ | omega | (simp; done) | (simp; omega)))
  replace aL : Below w8.heap.size w8 (w10.alloc (.cells #[.slice Ag rs.length cg] 77)) := by (repeat' (first | with_reducible exact Below.refl _ _ | with_reducible assumption | with_reducible refine Below.drew ?_ | with_reducible refine below_drewN ?_ _ | with_reducible refine Below.setCell ?_ ?_ _ | with_reducible refine Below.alloc ?_ ?_ _ | omega | (simp; done) | (simp; omega)))
  replace q1 : Below w9.heap.size w9 (w10.alloc (.cells #[.slice Ag rs.length cg] 77)) := by (repeat' (first | with_reducible exact Below.refl _ _ | with_reducible assumption | with_reducible refine Below.drew ?_ | with_reducible refine below_drewN ?_ _ | with_reducible refine Below.setCell ?_ ?_ _ | with_reducible refine Below.alloc ?_ ?_ _ | omega | (simp; done) | (simp; omega)))
  replace aG : Below w10.heap.size w10 (w10.alloc (.cells #[.slice Ag rs.length cg] 77)) := by (repeat' (first | with_reducible exact Below.refl _ _ | with_reducible assumption | with_reducible refine Below.drew ?_ | with_reducible refine below_drewN ?_ _ | with_reducible refine Below.setCell ?_ ?_ _ | with_reducible refine Below.alloc ?_ ?_ _ | omega | (simp; done) | (simp; omega)))
  replace S : Hid ((w10.alloc (.cells #[.slice Ag rs.length cg] 77)).heap[w2.heap.size]? = some (.cells #[.slice As rs.length cs] 77 (0, 0))) := (blk_old S.out)
  replace T : Hid ((w10.alloc (.cells #[.slice Ag rs.length cg] 77)).heap[w3.heap.size]? = some (.cells #[.slice At rt.length ct] 77 (0, 0))) := (blk_old T.out)
  replace O : Hid ((w10.alloc (.cells #[.slice Ag rs.length cg] 77)).heap[w6.heap.size]? = some (.cells #[.slice Ao ro.length co] 77 (0, 0))) := (blk_old O.out)
  replace D : Hid ((w10.alloc (.cells #[.slice Ag rs.length cg] 77)).heap[w7.heap.size]? = some (.cells #[.slice Ad rd.length cd] 77 (0, 0))) := (blk_old D.out)
  replace L : Hid ((w10.alloc (.cells #[.slice Ag rs.length cg] 77)).heap[w8.heap.size]? = some (.cells #[.slice Al rl.length cl] 77 (0, 0))) := (blk_old L.out)
  have G : Hid ((w10.alloc (.cells #[.slice Ag rs.length cg] 77)).heap[w10.heap.size]? = some (.cells #[.slice Ag rs.length cg] 77 (0, 0))) := (blk_new rfl)
  clear cS lS lS1 lS2 cT lT lT1 lT2 cO lO lO1 lO2 cD lD lD1 lD2 cL lL lL1 lL2
  generalize (w10.alloc (.cells #[.slice Ag rs.length cg] 77)) = w11 at *
  have z11 := hw11.size
  replace yaS := aS.size
  replace yaT := aT.size
  replace yaO := aO.size
  replace yaD := aD.size
  replace yaL := aL.size
  replace yq1 := q1.size
  replace yaG := aG.size
  have cS := cellH S
  obtain ⟨lS, lS1, lS2⟩ := ltH S
  have cT := cellH T
  obtain ⟨lT, lT1, lT2⟩ := ltH T
  have cO := cellH O
  obtain ⟨lO, lO1, lO2⟩ := ltH O
  have cD := cellH D
  obtain ⟨lD, lD1, lD2⟩ := ltH D
  have cL := cellH L
  obtain ⟨lL, lL1, lL2⟩ := ltH L
  have cG := cellH G
  obtain ⟨lG, lG1, lG2⟩ := ltH G
  clear yq1 q1 Q1
  clear cS lS lS1 lS2 cT lT lT1 lT2 cO lO lO1 lO2 cD lD lD1 lD2 cL lL lL1 lL2 cG lG lG1 lG2
  have xS : w11.cell? ⟨w2.heap.size, 0, none⟩ = some (.slice As rs.length cs) := cellH S 0
  have xG : w11.cell? ⟨w10.heap.size, 0, none⟩ = some (.slice Ag rs.length cg) := cellH G 0
  refine wp_region_held_drew (S := fun w' => w'.cell? ⟨w2.heap.size, 0, none⟩ = some (.slice As rs.length cs) ∧ w'.cell? ⟨w10.heap.size, 0, none⟩ = some (.slice Ag rs.length cg)) (by kernel_rfl) ?_ (fun hH0 => ?_)
  · exact ⟨xS, xG⟩
  refine wpAnyH_take (i := 0) (oi := { dst := some 73, op := Go.Op.load 77 (Go.Operand.tmp 17), type := 77, pos := "law.go:148", after := #[], guard := none }) (v := ?_) rfl (by kernel_rfl) (by kernel_rfl) (by kernel_rfl) (fun _ _ _ h => h) (Or.inl ⟨by rfl, ?_⟩) (by assumption) ?_
  rotate_left
  · intro wq hSw; (try dsimp only at hSw); go_simp; (try with_reducible rfl)
  try simp only [Act.put, List.setIfInBounds_toArray, List.set_cons_zero, List.set_cons_succ]
  refine wpAnyH_take (i := 2) (oi := { dst := some 75, op := Go.Op.load 77 (Go.Operand.tmp 8), type := 77, pos := "law.go:148", after := #[], guard := none }) (v := ?_) rfl (by kernel_rfl) (by kernel_rfl) (by kernel_rfl) (fun _ _ _ h => h) (Or.inl ⟨by rfl, ?_⟩) (by assumption) ?_
  rotate_left
  · intro wq hSw; (try dsimp only at hSw); go_simp; (try with_reducible rfl)
  try simp only [Act.put, List.setIfInBounds_toArray, List.set_cons_zero, List.set_cons_succ]
  refine wpAnyH_ready (rs := [1]) (by kernel_rfl) (by simp) ?_
  refine AllReadyH.cons (o := { dst := some 74, op := Go.Op.call { callee := Go.Callee.value (Go.Operand.func 43), args := #[Go.Operand.tmp 73], argTypes := #[77] }, type := 75, pos := "law.go:148", after := #[{ on := 0, ground := Go.Ground.data }], guard := none }) rfl (fun K hK => ?_) ?_
  rotate_left
  · exact AllReadyH.nil
  go_simp
  refine (spansD_any rs Ag cg _ (moved HG.out aG.drew) (by omega) hAg).mono ?_
  rintro e w12 ⟨v2, rfl, hown2, hb12⟩
  have hw12 : Below w.heap.size w w12 := stepH hw11.drew hb12
  have z12 := hw12.size
  replace aS : Below w2.heap.size w2 w12 := stepH aS.drew hb12
  replace yaS := aS.size
  replace aT : Below w3.heap.size w3 w12 := stepH aT.drew hb12
  replace yaT := aT.size
  replace aO : Below w6.heap.size w6 w12 := stepH aO.drew hb12
  replace yaO := aO.size
  replace aD : Below w7.heap.size w7 w12 := stepH aD.drew hb12
  replace yaD := aD.size
  replace aL : Below w8.heap.size w8 w12 := stepH aL.drew hb12
  replace yaL := aL.size
  replace aG : Below w10.heap.size w10 w12 := stepH aG.drew hb12
  replace yaG := aG.size
  replace S := keepH hb12 (drew_old S.out)
  replace T := keepH hb12 (drew_old T.out)
  replace O := keepH hb12 (drew_old O.out)
  replace D := keepH hb12 (drew_old D.out)
  replace L := keepH hb12 (drew_old L.out)
  replace G := keepH hb12 (drew_old G.out)
  replace xS : w12.cell? ⟨w2.heap.size, 0, none⟩ = some (.slice As rs.length cs) := cellOf hb12 (cell_drew xS)
  replace xG : w12.cell? ⟨w10.heap.size, 0, none⟩ = some (.slice Ag rs.length cg) := cellOf hb12 (cell_drew xG)
  obtain ⟨A2, c2, rfl, hq2, _, _⟩ := own_line (fun x _ => encU_len x) hown2
  have Q2 := Lib.hid hq2
  clear hown2 hq2
  have q2 : Below w12.heap.size w12 w12 := Below.refl _ _
  have yq2 := q2.size
  clear hb12
  go_wp2_with fail
  refine hK.out _ _ ?_ (fun hH1 => ?_)
  · (try dsimp only); exact ⟨xS, xG⟩
  clear hK K
  clear hH0
  try simp only [Act.put, List.setIfInBounds_toArray, List.set_cons_zero, List.set_cons_succ]
  refine wpAnyH_ready (rs := [3]) (by kernel_rfl) (by simp) ?_
  refine AllReadyH.cons (o := { dst := some 76, op := Go.Op.call { callee := Go.Callee.value (Go.Operand.func 43), args := #[Go.Operand.tmp 75], argTypes := #[77] }, type := 75, pos := "law.go:148", after := #[{ on := 2, ground := Go.Ground.data }, { on := 1, ground := Go.Ground.chain }], guard := none }) rfl (fun K hK => ?_) ?_
  rotate_left
  · exact AllReadyH.nil
  go_simp
  refine (spansD_any rs As cs _ (moved HS.out aS) (by omega) hAs).mono ?_
  rintro e w13 ⟨v3, rfl, hown3, hb13⟩
  have hw13 : Below w.heap.size w w13 := stepH hw12 hb13
  have z13 := hw13.size
  replace aS : Below w2.heap.size w2 w13 := stepH aS hb13
  replace yaS := aS.size
  replace aT : Below w3.heap.size w3 w13 := stepH aT hb13
  replace yaT := aT.size
  replace aO : Below w6.heap.size w6 w13 := stepH aO hb13
  replace yaO := aO.size
  replace aD : Below w7.heap.size w7 w13 := stepH aD hb13
  replace yaD := aD.size
  replace aL : Below w8.heap.size w8 w13 := stepH aL hb13
  replace yaL := aL.size
  replace aG : Below w10.heap.size w10 w13 := stepH aG hb13
  replace yaG := aG.size
  replace q2 : Below w12.heap.size w12 w13 := stepH q2 hb13
  replace yq2 := q2.size
  replace S := keepH hb13 S.out
  replace T := keepH hb13 T.out
  replace O := keepH hb13 O.out
  replace D := keepH hb13 D.out
  replace L := keepH hb13 L.out
  replace G := keepH hb13 G.out
  replace xS : w13.cell? ⟨w2.heap.size, 0, none⟩ = some (.slice As rs.length cs) := cellOf hb13 xS
  replace xG : w13.cell? ⟨w10.heap.size, 0, none⟩ = some (.slice Ag rs.length cg) := cellOf hb13 xG
  obtain ⟨A3, c3, rfl, hq3, _, _⟩ := own_line (fun x _ => encU_len x) hown3
  have Q3 := Lib.hid hq3
  clear hown3 hq3
  have q3 : Below w13.heap.size w13 w13 := Below.refl _ _
  have yq3 := q3.size
  clear hb13
  go_wp2_with fail
  refine hK.out _ _ ?_ (fun hH2 => ?_)
  · (try dsimp only); exact ⟨xS, xG⟩
  clear hK K
  clear hH1
  try simp only [Act.put, List.setIfInBounds_toArray, List.set_cons_zero, List.set_cons_succ]
  refine wpAnyH_ready (rs := [4]) (by kernel_rfl) (by simp) ?_
  refine AllReadyH.cons (o := { dst := some 77, op := Go.Op.call { callee := Go.Callee.value (Go.Operand.func 53), args := #[Go.Operand.tmp 74, Go.Operand.tmp 76], argTypes := #[75, 75] }, type := 4, pos := "law.go:148", after := #[{ on := 1, ground := Go.Ground.data }, { on := 3, ground := Go.Ground.data }, { on := 3, ground := Go.Ground.chain }], guard := none }) rfl (fun K hK => ?_) ?_
  rotate_left
  · exact AllReadyH.nil
  go_simp
  refine (sameSpans_yes rs rs.length A2 A3 c2 c3 _ rfl (moved Q2.out q2) (moved Q3.out q3) (by omega)).mono ?_
  rintro e w14 ⟨rfl, hb14⟩
  have hw14 : Below w.heap.size w w14 := stepH hw13 hb14
  have z14 := hw14.size
  replace aS : Below w2.heap.size w2 w14 := stepH aS hb14
  replace yaS := aS.size
  replace aT : Below w3.heap.size w3 w14 := stepH aT hb14
  replace yaT := aT.size
  replace aO : Below w6.heap.size w6 w14 := stepH aO hb14
  replace yaO := aO.size
  replace aD : Below w7.heap.size w7 w14 := stepH aD hb14
  replace yaD := aD.size
  replace aL : Below w8.heap.size w8 w14 := stepH aL hb14
  replace yaL := aL.size
  replace aG : Below w10.heap.size w10 w14 := stepH aG hb14
  replace yaG := aG.size
  replace q2 : Below w12.heap.size w12 w14 := stepH q2 hb14
  replace yq2 := q2.size
  replace q3 : Below w13.heap.size w13 w14 := stepH q3 hb14
  replace yq3 := q3.size
  replace S := keepH hb14 S.out
  replace T := keepH hb14 T.out
  replace O := keepH hb14 O.out
  replace D := keepH hb14 D.out
  replace L := keepH hb14 L.out
  replace G := keepH hb14 G.out
  replace xS : w14.cell? ⟨w2.heap.size, 0, none⟩ = some (.slice As rs.length cs) := cellOf hb14 xS
  replace xG : w14.cell? ⟨w10.heap.size, 0, none⟩ = some (.slice Ag rs.length cg) := cellOf hb14 xG
  clear hb14
  go_wp2_with fail
  refine hK.out _ _ ?_ (fun hH3 => ?_)
  · (try dsimp only); exact ⟨xS, xG⟩
  clear hK K
  clear hH2
  try simp only [Act.put, List.setIfInBounds_toArray, List.set_cons_zero, List.set_cons_succ]
  refine wpAnyH_take (i := 5) (oi := { dst := some 19, op := Go.Op.assign (Go.Operand.tmp 77), type := 4, pos := "law.go:148", after := #[{ on := 4, ground := Go.Ground.data }, { on := 4, ground := Go.Ground.chain }, { on := 0, ground := Go.Ground.phase }, { on := 1, ground := Go.Ground.phase }, { on := 2, ground := Go.Ground.phase }, { on := 3, ground := Go.Ground.phase }, { on := 4, ground := Go.Ground.phase }], guard := none }) (v := ?_) rfl (by kernel_rfl) (by kernel_rfl) (by kernel_rfl) (fun _ _ _ h => h) (Or.inl ⟨by rfl, ?_⟩) (by assumption) ?_
  rotate_left
  · intro wq hSw; (try dsimp only at hSw); go_simp; (try with_reducible rfl)
  try simp only [Act.put, List.setIfInBounds_toArray, List.set_cons_zero, List.set_cons_succ]
  refine wpAnyH_done (by kernel_rfl) ?_ _
  clear xS xG
  clear yq2 q2 Q2 yq3 q3 Q3
  have xS : w14.cell? ⟨w2.heap.size, 0, none⟩ = some (.slice As rs.length cs) := cellH S 0
  have xT : w14.cell? ⟨w3.heap.size, 0, none⟩ = some (.slice At rt.length ct) := cellH T 0
  have xO : w14.cell? ⟨w6.heap.size, 0, none⟩ = some (.slice Ao ro.length co) := cellH O 0
  go_wp2_with fail
  refine wp_region_held_drew (S := fun w' => w'.cell? ⟨w2.heap.size, 0, none⟩ = some (.slice As rs.length cs) ∧ w'.cell? ⟨w3.heap.size, 0, none⟩ = some (.slice At rt.length ct) ∧ w'.cell? ⟨w6.heap.size, 0, none⟩ = some (.slice Ao ro.length co)) (by kernel_rfl) ?_ (fun hH0 => ?_)
  · exact ⟨xS, xT, xO⟩
  refine wpAnyH_take (i := 0) (oi := { dst := some 78, op := Go.Op.load 77 (Go.Operand.tmp 10), type := 77, pos := "law.go:149", after := #[], guard := none }) (v := ?_) rfl (by kernel_rfl) (by kernel_rfl) (by kernel_rfl) (fun _ _ _ h => h) (Or.inl ⟨by rfl, ?_⟩) (by assumption) ?_
  rotate_left
  · intro wq hSw; (try dsimp only at hSw); go_simp; (try with_reducible rfl)
  try simp only [Act.put, List.setIfInBounds_toArray, List.set_cons_zero, List.set_cons_succ]
  refine wpAnyH_take (i := 1) (oi := { dst := some 79, op := Go.Op.load 77 (Go.Operand.tmp 8), type := 77, pos := "law.go:149", after := #[], guard := none }) (v := ?_) rfl (by kernel_rfl) (by kernel_rfl) (by kernel_rfl) (fun _ _ _ h => h) (Or.inl ⟨by rfl, ?_⟩) (by assumption) ?_
  rotate_left
  · intro wq hSw; (try dsimp only at hSw); go_simp; (try with_reducible rfl)
  try simp only [Act.put, List.setIfInBounds_toArray, List.set_cons_zero, List.set_cons_succ]
  refine wpAnyH_take (i := 4) (oi := { dst := some 82, op := Go.Op.load 77 (Go.Operand.tmp 14), type := 77, pos := "law.go:149", after := #[], guard := none }) (v := ?_) rfl (by kernel_rfl) (by kernel_rfl) (by kernel_rfl) (fun _ _ _ h => h) (Or.inl ⟨by rfl, ?_⟩) (by assumption) ?_
  rotate_left
  · intro wq hSw; (try dsimp only at hSw); go_simp; (try with_reducible rfl)
  try simp only [Act.put, List.setIfInBounds_toArray, List.set_cons_zero, List.set_cons_succ]
  refine wpAnyH_ready (rs := [2]) (by kernel_rfl) (by simp) ?_
  refine AllReadyH.cons (o := { dst := some 80, op := Go.Op.call { callee := Go.Callee.value (Go.Operand.func 65), args := #[Go.Operand.tmp 78, Go.Operand.tmp 79], argTypes := #[77, 77] }, type := 77, pos := "law.go:149", after := #[{ on := 0, ground := Go.Ground.data }, { on := 1, ground := Go.Ground.data }], guard := none }) rfl (fun K hK => ?_) ?_
  rotate_left
  · exact AllReadyH.nil
  go_simp
  refine (or_any rt rs At As ct cs _ (moved HT.out aT.drew) (moved HS.out aS.drew) (by omega) (by omega) hAt hAs CT.out.canon CS.out.canon).mono ?_
  rintro e w15 ⟨⟨Ap, cp, rp, rfl, hrp, hAp, hsp⟩, hb15⟩
  have hw15 : Below w.heap.size w w15 := stepH hw14.drew hb15
  have z15 := hw15.size
  replace aS : Below w2.heap.size w2 w15 := stepH aS.drew hb15
  replace yaS := aS.size
  replace aT : Below w3.heap.size w3 w15 := stepH aT.drew hb15
  replace yaT := aT.size
  replace aO : Below w6.heap.size w6 w15 := stepH aO.drew hb15
  replace yaO := aO.size
  replace aD : Below w7.heap.size w7 w15 := stepH aD.drew hb15
  replace yaD := aD.size
  replace aL : Below w8.heap.size w8 w15 := stepH aL.drew hb15
  replace yaL := aL.size
  replace aG : Below w10.heap.size w10 w15 := stepH aG.drew hb15
  replace yaG := aG.size
  replace S := keepH hb15 (drew_old S.out)
  replace T := keepH hb15 (drew_old T.out)
  replace O := keepH hb15 (drew_old O.out)
  replace D := keepH hb15 (drew_old D.out)
  replace L := keepH hb15 (drew_old L.out)
  replace G := keepH hb15 (drew_old G.out)
  replace xS : w15.cell? ⟨w2.heap.size, 0, none⟩ = some (.slice As rs.length cs) := cellOf hb15 (cell_drew xS)
  replace xT : w15.cell? ⟨w3.heap.size, 0, none⟩ = some (.slice At rt.length ct) := cellOf hb15 (cell_drew xT)
  replace xO : w15.cell? ⟨w6.heap.size, 0, none⟩ = some (.slice Ao ro.length co) := cellOf hb15 (cell_drew xO)
  obtain rfl := or_comm_set CO.out hsp
  have HP := Lib.hid hrp
  clear hrp hsp
  have aP : Below w15.heap.size w15 w15 := Below.refl _ _
  have yaP := aP.size
  clear hb15
  go_wp2_with fail
  refine hK.out _ _ ?_ (fun hH1 => ?_)
  · (try dsimp only); exact ⟨xS, xT, xO⟩
  clear hK K
  clear hH0
  try simp only [Act.put, List.setIfInBounds_toArray, List.set_cons_zero, List.set_cons_succ]
  refine wpAnyH_ready (rs := [3]) (by kernel_rfl) (by simp) ?_
  refine AllReadyH.cons (o := { dst := some 81, op := Go.Op.call { callee := Go.Callee.value (Go.Operand.func 43), args := #[Go.Operand.tmp 80], argTypes := #[77] }, type := 75, pos := "law.go:149", after := #[{ on := 2, ground := Go.Ground.data }, { on := 2, ground := Go.Ground.chain }], guard := none }) rfl (fun K hK => ?_) ?_
  rotate_left
  · exact AllReadyH.nil
  go_simp
  refine (spansD_any ro Ap cp _ (moved HP.out aP) (by omega) hAp).mono ?_
  rintro e w16 ⟨v4, rfl, hown4, hb16⟩
  have hw16 : Below w.heap.size w w16 := stepH hw15 hb16
  have z16 := hw16.size
  replace aS : Below w2.heap.size w2 w16 := stepH aS hb16
  replace yaS := aS.size
  replace aT : Below w3.heap.size w3 w16 := stepH aT hb16
  replace yaT := aT.size
  replace aO : Below w6.heap.size w6 w16 := stepH aO hb16
  replace yaO := aO.size
  replace aD : Below w7.heap.size w7 w16 := stepH aD hb16
  replace yaD := aD.size
  replace aL : Below w8.heap.size w8 w16 := stepH aL hb16
  replace yaL := aL.size
  replace aG : Below w10.heap.size w10 w16 := stepH aG hb16
  replace yaG := aG.size
  replace aP : Below w15.heap.size w15 w16 := stepH aP hb16
  replace yaP := aP.size
  replace S := keepH hb16 S.out
  replace T := keepH hb16 T.out
  replace O := keepH hb16 O.out
  replace D := keepH hb16 D.out
  replace L := keepH hb16 L.out
  replace G := keepH hb16 G.out
  replace xS : w16.cell? ⟨w2.heap.size, 0, none⟩ = some (.slice As rs.length cs) := cellOf hb16 xS
  replace xT : w16.cell? ⟨w3.heap.size, 0, none⟩ = some (.slice At rt.length ct) := cellOf hb16 xT
  replace xO : w16.cell? ⟨w6.heap.size, 0, none⟩ = some (.slice Ao ro.length co) := cellOf hb16 xO
  obtain ⟨A4, c4, rfl, hq4, _, _⟩ := own_line (fun x _ => encU_len x) hown4
  have Q4 := Lib.hid hq4
  clear hown4 hq4
  have q4 : Below w16.heap.size w16 w16 := Below.refl _ _
  have yq4 := q4.size
  clear hb16
  go_wp2_with fail
  refine hK.out _ _ ?_ (fun hH2 => ?_)
  · (try dsimp only); exact ⟨xS, xT, xO⟩
  clear hK K
  clear hH1
  try simp only [Act.put, List.setIfInBounds_toArray, List.set_cons_zero, List.set_cons_succ]
  refine wpAnyH_ready (rs := [5]) (by kernel_rfl) (by simp) ?_
  refine AllReadyH.cons (o := { dst := some 83, op := Go.Op.call { callee := Go.Callee.value (Go.Operand.func 43), args := #[Go.Operand.tmp 82], argTypes := #[77] }, type := 75, pos := "law.go:149", after := #[{ on := 4, ground := Go.Ground.data }, { on := 3, ground := Go.Ground.chain }], guard := none }) rfl (fun K hK => ?_) ?_
  rotate_left
  · exact AllReadyH.nil
  go_simp
  refine (spansD_any ro Ao co _ (moved HO.out aO) (by omega) hAo).mono ?_
  rintro e w17 ⟨v5, rfl, hown5, hb17⟩
  have hw17 : Below w.heap.size w w17 := stepH hw16 hb17
  have z17 := hw17.size
  replace aS : Below w2.heap.size w2 w17 := stepH aS hb17
  replace yaS := aS.size
  replace aT : Below w3.heap.size w3 w17 := stepH aT hb17
  replace yaT := aT.size
  replace aO : Below w6.heap.size w6 w17 := stepH aO hb17
  replace yaO := aO.size
  replace aD : Below w7.heap.size w7 w17 := stepH aD hb17
  replace yaD := aD.size
  replace aL : Below w8.heap.size w8 w17 := stepH aL hb17
  replace yaL := aL.size
  replace aG : Below w10.heap.size w10 w17 := stepH aG hb17
  replace yaG := aG.size
  replace aP : Below w15.heap.size w15 w17 := stepH aP hb17
  replace yaP := aP.size
  replace q4 : Below w16.heap.size w16 w17 := stepH q4 hb17
  replace yq4 := q4.size
  replace S := keepH hb17 S.out
  replace T := keepH hb17 T.out
  replace O := keepH hb17 O.out
  replace D := keepH hb17 D.out
  replace L := keepH hb17 L.out
  replace G := keepH hb17 G.out
  replace xS : w17.cell? ⟨w2.heap.size, 0, none⟩ = some (.slice As rs.length cs) := cellOf hb17 xS
  replace xT : w17.cell? ⟨w3.heap.size, 0, none⟩ = some (.slice At rt.length ct) := cellOf hb17 xT
  replace xO : w17.cell? ⟨w6.heap.size, 0, none⟩ = some (.slice Ao ro.length co) := cellOf hb17 xO
  obtain ⟨A5, c5, rfl, hq5, _, _⟩ := own_line (fun x _ => encU_len x) hown5
  have Q5 := Lib.hid hq5
  clear hown5 hq5
  have q5 : Below w17.heap.size w17 w17 := Below.refl _ _
  have yq5 := q5.size
  clear hb17
  go_wp2_with fail
  refine hK.out _ _ ?_ (fun hH3 => ?_)
  · (try dsimp only); exact ⟨xS, xT, xO⟩
  clear hK K
  clear hH2
  try simp only [Act.put, List.setIfInBounds_toArray, List.set_cons_zero, List.set_cons_succ]
  refine wpAnyH_ready (rs := [6]) (by kernel_rfl) (by simp) ?_
  refine AllReadyH.cons (o := { dst := some 84, op := Go.Op.call { callee := Go.Callee.value (Go.Operand.func 53), args := #[Go.Operand.tmp 81, Go.Operand.tmp 83], argTypes := #[75, 75] }, type := 4, pos := "law.go:149", after := #[{ on := 3, ground := Go.Ground.data }, { on := 5, ground := Go.Ground.data }, { on := 5, ground := Go.Ground.chain }], guard := none }) rfl (fun K hK => ?_) ?_
  rotate_left
  · exact AllReadyH.nil
  go_simp
  refine (sameSpans_yes ro ro.length A4 A5 c4 c5 _ rfl (moved Q4.out q4) (moved Q5.out q5) (by omega)).mono ?_
  rintro e w18 ⟨rfl, hb18⟩
  have hw18 : Below w.heap.size w w18 := stepH hw17 hb18
  have z18 := hw18.size
  replace aS : Below w2.heap.size w2 w18 := stepH aS hb18
  replace yaS := aS.size
  replace aT : Below w3.heap.size w3 w18 := stepH aT hb18
  replace yaT := aT.size
  replace aO : Below w6.heap.size w6 w18 := stepH aO hb18
  replace yaO := aO.size
  replace aD : Below w7.heap.size w7 w18 := stepH aD hb18
  replace yaD := aD.size
  replace aL : Below w8.heap.size w8 w18 := stepH aL hb18
  replace yaL := aL.size
  replace aG : Below w10.heap.size w10 w18 := stepH aG hb18
  replace yaG := aG.size
  replace aP : Below w15.heap.size w15 w18 := stepH aP hb18
  replace yaP := aP.size
  replace q4 : Below w16.heap.size w16 w18 := stepH q4 hb18
  replace yq4 := q4.size
  replace q5 : Below w17.heap.size w17 w18 := stepH q5 hb18
  replace yq5 := q5.size
  replace S := keepH hb18 S.out
  replace T := keepH hb18 T.out
  replace O := keepH hb18 O.out
  replace D := keepH hb18 D.out
  replace L := keepH hb18 L.out
  replace G := keepH hb18 G.out
  replace xS : w18.cell? ⟨w2.heap.size, 0, none⟩ = some (.slice As rs.length cs) := cellOf hb18 xS
  replace xT : w18.cell? ⟨w3.heap.size, 0, none⟩ = some (.slice At rt.length ct) := cellOf hb18 xT
  replace xO : w18.cell? ⟨w6.heap.size, 0, none⟩ = some (.slice Ao ro.length co) := cellOf hb18 xO
  clear hb18
  go_wp2_with fail
  refine hK.out _ _ ?_ (fun hH4 => ?_)
  · (try dsimp only); exact ⟨xS, xT, xO⟩
  clear hK K
  clear hH3
  try simp only [Act.put, List.setIfInBounds_toArray, List.set_cons_zero, List.set_cons_succ]
  refine wpAnyH_take (i := 7) (oi := { dst := some 20, op := Go.Op.assign (Go.Operand.tmp 84), type := 4, pos := "law.go:149", after := #[{ on := 6, ground := Go.Ground.data }, { on := 6, ground := Go.Ground.chain }, { on := 0, ground := Go.Ground.phase }, { on := 1, ground := Go.Ground.phase }, { on := 2, ground := Go.Ground.phase }, { on := 3, ground := Go.Ground.phase }, { on := 4, ground := Go.Ground.phase }, { on := 5, ground := Go.Ground.phase }, { on := 6, ground := Go.Ground.phase }], guard := none }) (v := ?_) rfl (by kernel_rfl) (by kernel_rfl) (by kernel_rfl) (fun _ _ _ h => h) (Or.inl ⟨by rfl, ?_⟩) (by assumption) ?_
  rotate_left
  · intro wq hSw; (try dsimp only at hSw); go_simp; (try with_reducible rfl)
  try simp only [Act.put, List.setIfInBounds_toArray, List.set_cons_zero, List.set_cons_succ]
  refine wpAnyH_done (by kernel_rfl) ?_ _
  clear xS xT xO
  clear yq4 q4 Q4 yq5 q5 Q5
  clear yaP aP HP
  have xS : w18.cell? ⟨w2.heap.size, 0, none⟩ = some (.slice As rs.length cs) := cellH S 0
  have xD : w18.cell? ⟨w7.heap.size, 0, none⟩ = some (.slice Ad rd.length cd) := cellH D 0
  have xL : w18.cell? ⟨w8.heap.size, 0, none⟩ = some (.slice Al rl.length cl) := cellH L 0
  go_wp2_with fail
  refine wp_region_held_drew (S := fun w' => w'.cell? ⟨w2.heap.size, 0, none⟩ = some (.slice As rs.length cs) ∧ w'.cell? ⟨w7.heap.size, 0, none⟩ = some (.slice Ad rd.length cd) ∧ w'.cell? ⟨w8.heap.size, 0, none⟩ = some (.slice Al rl.length cl)) (by kernel_rfl) ?_ (fun hH0 => ?_)
  · exact ⟨xS, xD, xL⟩
  refine wpAnyH_take (i := 0) (oi := { dst := some 85, op := Go.Op.load 77 (Go.Operand.tmp 16), type := 77, pos := "law.go:150", after := #[], guard := none }) (v := ?_) rfl (by kernel_rfl) (by kernel_rfl) (by kernel_rfl) (fun _ _ _ h => h) (Or.inl ⟨by rfl, ?_⟩) (by assumption) ?_
  rotate_left
  · intro wq hSw; (try dsimp only at hSw); go_simp; (try with_reducible rfl)
  try simp only [Act.put, List.setIfInBounds_toArray, List.set_cons_zero, List.set_cons_succ]
  refine wpAnyH_take (i := 1) (oi := { dst := some 86, op := Go.Op.load 77 (Go.Operand.tmp 15), type := 77, pos := "law.go:150", after := #[], guard := none }) (v := ?_) rfl (by kernel_rfl) (by kernel_rfl) (by kernel_rfl) (fun _ _ _ h => h) (Or.inl ⟨by rfl, ?_⟩) (by assumption) ?_
  rotate_left
  · intro wq hSw; (try dsimp only at hSw); go_simp; (try with_reducible rfl)
  try simp only [Act.put, List.setIfInBounds_toArray, List.set_cons_zero, List.set_cons_succ]
  refine wpAnyH_take (i := 4) (oi := { dst := some 89, op := Go.Op.load 77 (Go.Operand.tmp 8), type := 77, pos := "law.go:150", after := #[], guard := none }) (v := ?_) rfl (by kernel_rfl) (by kernel_rfl) (by kernel_rfl) (fun _ _ _ h => h) (Or.inl ⟨by rfl, ?_⟩) (by assumption) ?_
  rotate_left
  · intro wq hSw; (try dsimp only at hSw); go_simp; (try with_reducible rfl)
  try simp only [Act.put, List.setIfInBounds_toArray, List.set_cons_zero, List.set_cons_succ]
  refine wpAnyH_ready (rs := [2]) (by kernel_rfl) (by simp) ?_
  refine AllReadyH.cons (o := { dst := some 87, op := Go.Op.call { callee := Go.Callee.value (Go.Operand.func 65), args := #[Go.Operand.tmp 85, Go.Operand.tmp 86], argTypes := #[77, 77] }, type := 77, pos := "law.go:150", after := #[{ on := 0, ground := Go.Ground.data }, { on := 1, ground := Go.Ground.data }], guard := none }) rfl (fun K hK => ?_) ?_
  rotate_left
  · exact AllReadyH.nil
  go_simp
  refine (or_any rl rd Al Ad cl cd _ (moved HL.out aL.drew) (moved HD.out aD.drew) (by omega) (by omega) hAl hAd CL.out.canon CD.out.canon).mono ?_
  rintro e w19 ⟨⟨Ap, cp, rp, rfl, hrp, hAp, hsp⟩, hb19⟩
  have hw19 : Below w.heap.size w w19 := stepH hw18.drew hb19
  have z19 := hw19.size
  replace aS : Below w2.heap.size w2 w19 := stepH aS.drew hb19
  replace yaS := aS.size
  replace aT : Below w3.heap.size w3 w19 := stepH aT.drew hb19
  replace yaT := aT.size
  replace aO : Below w6.heap.size w6 w19 := stepH aO.drew hb19
  replace yaO := aO.size
  replace aD : Below w7.heap.size w7 w19 := stepH aD.drew hb19
  replace yaD := aD.size
  replace aL : Below w8.heap.size w8 w19 := stepH aL.drew hb19
  replace yaL := aL.size
  replace aG : Below w10.heap.size w10 w19 := stepH aG.drew hb19
  replace yaG := aG.size
  replace S := keepH hb19 (drew_old S.out)
  replace T := keepH hb19 (drew_old T.out)
  replace O := keepH hb19 (drew_old O.out)
  replace D := keepH hb19 (drew_old D.out)
  replace L := keepH hb19 (drew_old L.out)
  replace G := keepH hb19 (drew_old G.out)
  replace xS : w19.cell? ⟨w2.heap.size, 0, none⟩ = some (.slice As rs.length cs) := cellOf hb19 (cell_drew xS)
  replace xD : w19.cell? ⟨w7.heap.size, 0, none⟩ = some (.slice Ad rd.length cd) := cellOf hb19 (cell_drew xD)
  replace xL : w19.cell? ⟨w8.heap.size, 0, none⟩ = some (.slice Al rl.length cl) := cellOf hb19 (cell_drew xL)
  obtain rfl := rest_set CS.out.canon CT.out.canon CD.out CL.out hsp
  have HP := Lib.hid hrp
  clear hrp hsp
  have aP : Below w19.heap.size w19 w19 := Below.refl _ _
  have yaP := aP.size
  clear hb19
  go_wp2_with fail
  refine hK.out _ _ ?_ (fun hH1 => ?_)
  · (try dsimp only); exact ⟨xS, xD, xL⟩
  clear hK K
  clear hH0
  try simp only [Act.put, List.setIfInBounds_toArray, List.set_cons_zero, List.set_cons_succ]
  refine wpAnyH_ready (rs := [3]) (by kernel_rfl) (by simp) ?_
  refine AllReadyH.cons (o := { dst := some 88, op := Go.Op.call { callee := Go.Callee.value (Go.Operand.func 43), args := #[Go.Operand.tmp 87], argTypes := #[77] }, type := 75, pos := "law.go:150", after := #[{ on := 2, ground := Go.Ground.data }, { on := 2, ground := Go.Ground.chain }], guard := none }) rfl (fun K hK => ?_) ?_
  rotate_left
  · exact AllReadyH.nil
  go_simp
  refine (spansD_any rs Ap cp _ (moved HP.out aP) (by omega) hAp).mono ?_
  rintro e w20 ⟨v4, rfl, hown4, hb20⟩
  have hw20 : Below w.heap.size w w20 := stepH hw19 hb20
  have z20 := hw20.size
  replace aS : Below w2.heap.size w2 w20 := stepH aS hb20
  replace yaS := aS.size
  replace aT : Below w3.heap.size w3 w20 := stepH aT hb20
  replace yaT := aT.size
  replace aO : Below w6.heap.size w6 w20 := stepH aO hb20
  replace yaO := aO.size
  replace aD : Below w7.heap.size w7 w20 := stepH aD hb20
  replace yaD := aD.size
  replace aL : Below w8.heap.size w8 w20 := stepH aL hb20
  replace yaL := aL.size
  replace aG : Below w10.heap.size w10 w20 := stepH aG hb20
  replace yaG := aG.size
  replace aP : Below w19.heap.size w19 w20 := stepH aP hb20
  replace yaP := aP.size
  replace S := keepH hb20 S.out
  replace T := keepH hb20 T.out
  replace O := keepH hb20 O.out
  replace D := keepH hb20 D.out
  replace L := keepH hb20 L.out
  replace G := keepH hb20 G.out
  replace xS : w20.cell? ⟨w2.heap.size, 0, none⟩ = some (.slice As rs.length cs) := cellOf hb20 xS
  replace xD : w20.cell? ⟨w7.heap.size, 0, none⟩ = some (.slice Ad rd.length cd) := cellOf hb20 xD
  replace xL : w20.cell? ⟨w8.heap.size, 0, none⟩ = some (.slice Al rl.length cl) := cellOf hb20 xL
  obtain ⟨A4, c4, rfl, hq4, _, _⟩ := own_line (fun x _ => encU_len x) hown4
  have Q4 := Lib.hid hq4
  clear hown4 hq4
  have q4 : Below w20.heap.size w20 w20 := Below.refl _ _
  have yq4 := q4.size
  clear hb20
  go_wp2_with fail
  refine hK.out _ _ ?_ (fun hH2 => ?_)
  · (try dsimp only); exact ⟨xS, xD, xL⟩
  clear hK K
  clear hH1
  try simp only [Act.put, List.setIfInBounds_toArray, List.set_cons_zero, List.set_cons_succ]
  refine wpAnyH_ready (rs := [5]) (by kernel_rfl) (by simp) ?_
  refine AllReadyH.cons (o := { dst := some 90, op := Go.Op.call { callee := Go.Callee.value (Go.Operand.func 43), args := #[Go.Operand.tmp 89], argTypes := #[77] }, type := 75, pos := "law.go:150", after := #[{ on := 4, ground := Go.Ground.data }, { on := 3, ground := Go.Ground.chain }], guard := none }) rfl (fun K hK => ?_) ?_
  rotate_left
  · exact AllReadyH.nil
  go_simp
  refine (spansD_any rs As cs _ (moved HS.out aS) (by omega) hAs).mono ?_
  rintro e w21 ⟨v5, rfl, hown5, hb21⟩
  have hw21 : Below w.heap.size w w21 := stepH hw20 hb21
  have z21 := hw21.size
  replace aS : Below w2.heap.size w2 w21 := stepH aS hb21
  replace yaS := aS.size
  replace aT : Below w3.heap.size w3 w21 := stepH aT hb21
  replace yaT := aT.size
  replace aO : Below w6.heap.size w6 w21 := stepH aO hb21
  replace yaO := aO.size
  replace aD : Below w7.heap.size w7 w21 := stepH aD hb21
  replace yaD := aD.size
  replace aL : Below w8.heap.size w8 w21 := stepH aL hb21
  replace yaL := aL.size
  replace aG : Below w10.heap.size w10 w21 := stepH aG hb21
  replace yaG := aG.size
  replace aP : Below w19.heap.size w19 w21 := stepH aP hb21
  replace yaP := aP.size
  replace q4 : Below w20.heap.size w20 w21 := stepH q4 hb21
  replace yq4 := q4.size
  replace S := keepH hb21 S.out
  replace T := keepH hb21 T.out
  replace O := keepH hb21 O.out
  replace D := keepH hb21 D.out
  replace L := keepH hb21 L.out
  replace G := keepH hb21 G.out
  replace xS : w21.cell? ⟨w2.heap.size, 0, none⟩ = some (.slice As rs.length cs) := cellOf hb21 xS
  replace xD : w21.cell? ⟨w7.heap.size, 0, none⟩ = some (.slice Ad rd.length cd) := cellOf hb21 xD
  replace xL : w21.cell? ⟨w8.heap.size, 0, none⟩ = some (.slice Al rl.length cl) := cellOf hb21 xL
  obtain ⟨A5, c5, rfl, hq5, _, _⟩ := own_line (fun x _ => encU_len x) hown5
  have Q5 := Lib.hid hq5
  clear hown5 hq5
  have q5 : Below w21.heap.size w21 w21 := Below.refl _ _
  have yq5 := q5.size
  clear hb21
  go_wp2_with fail
  refine hK.out _ _ ?_ (fun hH3 => ?_)
  · (try dsimp only); exact ⟨xS, xD, xL⟩
  clear hK K
  clear hH2
  try simp only [Act.put, List.setIfInBounds_toArray, List.set_cons_zero, List.set_cons_succ]
  refine wpAnyH_ready (rs := [6]) (by kernel_rfl) (by simp) ?_
  refine AllReadyH.cons (o := { dst := some 91, op := Go.Op.call { callee := Go.Callee.value (Go.Operand.func 53), args := #[Go.Operand.tmp 88, Go.Operand.tmp 90], argTypes := #[75, 75] }, type := 4, pos := "law.go:150", after := #[{ on := 3, ground := Go.Ground.data }, { on := 5, ground := Go.Ground.data }, { on := 5, ground := Go.Ground.chain }], guard := none }) rfl (fun K hK => ?_) ?_
  rotate_left
  · exact AllReadyH.nil
  go_simp
  refine (sameSpans_yes rs rs.length A4 A5 c4 c5 _ rfl (moved Q4.out q4) (moved Q5.out q5) (by omega)).mono ?_
  rintro e w22 ⟨rfl, hb22⟩
  have hw22 : Below w.heap.size w w22 := stepH hw21 hb22
  have z22 := hw22.size
  replace aS : Below w2.heap.size w2 w22 := stepH aS hb22
  replace yaS := aS.size
  replace aT : Below w3.heap.size w3 w22 := stepH aT hb22
  replace yaT := aT.size
  replace aO : Below w6.heap.size w6 w22 := stepH aO hb22
  replace yaO := aO.size
  replace aD : Below w7.heap.size w7 w22 := stepH aD hb22
  replace yaD := aD.size
  replace aL : Below w8.heap.size w8 w22 := stepH aL hb22
  replace yaL := aL.size
  replace aG : Below w10.heap.size w10 w22 := stepH aG hb22
  replace yaG := aG.size
  replace aP : Below w19.heap.size w19 w22 := stepH aP hb22
  replace yaP := aP.size
  replace q4 : Below w20.heap.size w20 w22 := stepH q4 hb22
  replace yq4 := q4.size
  replace q5 : Below w21.heap.size w21 w22 := stepH q5 hb22
  replace yq5 := q5.size
  replace S := keepH hb22 S.out
  replace T := keepH hb22 T.out
  replace O := keepH hb22 O.out
  replace D := keepH hb22 D.out
  replace L := keepH hb22 L.out
  replace G := keepH hb22 G.out
  replace xS : w22.cell? ⟨w2.heap.size, 0, none⟩ = some (.slice As rs.length cs) := cellOf hb22 xS
  replace xD : w22.cell? ⟨w7.heap.size, 0, none⟩ = some (.slice Ad rd.length cd) := cellOf hb22 xD
  replace xL : w22.cell? ⟨w8.heap.size, 0, none⟩ = some (.slice Al rl.length cl) := cellOf hb22 xL
  clear hb22
  go_wp2_with fail
  refine hK.out _ _ ?_ (fun hH4 => ?_)
  · (try dsimp only); exact ⟨xS, xD, xL⟩
  clear hK K
  clear hH3
  try simp only [Act.put, List.setIfInBounds_toArray, List.set_cons_zero, List.set_cons_succ]
  refine wpAnyH_take (i := 7) (oi := { dst := some 21, op := Go.Op.assign (Go.Operand.tmp 91), type := 4, pos := "law.go:150", after := #[{ on := 6, ground := Go.Ground.data }, { on := 6, ground := Go.Ground.chain }, { on := 0, ground := Go.Ground.phase }, { on := 1, ground := Go.Ground.phase }, { on := 2, ground := Go.Ground.phase }, { on := 3, ground := Go.Ground.phase }, { on := 4, ground := Go.Ground.phase }, { on := 5, ground := Go.Ground.phase }, { on := 6, ground := Go.Ground.phase }], guard := none }) (v := ?_) rfl (by kernel_rfl) (by kernel_rfl) (by kernel_rfl) (fun _ _ _ h => h) (Or.inl ⟨by rfl, ?_⟩) (by assumption) ?_
  rotate_left
  · intro wq hSw; (try dsimp only at hSw); go_simp; (try with_reducible rfl)
  try simp only [Act.put, List.setIfInBounds_toArray, List.set_cons_zero, List.set_cons_succ]
  refine wpAnyH_done (by kernel_rfl) ?_ _
  clear xS xD xL
  clear yq4 q4 Q4 yq5 q5 Q5
  clear yaP aP HP
  have hox := or_has CO.out n
  have hdx := and_has CD.out n
  have hlx := less_has CT.out.canon CL.out n
  rw [HX.out, HY.out] at hox hdx hlx
  have hln := len_law CS.out.canon CT.out.canon CO.out CD.out
  have b1 := lenS_bounds CS.out.canon.rise CS.out.canon.upTo (by decide)
  have b2 := lenS_bounds CT.out.canon.rise CT.out.canon.upTo (by decide)
  have b3 := lenS_bounds CO.out.canon.rise CO.out.canon.upTo (by decide)
  have b4 := lenS_bounds CD.out.canon.rise CD.out.canon.upTo (by decide)
  dsimp only [MD] at b1 b2 b3 b4
  obtain ⟨n1, hn1⟩ : ∃ x, lenS rs = x := ⟨_, rfl⟩
  obtain ⟨n2, hn2⟩ : ∃ x, lenS rt = x := ⟨_, rfl⟩
  obtain ⟨n3, hn3⟩ : ∃ x, lenS ro = x := ⟨_, rfl⟩
  obtain ⟨n4, hn4⟩ : ∃ x, lenS rd = x := ⟨_, rfl⟩
  rw [hn1, hn2, hn3, hn4] at hln
  rw [hn1] at b1
  rw [hn2] at b2
  rw [hn3] at b3
  rw [hn4] at b4
  have N1 := Lib.hid hn1
  have N2 := Lib.hid hn2
  have N3 := Lib.hid hn3
  have N4 := Lib.hid hn4
  have hleq : (n3 + n4 == n1 + n2) = true := by rw [beq_iff_eq]; exact hln
  have wr1 : IntKind.i64.wrap (n3 + n4) = n3 + n4 := by rw [IntKind.wrap_i64]; omega
  have wr2 : IntKind.i64.wrap (n1 + n2) = n1 + n2 := by rw [IntKind.wrap_i64]; omega
  clear hn1 hn2 hn3 hn4 hln
  cases x
  · cases y
    · replace hox : hasB ro n = false := hox
      replace hdx : hasB rd n = false := hdx
      replace hlx : hasB rl n = false := hlx
      have xS : w22.cell? ⟨w2.heap.size, 0, none⟩ = some (.slice As rs.length cs) := cellH S 0
      have xT : w22.cell? ⟨w3.heap.size, 0, none⟩ = some (.slice At rt.length ct) := cellH T 0
      have xO : w22.cell? ⟨w6.heap.size, 0, none⟩ = some (.slice Ao ro.length co) := cellH O 0
      have xD : w22.cell? ⟨w7.heap.size, 0, none⟩ = some (.slice Ad rd.length cd) := cellH D 0
      have xL : w22.cell? ⟨w8.heap.size, 0, none⟩ = some (.slice Al rl.length cl) := cellH L 0
      go_wp2_with fail
      refine wp_region_held_drew (S := fun w' => w'.cell? ⟨w2.heap.size, 0, none⟩ = some (.slice As rs.length cs) ∧ w'.cell? ⟨w3.heap.size, 0, none⟩ = some (.slice At rt.length ct) ∧ w'.cell? ⟨w6.heap.size, 0, none⟩ = some (.slice Ao ro.length co) ∧ w'.cell? ⟨w7.heap.size, 0, none⟩ = some (.slice Ad rd.length cd) ∧ w'.cell? ⟨w8.heap.size, 0, none⟩ = some (.slice Al rl.length cl)) (by kernel_rfl) ?_ (fun hH0 => ?_)
      · exact ⟨xS, xT, xO, xD, xL⟩
      refine wpAnyH_take (i := 0) (oi := { dst := some 92, op := Go.Op.load 77 (Go.Operand.tmp 14), type := 77, pos := "law.go:151", after := #[], guard := none }) (v := ?_) rfl (by kernel_rfl) (by kernel_rfl) (by kernel_rfl) (fun _ _ _ h => h) (Or.inl ⟨by rfl, ?_⟩) (by assumption) ?_
      rotate_left
      · intro wq hSw; (try dsimp only at hSw); go_simp; (try with_reducible rfl)
      try simp only [Act.put, List.setIfInBounds_toArray, List.set_cons_zero, List.set_cons_succ]
      refine wpAnyH_take (i := 1) (oi := { dst := some 93, op := Go.Op.move (Go.Operand.tmp 2), type := 3, pos := "law.go:151", after := #[], guard := none }) (v := ?_) rfl (by kernel_rfl) (by kernel_rfl) (by kernel_rfl) (fun _ _ _ h => h) (Or.inl ⟨by rfl, ?_⟩) (by assumption) ?_
      rotate_left
      · intro wq hSw; (try dsimp only at hSw); go_simp; (try with_reducible rfl)
      try simp only [Act.put, List.setIfInBounds_toArray, List.set_cons_zero, List.set_cons_succ]
      refine wpAnyH_take (i := 3) (oi := { dst := some 95, op := Go.Op.move (Go.Operand.tmp 12), type := 4, pos := "law.go:151", after := #[], guard := none }) (v := ?_) rfl (by kernel_rfl) (by kernel_rfl) (by kernel_rfl) (fun _ _ _ h => h) (Or.inl ⟨by rfl, ?_⟩) (by assumption) ?_
      rotate_left
      · intro wq hSw; (try dsimp only at hSw); go_simp; (try with_reducible rfl)
      try simp only [Act.put, List.setIfInBounds_toArray, List.set_cons_zero, List.set_cons_succ]
      refine wpAnyH_ready (rs := [2]) (by kernel_rfl) (by simp) ?_
      refine AllReadyH.cons (o := { dst := some 94, op := Go.Op.call { callee := Go.Callee.value (Go.Operand.func 63), args := #[Go.Operand.tmp 92, Go.Operand.tmp 93], argTypes := #[77, 3] }, type := 4, pos := "law.go:151", after := #[{ on := 0, ground := Go.Ground.data }, { on := 1, ground := Go.Ground.data }], guard := none }) rfl (fun K hK => ?_) ?_
      rotate_left
      · exact AllReadyH.nil
      go_simp
      refine (hasS_any ro Ao co n _ (moved HO.out aO.drew) (by omega)).mono ?_
      rintro e w23 ⟨rfl, hb23⟩
      have hw23 : Below w.heap.size w w23 := stepH hw22.drew hb23
      have z23 := hw23.size
      replace aS : Below w2.heap.size w2 w23 := stepH aS.drew hb23
      replace yaS := aS.size
      replace aT : Below w3.heap.size w3 w23 := stepH aT.drew hb23
      replace yaT := aT.size
      replace aO : Below w6.heap.size w6 w23 := stepH aO.drew hb23
      replace yaO := aO.size
      replace aD : Below w7.heap.size w7 w23 := stepH aD.drew hb23
      replace yaD := aD.size
      replace aL : Below w8.heap.size w8 w23 := stepH aL.drew hb23
      replace yaL := aL.size
      replace aG : Below w10.heap.size w10 w23 := stepH aG.drew hb23
      replace yaG := aG.size
      replace S := keepH hb23 (drew_old S.out)
      replace T := keepH hb23 (drew_old T.out)
      replace O := keepH hb23 (drew_old O.out)
      replace D := keepH hb23 (drew_old D.out)
      replace L := keepH hb23 (drew_old L.out)
      replace G := keepH hb23 (drew_old G.out)
      replace xS : w23.cell? ⟨w2.heap.size, 0, none⟩ = some (.slice As rs.length cs) := cellOf hb23 (cell_drew xS)
      replace xT : w23.cell? ⟨w3.heap.size, 0, none⟩ = some (.slice At rt.length ct) := cellOf hb23 (cell_drew xT)
      replace xO : w23.cell? ⟨w6.heap.size, 0, none⟩ = some (.slice Ao ro.length co) := cellOf hb23 (cell_drew xO)
      replace xD : w23.cell? ⟨w7.heap.size, 0, none⟩ = some (.slice Ad rd.length cd) := cellOf hb23 (cell_drew xD)
      replace xL : w23.cell? ⟨w8.heap.size, 0, none⟩ = some (.slice Al rl.length cl) := cellOf hb23 (cell_drew xL)
      rw [hox]
      clear hb23
      go_wp2_with fail
      refine hK.out _ _ ?_ (fun hH1 => ?_)
      · (try dsimp only); exact ⟨xS, xT, xO, xD, xL⟩
      clear hK K
      clear hH0
      try simp only [Act.put, List.setIfInBounds_toArray, List.set_cons_zero, List.set_cons_succ]
      refine wpAnyH_take (i := 4) (oi := { dst := some 96, op := Go.Op.move (Go.Operand.tmp 95), type := 4, pos := "law.go:151", after := #[{ on := 3, ground := Go.Ground.data }, { on := 2, ground := Go.Ground.chain }], guard := none }) (v := ?_) rfl (by kernel_rfl) (by kernel_rfl) (by kernel_rfl) (fun _ _ _ h => h) (Or.inl ⟨by rfl, ?_⟩) (by assumption) ?_
      rotate_left
      · intro wq hSw; (try dsimp only at hSw); go_simp; (try with_reducible rfl)
      try simp only [Act.put, List.setIfInBounds_toArray, List.set_cons_zero, List.set_cons_succ]
      refine wpAnyH_take (i := 5) (oi := { dst := some 97, op := Go.Op.move (Go.Operand.tmp 13), type := 4, pos := "law.go:151", after := #[{ on := 4, ground := Go.Ground.guard }], guard := some (4, false) }) (v := ?_) rfl (by kernel_rfl) (by kernel_rfl) (by kernel_rfl) (fun _ _ _ h => h) (Or.inl ⟨by rfl, ?_⟩) (by assumption) ?_
      rotate_left
      · intro wq hSw; (try dsimp only at hSw); go_simp; (try with_reducible rfl)
      try simp only [Act.put, List.setIfInBounds_toArray, List.set_cons_zero, List.set_cons_succ]
      refine wpAnyH_take (i := 6) (oi := { dst := some 98, op := Go.Op.pick (Go.Operand.tmp 96) (Go.Operand.const (Go.Value.bool true)) (Go.Operand.tmp 97), type := 4, pos := "law.go:151", after := #[{ on := 4, ground := Go.Ground.data }, { on := 5, ground := Go.Ground.data }], guard := none }) (v := ?_) rfl (by kernel_rfl) (by kernel_rfl) (by kernel_rfl) (fun _ _ _ h => h) (Or.inl ⟨by rfl, ?_⟩) (by assumption) ?_
      rotate_left
      · intro wq hSw; (try dsimp only at hSw); go_simp; (try with_reducible rfl)
      try simp only [Act.put, List.setIfInBounds_toArray, List.set_cons_zero, List.set_cons_succ]
      refine wpAnyH_take (i := 7) (oi := { dst := some 99, op := Go.Op.binOp Go.BinOp.eql 4 (Go.Operand.tmp 94) (Go.Operand.tmp 98) 4, type := 4, pos := "law.go:151", after := #[{ on := 2, ground := Go.Ground.data }, { on := 6, ground := Go.Ground.data }], guard := none }) (v := ?_) rfl (by kernel_rfl) (by kernel_rfl) (by kernel_rfl) (fun _ _ _ h => h) (Or.inl ⟨by rfl, ?_⟩) (by assumption) ?_
      rotate_left
      · intro wq hSw; (try dsimp only at hSw); go_simp; (try with_reducible rfl)
      try simp only [Act.put, List.setIfInBounds_toArray, List.set_cons_zero, List.set_cons_succ]
      refine wpAnyH_take (i := 8) (oi := { dst := some 100, op := Go.Op.move (Go.Operand.tmp 99), type := 4, pos := "law.go:151", after := #[{ on := 7, ground := Go.Ground.data }, { on := 4, ground := Go.Ground.chain }], guard := none }) (v := ?_) rfl (by kernel_rfl) (by kernel_rfl) (by kernel_rfl) (fun _ _ _ h => h) (Or.inl ⟨by rfl, ?_⟩) (by assumption) ?_
      rotate_left
      · intro wq hSw; (try dsimp only at hSw); go_simp; (try with_reducible rfl)
      try simp only [Act.put, List.setIfInBounds_toArray, List.set_cons_zero, List.set_cons_succ]
      refine wpAnyH_take (i := 9) (oi := { dst := some 101, op := Go.Op.load 77 (Go.Operand.tmp 15), type := 77, pos := "law.go:151", after := #[{ on := 8, ground := Go.Ground.guard }], guard := some (8, true) }) (v := ?_) rfl (by kernel_rfl) (by kernel_rfl) (by kernel_rfl) (fun _ _ _ h => h) (Or.inl ⟨by rfl, ?_⟩) (by assumption) ?_
      rotate_left
      · intro wq hSw; (try dsimp only at hSw); go_simp; (try with_reducible rfl)
      try simp only [Act.put, List.setIfInBounds_toArray, List.set_cons_zero, List.set_cons_succ]
      refine wpAnyH_take (i := 10) (oi := { dst := some 102, op := Go.Op.move (Go.Operand.tmp 2), type := 3, pos := "law.go:151", after := #[{ on := 8, ground := Go.Ground.guard }], guard := some (8, true) }) (v := ?_) rfl (by kernel_rfl) (by kernel_rfl) (by kernel_rfl) (fun _ _ _ h => h) (Or.inl ⟨by rfl, ?_⟩) (by assumption) ?_
      rotate_left
      · intro wq hSw; (try dsimp only at hSw); go_simp; (try with_reducible rfl)
      try simp only [Act.put, List.setIfInBounds_toArray, List.set_cons_zero, List.set_cons_succ]
      refine wpAnyH_take (i := 12) (oi := { dst := some 104, op := Go.Op.move (Go.Operand.tmp 12), type := 4, pos := "law.go:151", after := #[{ on := 8, ground := Go.Ground.guard }], guard := some (8, true) }) (v := ?_) rfl (by kernel_rfl) (by kernel_rfl) (by kernel_rfl) (fun _ _ _ h => h) (Or.inl ⟨by rfl, ?_⟩) (by assumption) ?_
      rotate_left
      · intro wq hSw; (try dsimp only at hSw); go_simp; (try with_reducible rfl)
      try simp only [Act.put, List.setIfInBounds_toArray, List.set_cons_zero, List.set_cons_succ]
      refine wpAnyH_ready (rs := [11]) (by kernel_rfl) (by simp) ?_
      refine AllReadyH.cons (o := { dst := some 103, op := Go.Op.call { callee := Go.Callee.value (Go.Operand.func 63), args := #[Go.Operand.tmp 101, Go.Operand.tmp 102], argTypes := #[77, 3] }, type := 4, pos := "law.go:151", after := #[{ on := 9, ground := Go.Ground.data }, { on := 10, ground := Go.Ground.data }, { on := 8, ground := Go.Ground.chain }, { on := 8, ground := Go.Ground.guard }], guard := some (8, true) }) rfl (fun K hK => ?_) ?_
      rotate_left
      · exact AllReadyH.nil
      go_simp
      refine (hasS_any rd Ad cd n _ (moved HD.out aD) (by omega)).mono ?_
      rintro e w24 ⟨rfl, hb24⟩
      have hw24 : Below w.heap.size w w24 := stepH hw23 hb24
      have z24 := hw24.size
      replace aS : Below w2.heap.size w2 w24 := stepH aS hb24
      replace yaS := aS.size
      replace aT : Below w3.heap.size w3 w24 := stepH aT hb24
      replace yaT := aT.size
      replace aO : Below w6.heap.size w6 w24 := stepH aO hb24
      replace yaO := aO.size
      replace aD : Below w7.heap.size w7 w24 := stepH aD hb24
      replace yaD := aD.size
      replace aL : Below w8.heap.size w8 w24 := stepH aL hb24
      replace yaL := aL.size
      replace aG : Below w10.heap.size w10 w24 := stepH aG hb24
      replace yaG := aG.size
      replace S := keepH hb24 S.out
      replace T := keepH hb24 T.out
      replace O := keepH hb24 O.out
      replace D := keepH hb24 D.out
      replace L := keepH hb24 L.out
      replace G := keepH hb24 G.out
      replace xS : w24.cell? ⟨w2.heap.size, 0, none⟩ = some (.slice As rs.length cs) := cellOf hb24 xS
      replace xT : w24.cell? ⟨w3.heap.size, 0, none⟩ = some (.slice At rt.length ct) := cellOf hb24 xT
      replace xO : w24.cell? ⟨w6.heap.size, 0, none⟩ = some (.slice Ao ro.length co) := cellOf hb24 xO
      replace xD : w24.cell? ⟨w7.heap.size, 0, none⟩ = some (.slice Ad rd.length cd) := cellOf hb24 xD
      replace xL : w24.cell? ⟨w8.heap.size, 0, none⟩ = some (.slice Al rl.length cl) := cellOf hb24 xL
      rw [hdx]
      clear hb24
      go_wp2_with fail
      refine hK.out _ _ ?_ (fun hH2 => ?_)
      · (try dsimp only); exact ⟨xS, xT, xO, xD, xL⟩
      clear hK K
      clear hH1
      try simp only [Act.put, List.setIfInBounds_toArray, List.set_cons_zero, List.set_cons_succ]
      refine wpAnyH_take (i := 13) (oi := { dst := some 105, op := Go.Op.move (Go.Operand.tmp 104), type := 4, pos := "law.go:151", after := #[{ on := 12, ground := Go.Ground.data }, { on := 11, ground := Go.Ground.chain }, { on := 8, ground := Go.Ground.guard }], guard := some (8, true) }) (v := ?_) rfl (by kernel_rfl) (by kernel_rfl) (by kernel_rfl) (fun _ _ _ h => h) (Or.inl ⟨by rfl, ?_⟩) (by assumption) ?_
      rotate_left
      · intro wq hSw; (try dsimp only at hSw); go_simp; (try with_reducible rfl)
      try simp only [Act.put, List.setIfInBounds_toArray, List.set_cons_zero, List.set_cons_succ]
      refine wpAnyH_take (i := 14) (oi := { dst := some 106, op := Go.Op.move (Go.Operand.tmp 13), type := 4, pos := "law.go:151", after := #[{ on := 13, ground := Go.Ground.guard }], guard := some (13, true) }) (v := undef) rfl (by kernel_rfl) (by kernel_rfl) (by kernel_rfl) (fun _ _ _ h => h) (Or.inr ⟨by rfl, rfl⟩) (by assumption) ?_
      try simp only [Act.put, List.setIfInBounds_toArray, List.set_cons_zero, List.set_cons_succ]
      refine wpAnyH_take (i := 15) (oi := { dst := some 107, op := Go.Op.pick (Go.Operand.tmp 105) (Go.Operand.tmp 106) (Go.Operand.const (Go.Value.bool false)), type := 4, pos := "law.go:151", after := #[{ on := 13, ground := Go.Ground.data }, { on := 14, ground := Go.Ground.data }, { on := 8, ground := Go.Ground.guard }], guard := some (8, true) }) (v := ?_) rfl (by kernel_rfl) (by kernel_rfl) (by kernel_rfl) (fun _ _ _ h => h) (Or.inl ⟨by rfl, ?_⟩) (by assumption) ?_
      rotate_left
      · intro wq hSw; (try dsimp only at hSw); go_simp; (try with_reducible rfl)
      try simp only [Act.put, List.setIfInBounds_toArray, List.set_cons_zero, List.set_cons_succ]
      refine wpAnyH_take (i := 16) (oi := { dst := some 108, op := Go.Op.binOp Go.BinOp.eql 4 (Go.Operand.tmp 103) (Go.Operand.tmp 107) 4, type := 4, pos := "law.go:151", after := #[{ on := 11, ground := Go.Ground.data }, { on := 15, ground := Go.Ground.data }, { on := 8, ground := Go.Ground.guard }], guard := some (8, true) }) (v := ?_) rfl (by kernel_rfl) (by kernel_rfl) (by kernel_rfl) (fun _ _ _ h => h) (Or.inl ⟨by rfl, ?_⟩) (by assumption) ?_
      rotate_left
      · intro wq hSw; (try dsimp only at hSw); go_simp; (try with_reducible rfl)
      try simp only [Act.put, List.setIfInBounds_toArray, List.set_cons_zero, List.set_cons_succ]
      refine wpAnyH_take (i := 17) (oi := { dst := some 109, op := Go.Op.pick (Go.Operand.tmp 100) (Go.Operand.tmp 108) (Go.Operand.const (Go.Value.bool false)), type := 4, pos := "law.go:151", after := #[{ on := 8, ground := Go.Ground.data }, { on := 16, ground := Go.Ground.data }], guard := none }) (v := ?_) rfl (by kernel_rfl) (by kernel_rfl) (by kernel_rfl) (fun _ _ _ h => h) (Or.inl ⟨by rfl, ?_⟩) (by assumption) ?_
      rotate_left
      · intro wq hSw; (try dsimp only at hSw); go_simp; (try with_reducible rfl)
      try simp only [Act.put, List.setIfInBounds_toArray, List.set_cons_zero, List.set_cons_succ]
      refine wpAnyH_take (i := 18) (oi := { dst := some 110, op := Go.Op.move (Go.Operand.tmp 109), type := 4, pos := "law.go:151", after := #[{ on := 17, ground := Go.Ground.data }, { on := 13, ground := Go.Ground.chain }], guard := none }) (v := ?_) rfl (by kernel_rfl) (by kernel_rfl) (by kernel_rfl) (fun _ _ _ h => h) (Or.inl ⟨by rfl, ?_⟩) (by assumption) ?_
      rotate_left
      · intro wq hSw; (try dsimp only at hSw); go_simp; (try with_reducible rfl)
      try simp only [Act.put, List.setIfInBounds_toArray, List.set_cons_zero, List.set_cons_succ]
      refine wpAnyH_take (i := 19) (oi := { dst := some 111, op := Go.Op.load 77 (Go.Operand.tmp 16), type := 77, pos := "law.go:151", after := #[{ on := 18, ground := Go.Ground.guard }], guard := some (18, true) }) (v := ?_) rfl (by kernel_rfl) (by kernel_rfl) (by kernel_rfl) (fun _ _ _ h => h) (Or.inl ⟨by rfl, ?_⟩) (by assumption) ?_
      rotate_left
      · intro wq hSw; (try dsimp only at hSw); go_simp; (try with_reducible rfl)
      try simp only [Act.put, List.setIfInBounds_toArray, List.set_cons_zero, List.set_cons_succ]
      refine wpAnyH_take (i := 20) (oi := { dst := some 112, op := Go.Op.move (Go.Operand.tmp 2), type := 3, pos := "law.go:151", after := #[{ on := 18, ground := Go.Ground.guard }], guard := some (18, true) }) (v := ?_) rfl (by kernel_rfl) (by kernel_rfl) (by kernel_rfl) (fun _ _ _ h => h) (Or.inl ⟨by rfl, ?_⟩) (by assumption) ?_
      rotate_left
      · intro wq hSw; (try dsimp only at hSw); go_simp; (try with_reducible rfl)
      try simp only [Act.put, List.setIfInBounds_toArray, List.set_cons_zero, List.set_cons_succ]
      refine wpAnyH_take (i := 22) (oi := { dst := some 114, op := Go.Op.move (Go.Operand.tmp 12), type := 4, pos := "law.go:151", after := #[{ on := 18, ground := Go.Ground.guard }], guard := some (18, true) }) (v := ?_) rfl (by kernel_rfl) (by kernel_rfl) (by kernel_rfl) (fun _ _ _ h => h) (Or.inl ⟨by rfl, ?_⟩) (by assumption) ?_
      rotate_left
      · intro wq hSw; (try dsimp only at hSw); go_simp; (try with_reducible rfl)
      try simp only [Act.put, List.setIfInBounds_toArray, List.set_cons_zero, List.set_cons_succ]
      refine wpAnyH_ready (rs := [21]) (by kernel_rfl) (by simp) ?_
      refine AllReadyH.cons (o := { dst := some 113, op := Go.Op.call { callee := Go.Callee.value (Go.Operand.func 63), args := #[Go.Operand.tmp 111, Go.Operand.tmp 112], argTypes := #[77, 3] }, type := 4, pos := "law.go:151", after := #[{ on := 19, ground := Go.Ground.data }, { on := 20, ground := Go.Ground.data }, { on := 18, ground := Go.Ground.chain }, { on := 18, ground := Go.Ground.guard }], guard := some (18, true) }) rfl (fun K hK => ?_) ?_
      rotate_left
      · exact AllReadyH.nil
      go_simp
      refine (hasS_any rl Al cl n _ (moved HL.out aL) (by omega)).mono ?_
      rintro e w25 ⟨rfl, hb25⟩
      have hw25 : Below w.heap.size w w25 := stepH hw24 hb25
      have z25 := hw25.size
      replace aS : Below w2.heap.size w2 w25 := stepH aS hb25
      replace yaS := aS.size
      replace aT : Below w3.heap.size w3 w25 := stepH aT hb25
      replace yaT := aT.size
      replace aO : Below w6.heap.size w6 w25 := stepH aO hb25
      replace yaO := aO.size
      replace aD : Below w7.heap.size w7 w25 := stepH aD hb25
      replace yaD := aD.size
      replace aL : Below w8.heap.size w8 w25 := stepH aL hb25
      replace yaL := aL.size
      replace aG : Below w10.heap.size w10 w25 := stepH aG hb25
      replace yaG := aG.size
      replace S := keepH hb25 S.out
      replace T := keepH hb25 T.out
      replace O := keepH hb25 O.out
      replace D := keepH hb25 D.out
      replace L := keepH hb25 L.out
      replace G := keepH hb25 G.out
      replace xS : w25.cell? ⟨w2.heap.size, 0, none⟩ = some (.slice As rs.length cs) := cellOf hb25 xS
      replace xT : w25.cell? ⟨w3.heap.size, 0, none⟩ = some (.slice At rt.length ct) := cellOf hb25 xT
      replace xO : w25.cell? ⟨w6.heap.size, 0, none⟩ = some (.slice Ao ro.length co) := cellOf hb25 xO
      replace xD : w25.cell? ⟨w7.heap.size, 0, none⟩ = some (.slice Ad rd.length cd) := cellOf hb25 xD
      replace xL : w25.cell? ⟨w8.heap.size, 0, none⟩ = some (.slice Al rl.length cl) := cellOf hb25 xL
      rw [hlx]
      clear hb25
      go_wp2_with fail
      refine hK.out _ _ ?_ (fun hH3 => ?_)
      · (try dsimp only); exact ⟨xS, xT, xO, xD, xL⟩
      clear hK K
      clear hH2
      try simp only [Act.put, List.setIfInBounds_toArray, List.set_cons_zero, List.set_cons_succ]
      refine wpAnyH_take (i := 23) (oi := { dst := some 115, op := Go.Op.move (Go.Operand.tmp 114), type := 4, pos := "law.go:151", after := #[{ on := 22, ground := Go.Ground.data }, { on := 21, ground := Go.Ground.chain }, { on := 18, ground := Go.Ground.guard }], guard := some (18, true) }) (v := ?_) rfl (by kernel_rfl) (by kernel_rfl) (by kernel_rfl) (fun _ _ _ h => h) (Or.inl ⟨by rfl, ?_⟩) (by assumption) ?_
      rotate_left
      · intro wq hSw; (try dsimp only at hSw); go_simp; (try with_reducible rfl)
      try simp only [Act.put, List.setIfInBounds_toArray, List.set_cons_zero, List.set_cons_succ]
      refine wpAnyH_take (i := 24) (oi := { dst := some 116, op := Go.Op.move (Go.Operand.tmp 13), type := 4, pos := "law.go:151", after := #[{ on := 23, ground := Go.Ground.guard }], guard := some (23, true) }) (v := undef) rfl (by kernel_rfl) (by kernel_rfl) (by kernel_rfl) (fun _ _ _ h => h) (Or.inr ⟨by rfl, rfl⟩) (by assumption) ?_
      try simp only [Act.put, List.setIfInBounds_toArray, List.set_cons_zero, List.set_cons_succ]
      refine wpAnyH_take (i := 25) (oi := { dst := some 117, op := Go.Op.unOp Go.UnOp.not 4 (Go.Operand.tmp 116), type := 4, pos := "law.go:151", after := #[{ on := 24, ground := Go.Ground.data }, { on := 23, ground := Go.Ground.guard }], guard := some (23, true) }) (v := undef) rfl (by kernel_rfl) (by kernel_rfl) (by kernel_rfl) (fun _ _ _ h => h) (Or.inr ⟨by rfl, rfl⟩) (by assumption) ?_
      try simp only [Act.put, List.setIfInBounds_toArray, List.set_cons_zero, List.set_cons_succ]
      refine wpAnyH_take (i := 26) (oi := { dst := some 118, op := Go.Op.pick (Go.Operand.tmp 115) (Go.Operand.tmp 117) (Go.Operand.const (Go.Value.bool false)), type := 4, pos := "law.go:151", after := #[{ on := 23, ground := Go.Ground.data }, { on := 25, ground := Go.Ground.data }, { on := 18, ground := Go.Ground.guard }], guard := some (18, true) }) (v := ?_) rfl (by kernel_rfl) (by kernel_rfl) (by kernel_rfl) (fun _ _ _ h => h) (Or.inl ⟨by rfl, ?_⟩) (by assumption) ?_
      rotate_left
      · intro wq hSw; (try dsimp only at hSw); go_simp; (try with_reducible rfl)
      try simp only [Act.put, List.setIfInBounds_toArray, List.set_cons_zero, List.set_cons_succ]
      refine wpAnyH_take (i := 27) (oi := { dst := some 119, op := Go.Op.binOp Go.BinOp.eql 4 (Go.Operand.tmp 113) (Go.Operand.tmp 118) 4, type := 4, pos := "law.go:151", after := #[{ on := 21, ground := Go.Ground.data }, { on := 26, ground := Go.Ground.data }, { on := 18, ground := Go.Ground.guard }], guard := some (18, true) }) (v := ?_) rfl (by kernel_rfl) (by kernel_rfl) (by kernel_rfl) (fun _ _ _ h => h) (Or.inl ⟨by rfl, ?_⟩) (by assumption) ?_
      rotate_left
      · intro wq hSw; (try dsimp only at hSw); go_simp; (try with_reducible rfl)
      try simp only [Act.put, List.setIfInBounds_toArray, List.set_cons_zero, List.set_cons_succ]
      refine wpAnyH_take (i := 28) (oi := { dst := some 120, op := Go.Op.pick (Go.Operand.tmp 110) (Go.Operand.tmp 119) (Go.Operand.const (Go.Value.bool false)), type := 4, pos := "law.go:151", after := #[{ on := 18, ground := Go.Ground.data }, { on := 27, ground := Go.Ground.data }], guard := none }) (v := ?_) rfl (by kernel_rfl) (by kernel_rfl) (by kernel_rfl) (fun _ _ _ h => h) (Or.inl ⟨by rfl, ?_⟩) (by assumption) ?_
      rotate_left
      · intro wq hSw; (try dsimp only at hSw); go_simp; (try with_reducible rfl)
      try simp only [Act.put, List.setIfInBounds_toArray, List.set_cons_zero, List.set_cons_succ]
      refine wpAnyH_take (i := 29) (oi := { dst := some 121, op := Go.Op.move (Go.Operand.tmp 120), type := 4, pos := "law.go:151", after := #[{ on := 28, ground := Go.Ground.data }, { on := 23, ground := Go.Ground.chain }], guard := none }) (v := ?_) rfl (by kernel_rfl) (by kernel_rfl) (by kernel_rfl) (fun _ _ _ h => h) (Or.inl ⟨by rfl, ?_⟩) (by assumption) ?_
      rotate_left
      · intro wq hSw; (try dsimp only at hSw); go_simp; (try with_reducible rfl)
      try simp only [Act.put, List.setIfInBounds_toArray, List.set_cons_zero, List.set_cons_succ]
      refine wpAnyH_take (i := 30) (oi := { dst := some 122, op := Go.Op.load 77 (Go.Operand.tmp 14), type := 77, pos := "law.go:151", after := #[{ on := 29, ground := Go.Ground.guard }], guard := some (29, true) }) (v := ?_) rfl (by kernel_rfl) (by kernel_rfl) (by kernel_rfl) (fun _ _ _ h => h) (Or.inl ⟨by rfl, ?_⟩) (by assumption) ?_
      rotate_left
      · intro wq hSw; (try dsimp only at hSw); go_simp; (try with_reducible rfl)
      try simp only [Act.put, List.setIfInBounds_toArray, List.set_cons_zero, List.set_cons_succ]
      refine wpAnyH_take (i := 32) (oi := { dst := some 124, op := Go.Op.load 77 (Go.Operand.tmp 15), type := 77, pos := "law.go:151", after := #[{ on := 29, ground := Go.Ground.guard }], guard := some (29, true) }) (v := ?_) rfl (by kernel_rfl) (by kernel_rfl) (by kernel_rfl) (fun _ _ _ h => h) (Or.inl ⟨by rfl, ?_⟩) (by assumption) ?_
      rotate_left
      · intro wq hSw; (try dsimp only at hSw); go_simp; (try with_reducible rfl)
      try simp only [Act.put, List.setIfInBounds_toArray, List.set_cons_zero, List.set_cons_succ]
      refine wpAnyH_take (i := 35) (oi := { dst := some 127, op := Go.Op.load 77 (Go.Operand.tmp 8), type := 77, pos := "law.go:151", after := #[{ on := 29, ground := Go.Ground.guard }], guard := some (29, true) }) (v := ?_) rfl (by kernel_rfl) (by kernel_rfl) (by kernel_rfl) (fun _ _ _ h => h) (Or.inl ⟨by rfl, ?_⟩) (by assumption) ?_
      rotate_left
      · intro wq hSw; (try dsimp only at hSw); go_simp; (try with_reducible rfl)
      try simp only [Act.put, List.setIfInBounds_toArray, List.set_cons_zero, List.set_cons_succ]
      refine wpAnyH_take (i := 37) (oi := { dst := some 129, op := Go.Op.load 77 (Go.Operand.tmp 10), type := 77, pos := "law.go:151", after := #[{ on := 29, ground := Go.Ground.guard }], guard := some (29, true) }) (v := ?_) rfl (by kernel_rfl) (by kernel_rfl) (by kernel_rfl) (fun _ _ _ h => h) (Or.inl ⟨by rfl, ?_⟩) (by assumption) ?_
      rotate_left
      · intro wq hSw; (try dsimp only at hSw); go_simp; (try with_reducible rfl)
      try simp only [Act.put, List.setIfInBounds_toArray, List.set_cons_zero, List.set_cons_succ]
      refine wpAnyH_ready (rs := [31]) (by kernel_rfl) (by simp) ?_
      refine AllReadyH.cons (o := { dst := some 123, op := Go.Op.call { callee := Go.Callee.value (Go.Operand.func 60), args := #[Go.Operand.tmp 122], argTypes := #[77] }, type := 3, pos := "law.go:151", after := #[{ on := 30, ground := Go.Ground.data }, { on := 29, ground := Go.Ground.chain }, { on := 29, ground := Go.Ground.guard }], guard := some (29, true) }) rfl (fun K hK => ?_) ?_
      rotate_left
      · exact AllReadyH.nil
      go_simp
      refine (lenS_any ro Ao co _ (moved HO.out aO) (by omega) CO.out.canon).mono ?_
      rintro e w26 ⟨rfl, hb26⟩
      have hw26 : Below w.heap.size w w26 := stepH hw25 hb26
      have z26 := hw26.size
      replace aS : Below w2.heap.size w2 w26 := stepH aS hb26
      replace yaS := aS.size
      replace aT : Below w3.heap.size w3 w26 := stepH aT hb26
      replace yaT := aT.size
      replace aO : Below w6.heap.size w6 w26 := stepH aO hb26
      replace yaO := aO.size
      replace aD : Below w7.heap.size w7 w26 := stepH aD hb26
      replace yaD := aD.size
      replace aL : Below w8.heap.size w8 w26 := stepH aL hb26
      replace yaL := aL.size
      replace aG : Below w10.heap.size w10 w26 := stepH aG hb26
      replace yaG := aG.size
      replace S := keepH hb26 S.out
      replace T := keepH hb26 T.out
      replace O := keepH hb26 O.out
      replace D := keepH hb26 D.out
      replace L := keepH hb26 L.out
      replace G := keepH hb26 G.out
      replace xS : w26.cell? ⟨w2.heap.size, 0, none⟩ = some (.slice As rs.length cs) := cellOf hb26 xS
      replace xT : w26.cell? ⟨w3.heap.size, 0, none⟩ = some (.slice At rt.length ct) := cellOf hb26 xT
      replace xO : w26.cell? ⟨w6.heap.size, 0, none⟩ = some (.slice Ao ro.length co) := cellOf hb26 xO
      replace xD : w26.cell? ⟨w7.heap.size, 0, none⟩ = some (.slice Ad rd.length cd) := cellOf hb26 xD
      replace xL : w26.cell? ⟨w8.heap.size, 0, none⟩ = some (.slice Al rl.length cl) := cellOf hb26 xL
      rw [N3.out]
      clear hb26
      go_wp2_with fail
      refine hK.out _ _ ?_ (fun hH4 => ?_)
      · (try dsimp only); exact ⟨xS, xT, xO, xD, xL⟩
      clear hK K
      clear hH3
      try simp only [Act.put, List.setIfInBounds_toArray, List.set_cons_zero, List.set_cons_succ]
      refine wpAnyH_ready (rs := [33]) (by kernel_rfl) (by simp) ?_
      refine AllReadyH.cons (o := { dst := some 125, op := Go.Op.call { callee := Go.Callee.value (Go.Operand.func 60), args := #[Go.Operand.tmp 124], argTypes := #[77] }, type := 3, pos := "law.go:151", after := #[{ on := 32, ground := Go.Ground.data }, { on := 31, ground := Go.Ground.chain }, { on := 29, ground := Go.Ground.guard }], guard := some (29, true) }) rfl (fun K hK => ?_) ?_
      rotate_left
      · exact AllReadyH.nil
      go_simp
      refine (lenS_any rd Ad cd _ (moved HD.out aD) (by omega) CD.out.canon).mono ?_
      rintro e w27 ⟨rfl, hb27⟩
      have hw27 : Below w.heap.size w w27 := stepH hw26 hb27
      have z27 := hw27.size
      replace aS : Below w2.heap.size w2 w27 := stepH aS hb27
      replace yaS := aS.size
      replace aT : Below w3.heap.size w3 w27 := stepH aT hb27
      replace yaT := aT.size
      replace aO : Below w6.heap.size w6 w27 := stepH aO hb27
      replace yaO := aO.size
      replace aD : Below w7.heap.size w7 w27 := stepH aD hb27
      replace yaD := aD.size
      replace aL : Below w8.heap.size w8 w27 := stepH aL hb27
      replace yaL := aL.size
      replace aG : Below w10.heap.size w10 w27 := stepH aG hb27
      replace yaG := aG.size
      replace S := keepH hb27 S.out
      replace T := keepH hb27 T.out
      replace O := keepH hb27 O.out
      replace D := keepH hb27 D.out
      replace L := keepH hb27 L.out
      replace G := keepH hb27 G.out
      replace xS : w27.cell? ⟨w2.heap.size, 0, none⟩ = some (.slice As rs.length cs) := cellOf hb27 xS
      replace xT : w27.cell? ⟨w3.heap.size, 0, none⟩ = some (.slice At rt.length ct) := cellOf hb27 xT
      replace xO : w27.cell? ⟨w6.heap.size, 0, none⟩ = some (.slice Ao ro.length co) := cellOf hb27 xO
      replace xD : w27.cell? ⟨w7.heap.size, 0, none⟩ = some (.slice Ad rd.length cd) := cellOf hb27 xD
      replace xL : w27.cell? ⟨w8.heap.size, 0, none⟩ = some (.slice Al rl.length cl) := cellOf hb27 xL
      rw [N4.out]
      clear hb27
      go_wp2_with fail
      refine hK.out _ _ ?_ (fun hH5 => ?_)
      · (try dsimp only); exact ⟨xS, xT, xO, xD, xL⟩
      clear hK K
      clear hH4
      try simp only [Act.put, List.setIfInBounds_toArray, List.set_cons_zero, List.set_cons_succ]
      refine wpAnyH_take (i := 34) (oi := { dst := some 126, op := Go.Op.binOp Go.BinOp.add 3 (Go.Operand.tmp 123) (Go.Operand.tmp 125) 3, type := 3, pos := "law.go:151", after := #[{ on := 31, ground := Go.Ground.data }, { on := 33, ground := Go.Ground.data }, { on := 29, ground := Go.Ground.guard }], guard := some (29, true) }) (v := ?_) rfl (by kernel_rfl) (by kernel_rfl) (by kernel_rfl) (fun _ _ _ h => h) (Or.inl ⟨by rfl, ?_⟩) (by assumption) ?_
      rotate_left
      · intro wq hSw; (try dsimp only at hSw); go_simp; (try with_reducible rfl)
      try simp only [Act.put, List.setIfInBounds_toArray, List.set_cons_zero, List.set_cons_succ]
      refine wpAnyH_ready (rs := [36]) (by kernel_rfl) (by simp) ?_
      refine AllReadyH.cons (o := { dst := some 128, op := Go.Op.call { callee := Go.Callee.value (Go.Operand.func 60), args := #[Go.Operand.tmp 127], argTypes := #[77] }, type := 3, pos := "law.go:151", after := #[{ on := 35, ground := Go.Ground.data }, { on := 33, ground := Go.Ground.chain }, { on := 29, ground := Go.Ground.guard }], guard := some (29, true) }) rfl (fun K hK => ?_) ?_
      rotate_left
      · exact AllReadyH.nil
      go_simp
      refine (lenS_any rs As cs _ (moved HS.out aS) (by omega) CS.out.canon).mono ?_
      rintro e w28 ⟨rfl, hb28⟩
      have hw28 : Below w.heap.size w w28 := stepH hw27 hb28
      have z28 := hw28.size
      replace aS : Below w2.heap.size w2 w28 := stepH aS hb28
      replace yaS := aS.size
      replace aT : Below w3.heap.size w3 w28 := stepH aT hb28
      replace yaT := aT.size
      replace aO : Below w6.heap.size w6 w28 := stepH aO hb28
      replace yaO := aO.size
      replace aD : Below w7.heap.size w7 w28 := stepH aD hb28
      replace yaD := aD.size
      replace aL : Below w8.heap.size w8 w28 := stepH aL hb28
      replace yaL := aL.size
      replace aG : Below w10.heap.size w10 w28 := stepH aG hb28
      replace yaG := aG.size
      replace S := keepH hb28 S.out
      replace T := keepH hb28 T.out
      replace O := keepH hb28 O.out
      replace D := keepH hb28 D.out
      replace L := keepH hb28 L.out
      replace G := keepH hb28 G.out
      replace xS : w28.cell? ⟨w2.heap.size, 0, none⟩ = some (.slice As rs.length cs) := cellOf hb28 xS
      replace xT : w28.cell? ⟨w3.heap.size, 0, none⟩ = some (.slice At rt.length ct) := cellOf hb28 xT
      replace xO : w28.cell? ⟨w6.heap.size, 0, none⟩ = some (.slice Ao ro.length co) := cellOf hb28 xO
      replace xD : w28.cell? ⟨w7.heap.size, 0, none⟩ = some (.slice Ad rd.length cd) := cellOf hb28 xD
      replace xL : w28.cell? ⟨w8.heap.size, 0, none⟩ = some (.slice Al rl.length cl) := cellOf hb28 xL
      rw [N1.out]
      clear hb28
      go_wp2_with fail
      refine hK.out _ _ ?_ (fun hH6 => ?_)
      · (try dsimp only); exact ⟨xS, xT, xO, xD, xL⟩
      clear hK K
      clear hH5
      try simp only [Act.put, List.setIfInBounds_toArray, List.set_cons_zero, List.set_cons_succ]
      refine wpAnyH_ready (rs := [38]) (by kernel_rfl) (by simp) ?_
      refine AllReadyH.cons (o := { dst := some 130, op := Go.Op.call { callee := Go.Callee.value (Go.Operand.func 60), args := #[Go.Operand.tmp 129], argTypes := #[77] }, type := 3, pos := "law.go:151", after := #[{ on := 37, ground := Go.Ground.data }, { on := 36, ground := Go.Ground.chain }, { on := 29, ground := Go.Ground.guard }], guard := some (29, true) }) rfl (fun K hK => ?_) ?_
      rotate_left
      · exact AllReadyH.nil
      go_simp
      refine (lenS_any rt At ct _ (moved HT.out aT) (by omega) CT.out.canon).mono ?_
      rintro e w29 ⟨rfl, hb29⟩
      have hw29 : Below w.heap.size w w29 := stepH hw28 hb29
      have z29 := hw29.size
      replace aS : Below w2.heap.size w2 w29 := stepH aS hb29
      replace yaS := aS.size
      replace aT : Below w3.heap.size w3 w29 := stepH aT hb29
      replace yaT := aT.size
      replace aO : Below w6.heap.size w6 w29 := stepH aO hb29
      replace yaO := aO.size
      replace aD : Below w7.heap.size w7 w29 := stepH aD hb29
      replace yaD := aD.size
      replace aL : Below w8.heap.size w8 w29 := stepH aL hb29
      replace yaL := aL.size
      replace aG : Below w10.heap.size w10 w29 := stepH aG hb29
      replace yaG := aG.size
      replace S := keepH hb29 S.out
      replace T := keepH hb29 T.out
      replace O := keepH hb29 O.out
      replace D := keepH hb29 D.out
      replace L := keepH hb29 L.out
      replace G := keepH hb29 G.out
      replace xS : w29.cell? ⟨w2.heap.size, 0, none⟩ = some (.slice As rs.length cs) := cellOf hb29 xS
      replace xT : w29.cell? ⟨w3.heap.size, 0, none⟩ = some (.slice At rt.length ct) := cellOf hb29 xT
      replace xO : w29.cell? ⟨w6.heap.size, 0, none⟩ = some (.slice Ao ro.length co) := cellOf hb29 xO
      replace xD : w29.cell? ⟨w7.heap.size, 0, none⟩ = some (.slice Ad rd.length cd) := cellOf hb29 xD
      replace xL : w29.cell? ⟨w8.heap.size, 0, none⟩ = some (.slice Al rl.length cl) := cellOf hb29 xL
      rw [N2.out]
      clear hb29
      go_wp2_with fail
      refine hK.out _ _ ?_ (fun hH7 => ?_)
      · (try dsimp only); exact ⟨xS, xT, xO, xD, xL⟩
      clear hK K
      clear hH6
      try simp only [Act.put, List.setIfInBounds_toArray, List.set_cons_zero, List.set_cons_succ]
      refine wpAnyH_take (i := 39) (oi := { dst := some 131, op := Go.Op.binOp Go.BinOp.add 3 (Go.Operand.tmp 128) (Go.Operand.tmp 130) 3, type := 3, pos := "law.go:151", after := #[{ on := 36, ground := Go.Ground.data }, { on := 38, ground := Go.Ground.data }, { on := 29, ground := Go.Ground.guard }], guard := some (29, true) }) (v := ?_) rfl (by kernel_rfl) (by kernel_rfl) (by kernel_rfl) (fun _ _ _ h => h) (Or.inl ⟨by rfl, ?_⟩) (by assumption) ?_
      rotate_left
      · intro wq hSw; (try dsimp only at hSw); go_simp; (try with_reducible rfl)
      try simp only [Act.put, List.setIfInBounds_toArray, List.set_cons_zero, List.set_cons_succ]
      refine wpAnyH_take (i := 40) (oi := { dst := some 132, op := Go.Op.binOp Go.BinOp.eql 3 (Go.Operand.tmp 126) (Go.Operand.tmp 131) 3, type := 4, pos := "law.go:151", after := #[{ on := 34, ground := Go.Ground.data }, { on := 39, ground := Go.Ground.data }, { on := 29, ground := Go.Ground.guard }], guard := some (29, true) }) (v := ?_) rfl (by kernel_rfl) (by kernel_rfl) (by kernel_rfl) (fun _ _ _ h => h) (Or.inl ⟨by rfl, ?_⟩) (by assumption) ?_
      rotate_left
      · intro wq hSw; (try dsimp only at hSw); go_simp; (try with_reducible rfl)
      try simp only [Act.put, List.setIfInBounds_toArray, List.set_cons_zero, List.set_cons_succ, wr1, wr2, hleq]
      refine wpAnyH_take (i := 41) (oi := { dst := some 133, op := Go.Op.pick (Go.Operand.tmp 121) (Go.Operand.tmp 132) (Go.Operand.const (Go.Value.bool false)), type := 4, pos := "law.go:151", after := #[{ on := 29, ground := Go.Ground.data }, { on := 40, ground := Go.Ground.data }], guard := none }) (v := ?_) rfl (by kernel_rfl) (by kernel_rfl) (by kernel_rfl) (fun _ _ _ h => h) (Or.inl ⟨by rfl, ?_⟩) (by assumption) ?_
      rotate_left
      · intro wq hSw; (try dsimp only at hSw); go_simp; (try with_reducible rfl)
      try simp only [Act.put, List.setIfInBounds_toArray, List.set_cons_zero, List.set_cons_succ]
      refine wpAnyH_take (i := 42) (oi := { dst := some 134, op := Go.Op.move (Go.Operand.tmp 133), type := 4, pos := "law.go:151", after := #[{ on := 41, ground := Go.Ground.data }, { on := 38, ground := Go.Ground.chain }], guard := none }) (v := ?_) rfl (by kernel_rfl) (by kernel_rfl) (by kernel_rfl) (fun _ _ _ h => h) (Or.inl ⟨by rfl, ?_⟩) (by assumption) ?_
      rotate_left
      · intro wq hSw; (try dsimp only at hSw); go_simp; (try with_reducible rfl)
      try simp only [Act.put, List.setIfInBounds_toArray, List.set_cons_zero, List.set_cons_succ]
      refine wpAnyH_take (i := 43) (oi := { dst := some 135, op := Go.Op.move (Go.Operand.tmp 18), type := 41, pos := "law.go:151", after := #[{ on := 42, ground := Go.Ground.guard }], guard := some (42, true) }) (v := ?_) rfl (by kernel_rfl) (by kernel_rfl) (by kernel_rfl) (fun _ _ _ h => h) (Or.inl ⟨by rfl, ?_⟩) (by assumption) ?_
      rotate_left
      · intro wq hSw; (try dsimp only at hSw); go_simp; (try with_reducible rfl)
      try simp only [Act.put, List.setIfInBounds_toArray, List.set_cons_zero, List.set_cons_succ]
      refine wpAnyH_take (i := 44) (oi := { dst := some 136, op := Go.Op.binOp Go.BinOp.eql 41 (Go.Operand.tmp 135) (Go.Operand.const Go.Value.nilIface) 41, type := 4, pos := "law.go:151", after := #[{ on := 43, ground := Go.Ground.data }, { on := 42, ground := Go.Ground.guard }], guard := some (42, true) }) (v := ?_) rfl (by kernel_rfl) (by kernel_rfl) (by kernel_rfl) (fun _ _ _ h => h) (Or.inl ⟨by rfl, ?_⟩) (by assumption) ?_
      rotate_left
      · intro wq hSw; (try dsimp only at hSw); go_simp; (try with_reducible rfl)
      try simp only [Act.put, List.setIfInBounds_toArray, List.set_cons_zero, List.set_cons_succ]
      refine wpAnyH_take (i := 45) (oi := { dst := some 137, op := Go.Op.pick (Go.Operand.tmp 134) (Go.Operand.tmp 136) (Go.Operand.const (Go.Value.bool false)), type := 4, pos := "law.go:151", after := #[{ on := 42, ground := Go.Ground.data }, { on := 44, ground := Go.Ground.data }], guard := none }) (v := ?_) rfl (by kernel_rfl) (by kernel_rfl) (by kernel_rfl) (fun _ _ _ h => h) (Or.inl ⟨by rfl, ?_⟩) (by assumption) ?_
      rotate_left
      · intro wq hSw; (try dsimp only at hSw); go_simp; (try with_reducible rfl)
      try simp only [Act.put, List.setIfInBounds_toArray, List.set_cons_zero, List.set_cons_succ]
      refine wpAnyH_take (i := 46) (oi := { dst := some 138, op := Go.Op.move (Go.Operand.tmp 137), type := 4, pos := "law.go:151", after := #[{ on := 45, ground := Go.Ground.data }, { on := 42, ground := Go.Ground.chain }], guard := none }) (v := ?_) rfl (by kernel_rfl) (by kernel_rfl) (by kernel_rfl) (fun _ _ _ h => h) (Or.inl ⟨by rfl, ?_⟩) (by assumption) ?_
      rotate_left
      · intro wq hSw; (try dsimp only at hSw); go_simp; (try with_reducible rfl)
      try simp only [Act.put, List.setIfInBounds_toArray, List.set_cons_zero, List.set_cons_succ]
      refine wpAnyH_take (i := 47) (oi := { dst := some 139, op := Go.Op.move (Go.Operand.tmp 19), type := 4, pos := "law.go:151", after := #[{ on := 46, ground := Go.Ground.guard }], guard := some (46, true) }) (v := ?_) rfl (by kernel_rfl) (by kernel_rfl) (by kernel_rfl) (fun _ _ _ h => h) (Or.inl ⟨by rfl, ?_⟩) (by assumption) ?_
      rotate_left
      · intro wq hSw; (try dsimp only at hSw); go_simp; (try with_reducible rfl)
      try simp only [Act.put, List.setIfInBounds_toArray, List.set_cons_zero, List.set_cons_succ]
      refine wpAnyH_take (i := 48) (oi := { dst := some 140, op := Go.Op.pick (Go.Operand.tmp 138) (Go.Operand.tmp 139) (Go.Operand.const (Go.Value.bool false)), type := 4, pos := "law.go:151", after := #[{ on := 46, ground := Go.Ground.data }, { on := 47, ground := Go.Ground.data }], guard := none }) (v := ?_) rfl (by kernel_rfl) (by kernel_rfl) (by kernel_rfl) (fun _ _ _ h => h) (Or.inl ⟨by rfl, ?_⟩) (by assumption) ?_
      rotate_left
      · intro wq hSw; (try dsimp only at hSw); go_simp; (try with_reducible rfl)
      try simp only [Act.put, List.setIfInBounds_toArray, List.set_cons_zero, List.set_cons_succ]
      refine wpAnyH_take (i := 49) (oi := { dst := some 141, op := Go.Op.move (Go.Operand.tmp 140), type := 4, pos := "law.go:151", after := #[{ on := 48, ground := Go.Ground.data }, { on := 46, ground := Go.Ground.chain }], guard := none }) (v := ?_) rfl (by kernel_rfl) (by kernel_rfl) (by kernel_rfl) (fun _ _ _ h => h) (Or.inl ⟨by rfl, ?_⟩) (by assumption) ?_
      rotate_left
      · intro wq hSw; (try dsimp only at hSw); go_simp; (try with_reducible rfl)
      try simp only [Act.put, List.setIfInBounds_toArray, List.set_cons_zero, List.set_cons_succ]
      refine wpAnyH_take (i := 50) (oi := { dst := some 142, op := Go.Op.move (Go.Operand.tmp 20), type := 4, pos := "law.go:151", after := #[{ on := 49, ground := Go.Ground.guard }], guard := some (49, true) }) (v := ?_) rfl (by kernel_rfl) (by kernel_rfl) (by kernel_rfl) (fun _ _ _ h => h) (Or.inl ⟨by rfl, ?_⟩) (by assumption) ?_
      rotate_left
      · intro wq hSw; (try dsimp only at hSw); go_simp; (try with_reducible rfl)
      try simp only [Act.put, List.setIfInBounds_toArray, List.set_cons_zero, List.set_cons_succ]
      refine wpAnyH_take (i := 51) (oi := { dst := some 143, op := Go.Op.pick (Go.Operand.tmp 141) (Go.Operand.tmp 142) (Go.Operand.const (Go.Value.bool false)), type := 4, pos := "law.go:151", after := #[{ on := 49, ground := Go.Ground.data }, { on := 50, ground := Go.Ground.data }], guard := none }) (v := ?_) rfl (by kernel_rfl) (by kernel_rfl) (by kernel_rfl) (fun _ _ _ h => h) (Or.inl ⟨by rfl, ?_⟩) (by assumption) ?_
      rotate_left
      · intro wq hSw; (try dsimp only at hSw); go_simp; (try with_reducible rfl)
      try simp only [Act.put, List.setIfInBounds_toArray, List.set_cons_zero, List.set_cons_succ]
      refine wpAnyH_take (i := 52) (oi := { dst := some 144, op := Go.Op.move (Go.Operand.tmp 143), type := 4, pos := "law.go:151", after := #[{ on := 51, ground := Go.Ground.data }, { on := 49, ground := Go.Ground.chain }], guard := none }) (v := ?_) rfl (by kernel_rfl) (by kernel_rfl) (by kernel_rfl) (fun _ _ _ h => h) (Or.inl ⟨by rfl, ?_⟩) (by assumption) ?_
      rotate_left
      · intro wq hSw; (try dsimp only at hSw); go_simp; (try with_reducible rfl)
      try simp only [Act.put, List.setIfInBounds_toArray, List.set_cons_zero, List.set_cons_succ]
      refine wpAnyH_take (i := 53) (oi := { dst := some 145, op := Go.Op.move (Go.Operand.tmp 21), type := 4, pos := "law.go:151", after := #[{ on := 52, ground := Go.Ground.guard }], guard := some (52, true) }) (v := ?_) rfl (by kernel_rfl) (by kernel_rfl) (by kernel_rfl) (fun _ _ _ h => h) (Or.inl ⟨by rfl, ?_⟩) (by assumption) ?_
      rotate_left
      · intro wq hSw; (try dsimp only at hSw); go_simp; (try with_reducible rfl)
      try simp only [Act.put, List.setIfInBounds_toArray, List.set_cons_zero, List.set_cons_succ]
      refine wpAnyH_take (i := 54) (oi := { dst := some 146, op := Go.Op.pick (Go.Operand.tmp 144) (Go.Operand.tmp 145) (Go.Operand.const (Go.Value.bool false)), type := 4, pos := "law.go:151", after := #[{ on := 52, ground := Go.Ground.data }, { on := 53, ground := Go.Ground.data }], guard := none }) (v := ?_) rfl (by kernel_rfl) (by kernel_rfl) (by kernel_rfl) (fun _ _ _ h => h) (Or.inl ⟨by rfl, ?_⟩) (by assumption) ?_
      rotate_left
      · intro wq hSw; (try dsimp only at hSw); go_simp; (try with_reducible rfl)
      try simp only [Act.put, List.setIfInBounds_toArray, List.set_cons_zero, List.set_cons_succ]
      refine wpAnyH_take (i := 55) (oi := { dst := some 6, op := Go.Op.assign (Go.Operand.tmp 146), type := 4, pos := "law.go:151", after := #[{ on := 54, ground := Go.Ground.data }, { on := 52, ground := Go.Ground.chain }, { on := 0, ground := Go.Ground.phase }, { on := 1, ground := Go.Ground.phase }, { on := 2, ground := Go.Ground.phase }, { on := 3, ground := Go.Ground.phase }, { on := 4, ground := Go.Ground.phase }, { on := 5, ground := Go.Ground.phase }, { on := 6, ground := Go.Ground.phase }, { on := 7, ground := Go.Ground.phase }, { on := 8, ground := Go.Ground.phase }, { on := 9, ground := Go.Ground.phase }, { on := 10, ground := Go.Ground.phase }, { on := 11, ground := Go.Ground.phase }, { on := 12, ground := Go.Ground.phase }, { on := 13, ground := Go.Ground.phase }, { on := 14, ground := Go.Ground.phase }, { on := 15, ground := Go.Ground.phase }, { on := 16, ground := Go.Ground.phase }, { on := 17, ground := Go.Ground.phase }, { on := 18, ground := Go.Ground.phase }, { on := 19, ground := Go.Ground.phase }, { on := 20, ground := Go.Ground.phase }, { on := 21, ground := Go.Ground.phase }, { on := 22, ground := Go.Ground.phase }, { on := 23, ground := Go.Ground.phase }, { on := 24, ground := Go.Ground.phase }, { on := 25, ground := Go.Ground.phase }, { on := 26, ground := Go.Ground.phase }, { on := 27, ground := Go.Ground.phase }, { on := 28, ground := Go.Ground.phase }, { on := 29, ground := Go.Ground.phase }, { on := 30, ground := Go.Ground.phase }, { on := 31, ground := Go.Ground.phase }, { on := 32, ground := Go.Ground.phase }, { on := 33, ground := Go.Ground.phase }, { on := 34, ground := Go.Ground.phase }, { on := 35, ground := Go.Ground.phase }, { on := 36, ground := Go.Ground.phase }, { on := 37, ground := Go.Ground.phase }, { on := 38, ground := Go.Ground.phase }, { on := 39, ground := Go.Ground.phase }, { on := 40, ground := Go.Ground.phase }, { on := 41, ground := Go.Ground.phase }, { on := 42, ground := Go.Ground.phase }, { on := 43, ground := Go.Ground.phase }, { on := 44, ground := Go.Ground.phase }, { on := 45, ground := Go.Ground.phase }, { on := 46, ground := Go.Ground.phase }, { on := 47, ground := Go.Ground.phase }, { on := 48, ground := Go.Ground.phase }, { on := 49, ground := Go.Ground.phase }, { on := 50, ground := Go.Ground.phase }, { on := 51, ground := Go.Ground.phase }, { on := 52, ground := Go.Ground.phase }, { on := 53, ground := Go.Ground.phase }, { on := 54, ground := Go.Ground.phase }], guard := none }) (v := ?_) rfl (by kernel_rfl) (by kernel_rfl) (by kernel_rfl) (fun _ _ _ h => h) (Or.inl ⟨by rfl, ?_⟩) (by assumption) ?_
      rotate_left
      · intro wq hSw; (try dsimp only at hSw); go_simp; (try with_reducible rfl)
      try simp only [Act.put, List.setIfInBounds_toArray, List.set_cons_zero, List.set_cons_succ]
      refine wpAnyH_done (by kernel_rfl) ?_ _
      clear xS xT xO xD xL
      go_wp2_with fail
      go_ret
      exact ⟨rfl, by (repeat' (first | with_reducible exact Below.refl _ _ | with_reducible assumption | with_reducible refine Below.drew ?_ | with_reducible refine below_drewN ?_ _ | with_reducible refine Below.setCell ?_ ?_ _ | with_reducible refine Below.alloc ?_ ?_ _ | omega | (simp; done) | (simp; omega)))⟩
    · replace hox : hasB ro n = true := hox
      replace hdx : hasB rd n = false := hdx
      replace hlx : hasB rl n = false := hlx
      have xS : w22.cell? ⟨w2.heap.size, 0, none⟩ = some (.slice As rs.length cs) := cellH S 0
      have xT : w22.cell? ⟨w3.heap.size, 0, none⟩ = some (.slice At rt.length ct) := cellH T 0
      have xO : w22.cell? ⟨w6.heap.size, 0, none⟩ = some (.slice Ao ro.length co) := cellH O 0
      have xD : w22.cell? ⟨w7.heap.size, 0, none⟩ = some (.slice Ad rd.length cd) := cellH D 0
      have xL : w22.cell? ⟨w8.heap.size, 0, none⟩ = some (.slice Al rl.length cl) := cellH L 0
      go_wp2_with fail
      refine wp_region_held_drew (S := fun w' => w'.cell? ⟨w2.heap.size, 0, none⟩ = some (.slice As rs.length cs) ∧ w'.cell? ⟨w3.heap.size, 0, none⟩ = some (.slice At rt.length ct) ∧ w'.cell? ⟨w6.heap.size, 0, none⟩ = some (.slice Ao ro.length co) ∧ w'.cell? ⟨w7.heap.size, 0, none⟩ = some (.slice Ad rd.length cd) ∧ w'.cell? ⟨w8.heap.size, 0, none⟩ = some (.slice Al rl.length cl)) (by kernel_rfl) ?_ (fun hH0 => ?_)
      · exact ⟨xS, xT, xO, xD, xL⟩
      refine wpAnyH_take (i := 0) (oi := { dst := some 92, op := Go.Op.load 77 (Go.Operand.tmp 14), type := 77, pos := "law.go:151", after := #[], guard := none }) (v := ?_) rfl (by kernel_rfl) (by kernel_rfl) (by kernel_rfl) (fun _ _ _ h => h) (Or.inl ⟨by rfl, ?_⟩) (by assumption) ?_
      rotate_left
      · intro wq hSw; (try dsimp only at hSw); go_simp; (try with_reducible rfl)
      try simp only [Act.put, List.setIfInBounds_toArray, List.set_cons_zero, List.set_cons_succ]
      refine wpAnyH_take (i := 1) (oi := { dst := some 93, op := Go.Op.move (Go.Operand.tmp 2), type := 3, pos := "law.go:151", after := #[], guard := none }) (v := ?_) rfl (by kernel_rfl) (by kernel_rfl) (by kernel_rfl) (fun _ _ _ h => h) (Or.inl ⟨by rfl, ?_⟩) (by assumption) ?_
      rotate_left
      · intro wq hSw; (try dsimp only at hSw); go_simp; (try with_reducible rfl)
      try simp only [Act.put, List.setIfInBounds_toArray, List.set_cons_zero, List.set_cons_succ]
      refine wpAnyH_take (i := 3) (oi := { dst := some 95, op := Go.Op.move (Go.Operand.tmp 12), type := 4, pos := "law.go:151", after := #[], guard := none }) (v := ?_) rfl (by kernel_rfl) (by kernel_rfl) (by kernel_rfl) (fun _ _ _ h => h) (Or.inl ⟨by rfl, ?_⟩) (by assumption) ?_
      rotate_left
      · intro wq hSw; (try dsimp only at hSw); go_simp; (try with_reducible rfl)
      try simp only [Act.put, List.setIfInBounds_toArray, List.set_cons_zero, List.set_cons_succ]
      refine wpAnyH_ready (rs := [2]) (by kernel_rfl) (by simp) ?_
      refine AllReadyH.cons (o := { dst := some 94, op := Go.Op.call { callee := Go.Callee.value (Go.Operand.func 63), args := #[Go.Operand.tmp 92, Go.Operand.tmp 93], argTypes := #[77, 3] }, type := 4, pos := "law.go:151", after := #[{ on := 0, ground := Go.Ground.data }, { on := 1, ground := Go.Ground.data }], guard := none }) rfl (fun K hK => ?_) ?_
      rotate_left
      · exact AllReadyH.nil
      go_simp
      refine (hasS_any ro Ao co n _ (moved HO.out aO.drew) (by omega)).mono ?_
      rintro e w30 ⟨rfl, hb30⟩
      have hw30 : Below w.heap.size w w30 := stepH hw22.drew hb30
      have z30 := hw30.size
      replace aS : Below w2.heap.size w2 w30 := stepH aS.drew hb30
      replace yaS := aS.size
      replace aT : Below w3.heap.size w3 w30 := stepH aT.drew hb30
      replace yaT := aT.size
      replace aO : Below w6.heap.size w6 w30 := stepH aO.drew hb30
      replace yaO := aO.size
      replace aD : Below w7.heap.size w7 w30 := stepH aD.drew hb30
      replace yaD := aD.size
      replace aL : Below w8.heap.size w8 w30 := stepH aL.drew hb30
      replace yaL := aL.size
      replace aG : Below w10.heap.size w10 w30 := stepH aG.drew hb30
      replace yaG := aG.size
      replace S := keepH hb30 (drew_old S.out)
      replace T := keepH hb30 (drew_old T.out)
      replace O := keepH hb30 (drew_old O.out)
      replace D := keepH hb30 (drew_old D.out)
      replace L := keepH hb30 (drew_old L.out)
      replace G := keepH hb30 (drew_old G.out)
      replace xS : w30.cell? ⟨w2.heap.size, 0, none⟩ = some (.slice As rs.length cs) := cellOf hb30 (cell_drew xS)
      replace xT : w30.cell? ⟨w3.heap.size, 0, none⟩ = some (.slice At rt.length ct) := cellOf hb30 (cell_drew xT)
      replace xO : w30.cell? ⟨w6.heap.size, 0, none⟩ = some (.slice Ao ro.length co) := cellOf hb30 (cell_drew xO)
      replace xD : w30.cell? ⟨w7.heap.size, 0, none⟩ = some (.slice Ad rd.length cd) := cellOf hb30 (cell_drew xD)
      replace xL : w30.cell? ⟨w8.heap.size, 0, none⟩ = some (.slice Al rl.length cl) := cellOf hb30 (cell_drew xL)
      rw [hox]
      clear hb30
      go_wp2_with fail
      refine hK.out _ _ ?_ (fun hH1 => ?_)
      · (try dsimp only); exact ⟨xS, xT, xO, xD, xL⟩
      clear hK K
      clear hH0
      try simp only [Act.put, List.setIfInBounds_toArray, List.set_cons_zero, List.set_cons_succ]
      refine wpAnyH_take (i := 4) (oi := { dst := some 96, op := Go.Op.move (Go.Operand.tmp 95), type := 4, pos := "law.go:151", after := #[{ on := 3, ground := Go.Ground.data }, { on := 2, ground := Go.Ground.chain }], guard := none }) (v := ?_) rfl (by kernel_rfl) (by kernel_rfl) (by kernel_rfl) (fun _ _ _ h => h) (Or.inl ⟨by rfl, ?_⟩) (by assumption) ?_
      rotate_left
      · intro wq hSw; (try dsimp only at hSw); go_simp; (try with_reducible rfl)
      try simp only [Act.put, List.setIfInBounds_toArray, List.set_cons_zero, List.set_cons_succ]
      refine wpAnyH_take (i := 5) (oi := { dst := some 97, op := Go.Op.move (Go.Operand.tmp 13), type := 4, pos := "law.go:151", after := #[{ on := 4, ground := Go.Ground.guard }], guard := some (4, false) }) (v := ?_) rfl (by kernel_rfl) (by kernel_rfl) (by kernel_rfl) (fun _ _ _ h => h) (Or.inl ⟨by rfl, ?_⟩) (by assumption) ?_
      rotate_left
      · intro wq hSw; (try dsimp only at hSw); go_simp; (try with_reducible rfl)
      try simp only [Act.put, List.setIfInBounds_toArray, List.set_cons_zero, List.set_cons_succ]
      refine wpAnyH_take (i := 6) (oi := { dst := some 98, op := Go.Op.pick (Go.Operand.tmp 96) (Go.Operand.const (Go.Value.bool true)) (Go.Operand.tmp 97), type := 4, pos := "law.go:151", after := #[{ on := 4, ground := Go.Ground.data }, { on := 5, ground := Go.Ground.data }], guard := none }) (v := ?_) rfl (by kernel_rfl) (by kernel_rfl) (by kernel_rfl) (fun _ _ _ h => h) (Or.inl ⟨by rfl, ?_⟩) (by assumption) ?_
      rotate_left
      · intro wq hSw; (try dsimp only at hSw); go_simp; (try with_reducible rfl)
      try simp only [Act.put, List.setIfInBounds_toArray, List.set_cons_zero, List.set_cons_succ]
      refine wpAnyH_take (i := 7) (oi := { dst := some 99, op := Go.Op.binOp Go.BinOp.eql 4 (Go.Operand.tmp 94) (Go.Operand.tmp 98) 4, type := 4, pos := "law.go:151", after := #[{ on := 2, ground := Go.Ground.data }, { on := 6, ground := Go.Ground.data }], guard := none }) (v := ?_) rfl (by kernel_rfl) (by kernel_rfl) (by kernel_rfl) (fun _ _ _ h => h) (Or.inl ⟨by rfl, ?_⟩) (by assumption) ?_
      rotate_left
      · intro wq hSw; (try dsimp only at hSw); go_simp; (try with_reducible rfl)
      try simp only [Act.put, List.setIfInBounds_toArray, List.set_cons_zero, List.set_cons_succ]
      refine wpAnyH_take (i := 8) (oi := { dst := some 100, op := Go.Op.move (Go.Operand.tmp 99), type := 4, pos := "law.go:151", after := #[{ on := 7, ground := Go.Ground.data }, { on := 4, ground := Go.Ground.chain }], guard := none }) (v := ?_) rfl (by kernel_rfl) (by kernel_rfl) (by kernel_rfl) (fun _ _ _ h => h) (Or.inl ⟨by rfl, ?_⟩) (by assumption) ?_
      rotate_left
      · intro wq hSw; (try dsimp only at hSw); go_simp; (try with_reducible rfl)
      try simp only [Act.put, List.setIfInBounds_toArray, List.set_cons_zero, List.set_cons_succ]
      refine wpAnyH_take (i := 9) (oi := { dst := some 101, op := Go.Op.load 77 (Go.Operand.tmp 15), type := 77, pos := "law.go:151", after := #[{ on := 8, ground := Go.Ground.guard }], guard := some (8, true) }) (v := ?_) rfl (by kernel_rfl) (by kernel_rfl) (by kernel_rfl) (fun _ _ _ h => h) (Or.inl ⟨by rfl, ?_⟩) (by assumption) ?_
      rotate_left
      · intro wq hSw; (try dsimp only at hSw); go_simp; (try with_reducible rfl)
      try simp only [Act.put, List.setIfInBounds_toArray, List.set_cons_zero, List.set_cons_succ]
      refine wpAnyH_take (i := 10) (oi := { dst := some 102, op := Go.Op.move (Go.Operand.tmp 2), type := 3, pos := "law.go:151", after := #[{ on := 8, ground := Go.Ground.guard }], guard := some (8, true) }) (v := ?_) rfl (by kernel_rfl) (by kernel_rfl) (by kernel_rfl) (fun _ _ _ h => h) (Or.inl ⟨by rfl, ?_⟩) (by assumption) ?_
      rotate_left
      · intro wq hSw; (try dsimp only at hSw); go_simp; (try with_reducible rfl)
      try simp only [Act.put, List.setIfInBounds_toArray, List.set_cons_zero, List.set_cons_succ]
      refine wpAnyH_take (i := 12) (oi := { dst := some 104, op := Go.Op.move (Go.Operand.tmp 12), type := 4, pos := "law.go:151", after := #[{ on := 8, ground := Go.Ground.guard }], guard := some (8, true) }) (v := ?_) rfl (by kernel_rfl) (by kernel_rfl) (by kernel_rfl) (fun _ _ _ h => h) (Or.inl ⟨by rfl, ?_⟩) (by assumption) ?_
      rotate_left
      · intro wq hSw; (try dsimp only at hSw); go_simp; (try with_reducible rfl)
      try simp only [Act.put, List.setIfInBounds_toArray, List.set_cons_zero, List.set_cons_succ]
      refine wpAnyH_ready (rs := [11]) (by kernel_rfl) (by simp) ?_
      refine AllReadyH.cons (o := { dst := some 103, op := Go.Op.call { callee := Go.Callee.value (Go.Operand.func 63), args := #[Go.Operand.tmp 101, Go.Operand.tmp 102], argTypes := #[77, 3] }, type := 4, pos := "law.go:151", after := #[{ on := 9, ground := Go.Ground.data }, { on := 10, ground := Go.Ground.data }, { on := 8, ground := Go.Ground.chain }, { on := 8, ground := Go.Ground.guard }], guard := some (8, true) }) rfl (fun K hK => ?_) ?_
      rotate_left
      · exact AllReadyH.nil
      go_simp
      refine (hasS_any rd Ad cd n _ (moved HD.out aD) (by omega)).mono ?_
      rintro e w31 ⟨rfl, hb31⟩
      have hw31 : Below w.heap.size w w31 := stepH hw30 hb31
      have z31 := hw31.size
      replace aS : Below w2.heap.size w2 w31 := stepH aS hb31
      replace yaS := aS.size
      replace aT : Below w3.heap.size w3 w31 := stepH aT hb31
      replace yaT := aT.size
      replace aO : Below w6.heap.size w6 w31 := stepH aO hb31
      replace yaO := aO.size
      replace aD : Below w7.heap.size w7 w31 := stepH aD hb31
      replace yaD := aD.size
      replace aL : Below w8.heap.size w8 w31 := stepH aL hb31
      replace yaL := aL.size
      replace aG : Below w10.heap.size w10 w31 := stepH aG hb31
      replace yaG := aG.size
      replace S := keepH hb31 S.out
      replace T := keepH hb31 T.out
      replace O := keepH hb31 O.out
      replace D := keepH hb31 D.out
      replace L := keepH hb31 L.out
      replace G := keepH hb31 G.out
      replace xS : w31.cell? ⟨w2.heap.size, 0, none⟩ = some (.slice As rs.length cs) := cellOf hb31 xS
      replace xT : w31.cell? ⟨w3.heap.size, 0, none⟩ = some (.slice At rt.length ct) := cellOf hb31 xT
      replace xO : w31.cell? ⟨w6.heap.size, 0, none⟩ = some (.slice Ao ro.length co) := cellOf hb31 xO
      replace xD : w31.cell? ⟨w7.heap.size, 0, none⟩ = some (.slice Ad rd.length cd) := cellOf hb31 xD
      replace xL : w31.cell? ⟨w8.heap.size, 0, none⟩ = some (.slice Al rl.length cl) := cellOf hb31 xL
      rw [hdx]
      clear hb31
      go_wp2_with fail
      refine hK.out _ _ ?_ (fun hH2 => ?_)
      · (try dsimp only); exact ⟨xS, xT, xO, xD, xL⟩
      clear hK K
      clear hH1
      try simp only [Act.put, List.setIfInBounds_toArray, List.set_cons_zero, List.set_cons_succ]
      refine wpAnyH_take (i := 13) (oi := { dst := some 105, op := Go.Op.move (Go.Operand.tmp 104), type := 4, pos := "law.go:151", after := #[{ on := 12, ground := Go.Ground.data }, { on := 11, ground := Go.Ground.chain }, { on := 8, ground := Go.Ground.guard }], guard := some (8, true) }) (v := ?_) rfl (by kernel_rfl) (by kernel_rfl) (by kernel_rfl) (fun _ _ _ h => h) (Or.inl ⟨by rfl, ?_⟩) (by assumption) ?_
      rotate_left
      · intro wq hSw; (try dsimp only at hSw); go_simp; (try with_reducible rfl)
      try simp only [Act.put, List.setIfInBounds_toArray, List.set_cons_zero, List.set_cons_succ]
      refine wpAnyH_take (i := 14) (oi := { dst := some 106, op := Go.Op.move (Go.Operand.tmp 13), type := 4, pos := "law.go:151", after := #[{ on := 13, ground := Go.Ground.guard }], guard := some (13, true) }) (v := undef) rfl (by kernel_rfl) (by kernel_rfl) (by kernel_rfl) (fun _ _ _ h => h) (Or.inr ⟨by rfl, rfl⟩) (by assumption) ?_
      try simp only [Act.put, List.setIfInBounds_toArray, List.set_cons_zero, List.set_cons_succ]
      refine wpAnyH_take (i := 15) (oi := { dst := some 107, op := Go.Op.pick (Go.Operand.tmp 105) (Go.Operand.tmp 106) (Go.Operand.const (Go.Value.bool false)), type := 4, pos := "law.go:151", after := #[{ on := 13, ground := Go.Ground.data }, { on := 14, ground := Go.Ground.data }, { on := 8, ground := Go.Ground.guard }], guard := some (8, true) }) (v := ?_) rfl (by kernel_rfl) (by kernel_rfl) (by kernel_rfl) (fun _ _ _ h => h) (Or.inl ⟨by rfl, ?_⟩) (by assumption) ?_
      rotate_left
      · intro wq hSw; (try dsimp only at hSw); go_simp; (try with_reducible rfl)
      try simp only [Act.put, List.setIfInBounds_toArray, List.set_cons_zero, List.set_cons_succ]
      refine wpAnyH_take (i := 16) (oi := { dst := some 108, op := Go.Op.binOp Go.BinOp.eql 4 (Go.Operand.tmp 103) (Go.Operand.tmp 107) 4, type := 4, pos := "law.go:151", after := #[{ on := 11, ground := Go.Ground.data }, { on := 15, ground := Go.Ground.data }, { on := 8, ground := Go.Ground.guard }], guard := some (8, true) }) (v := ?_) rfl (by kernel_rfl) (by kernel_rfl) (by kernel_rfl) (fun _ _ _ h => h) (Or.inl ⟨by rfl, ?_⟩) (by assumption) ?_
      rotate_left
      · intro wq hSw; (try dsimp only at hSw); go_simp; (try with_reducible rfl)
      try simp only [Act.put, List.setIfInBounds_toArray, List.set_cons_zero, List.set_cons_succ]
      refine wpAnyH_take (i := 17) (oi := { dst := some 109, op := Go.Op.pick (Go.Operand.tmp 100) (Go.Operand.tmp 108) (Go.Operand.const (Go.Value.bool false)), type := 4, pos := "law.go:151", after := #[{ on := 8, ground := Go.Ground.data }, { on := 16, ground := Go.Ground.data }], guard := none }) (v := ?_) rfl (by kernel_rfl) (by kernel_rfl) (by kernel_rfl) (fun _ _ _ h => h) (Or.inl ⟨by rfl, ?_⟩) (by assumption) ?_
      rotate_left
      · intro wq hSw; (try dsimp only at hSw); go_simp; (try with_reducible rfl)
      try simp only [Act.put, List.setIfInBounds_toArray, List.set_cons_zero, List.set_cons_succ]
      refine wpAnyH_take (i := 18) (oi := { dst := some 110, op := Go.Op.move (Go.Operand.tmp 109), type := 4, pos := "law.go:151", after := #[{ on := 17, ground := Go.Ground.data }, { on := 13, ground := Go.Ground.chain }], guard := none }) (v := ?_) rfl (by kernel_rfl) (by kernel_rfl) (by kernel_rfl) (fun _ _ _ h => h) (Or.inl ⟨by rfl, ?_⟩) (by assumption) ?_
      rotate_left
      · intro wq hSw; (try dsimp only at hSw); go_simp; (try with_reducible rfl)
      try simp only [Act.put, List.setIfInBounds_toArray, List.set_cons_zero, List.set_cons_succ]
      refine wpAnyH_take (i := 19) (oi := { dst := some 111, op := Go.Op.load 77 (Go.Operand.tmp 16), type := 77, pos := "law.go:151", after := #[{ on := 18, ground := Go.Ground.guard }], guard := some (18, true) }) (v := ?_) rfl (by kernel_rfl) (by kernel_rfl) (by kernel_rfl) (fun _ _ _ h => h) (Or.inl ⟨by rfl, ?_⟩) (by assumption) ?_
      rotate_left
      · intro wq hSw; (try dsimp only at hSw); go_simp; (try with_reducible rfl)
      try simp only [Act.put, List.setIfInBounds_toArray, List.set_cons_zero, List.set_cons_succ]
      refine wpAnyH_take (i := 20) (oi := { dst := some 112, op := Go.Op.move (Go.Operand.tmp 2), type := 3, pos := "law.go:151", after := #[{ on := 18, ground := Go.Ground.guard }], guard := some (18, true) }) (v := ?_) rfl (by kernel_rfl) (by kernel_rfl) (by kernel_rfl) (fun _ _ _ h => h) (Or.inl ⟨by rfl, ?_⟩) (by assumption) ?_
      rotate_left
      · intro wq hSw; (try dsimp only at hSw); go_simp; (try with_reducible rfl)
      try simp only [Act.put, List.setIfInBounds_toArray, List.set_cons_zero, List.set_cons_succ]
      refine wpAnyH_take (i := 22) (oi := { dst := some 114, op := Go.Op.move (Go.Operand.tmp 12), type := 4, pos := "law.go:151", after := #[{ on := 18, ground := Go.Ground.guard }], guard := some (18, true) }) (v := ?_) rfl (by kernel_rfl) (by kernel_rfl) (by kernel_rfl) (fun _ _ _ h => h) (Or.inl ⟨by rfl, ?_⟩) (by assumption) ?_
      rotate_left
      · intro wq hSw; (try dsimp only at hSw); go_simp; (try with_reducible rfl)
      try simp only [Act.put, List.setIfInBounds_toArray, List.set_cons_zero, List.set_cons_succ]
      refine wpAnyH_ready (rs := [21]) (by kernel_rfl) (by simp) ?_
      refine AllReadyH.cons (o := { dst := some 113, op := Go.Op.call { callee := Go.Callee.value (Go.Operand.func 63), args := #[Go.Operand.tmp 111, Go.Operand.tmp 112], argTypes := #[77, 3] }, type := 4, pos := "law.go:151", after := #[{ on := 19, ground := Go.Ground.data }, { on := 20, ground := Go.Ground.data }, { on := 18, ground := Go.Ground.chain }, { on := 18, ground := Go.Ground.guard }], guard := some (18, true) }) rfl (fun K hK => ?_) ?_
      rotate_left
      · exact AllReadyH.nil
      go_simp
      refine (hasS_any rl Al cl n _ (moved HL.out aL) (by omega)).mono ?_
      rintro e w32 ⟨rfl, hb32⟩
      have hw32 : Below w.heap.size w w32 := stepH hw31 hb32
      have z32 := hw32.size
      replace aS : Below w2.heap.size w2 w32 := stepH aS hb32
      replace yaS := aS.size
      replace aT : Below w3.heap.size w3 w32 := stepH aT hb32
      replace yaT := aT.size
      replace aO : Below w6.heap.size w6 w32 := stepH aO hb32
      replace yaO := aO.size
      replace aD : Below w7.heap.size w7 w32 := stepH aD hb32
      replace yaD := aD.size
      replace aL : Below w8.heap.size w8 w32 := stepH aL hb32
      replace yaL := aL.size
      replace aG : Below w10.heap.size w10 w32 := stepH aG hb32
      replace yaG := aG.size
      replace S := keepH hb32 S.out
      replace T := keepH hb32 T.out
      replace O := keepH hb32 O.out
      replace D := keepH hb32 D.out
      replace L := keepH hb32 L.out
      replace G := keepH hb32 G.out
      replace xS : w32.cell? ⟨w2.heap.size, 0, none⟩ = some (.slice As rs.length cs) := cellOf hb32 xS
      replace xT : w32.cell? ⟨w3.heap.size, 0, none⟩ = some (.slice At rt.length ct) := cellOf hb32 xT
      replace xO : w32.cell? ⟨w6.heap.size, 0, none⟩ = some (.slice Ao ro.length co) := cellOf hb32 xO
      replace xD : w32.cell? ⟨w7.heap.size, 0, none⟩ = some (.slice Ad rd.length cd) := cellOf hb32 xD
      replace xL : w32.cell? ⟨w8.heap.size, 0, none⟩ = some (.slice Al rl.length cl) := cellOf hb32 xL
      rw [hlx]
      clear hb32
      go_wp2_with fail
      refine hK.out _ _ ?_ (fun hH3 => ?_)
      · (try dsimp only); exact ⟨xS, xT, xO, xD, xL⟩
      clear hK K
      clear hH2
      try simp only [Act.put, List.setIfInBounds_toArray, List.set_cons_zero, List.set_cons_succ]
      refine wpAnyH_take (i := 23) (oi := { dst := some 115, op := Go.Op.move (Go.Operand.tmp 114), type := 4, pos := "law.go:151", after := #[{ on := 22, ground := Go.Ground.data }, { on := 21, ground := Go.Ground.chain }, { on := 18, ground := Go.Ground.guard }], guard := some (18, true) }) (v := ?_) rfl (by kernel_rfl) (by kernel_rfl) (by kernel_rfl) (fun _ _ _ h => h) (Or.inl ⟨by rfl, ?_⟩) (by assumption) ?_
      rotate_left
      · intro wq hSw; (try dsimp only at hSw); go_simp; (try with_reducible rfl)
      try simp only [Act.put, List.setIfInBounds_toArray, List.set_cons_zero, List.set_cons_succ]
      refine wpAnyH_take (i := 24) (oi := { dst := some 116, op := Go.Op.move (Go.Operand.tmp 13), type := 4, pos := "law.go:151", after := #[{ on := 23, ground := Go.Ground.guard }], guard := some (23, true) }) (v := undef) rfl (by kernel_rfl) (by kernel_rfl) (by kernel_rfl) (fun _ _ _ h => h) (Or.inr ⟨by rfl, rfl⟩) (by assumption) ?_
      try simp only [Act.put, List.setIfInBounds_toArray, List.set_cons_zero, List.set_cons_succ]
      refine wpAnyH_take (i := 25) (oi := { dst := some 117, op := Go.Op.unOp Go.UnOp.not 4 (Go.Operand.tmp 116), type := 4, pos := "law.go:151", after := #[{ on := 24, ground := Go.Ground.data }, { on := 23, ground := Go.Ground.guard }], guard := some (23, true) }) (v := undef) rfl (by kernel_rfl) (by kernel_rfl) (by kernel_rfl) (fun _ _ _ h => h) (Or.inr ⟨by rfl, rfl⟩) (by assumption) ?_
      try simp only [Act.put, List.setIfInBounds_toArray, List.set_cons_zero, List.set_cons_succ]
      refine wpAnyH_take (i := 26) (oi := { dst := some 118, op := Go.Op.pick (Go.Operand.tmp 115) (Go.Operand.tmp 117) (Go.Operand.const (Go.Value.bool false)), type := 4, pos := "law.go:151", after := #[{ on := 23, ground := Go.Ground.data }, { on := 25, ground := Go.Ground.data }, { on := 18, ground := Go.Ground.guard }], guard := some (18, true) }) (v := ?_) rfl (by kernel_rfl) (by kernel_rfl) (by kernel_rfl) (fun _ _ _ h => h) (Or.inl ⟨by rfl, ?_⟩) (by assumption) ?_
      rotate_left
      · intro wq hSw; (try dsimp only at hSw); go_simp; (try with_reducible rfl)
      try simp only [Act.put, List.setIfInBounds_toArray, List.set_cons_zero, List.set_cons_succ]
      refine wpAnyH_take (i := 27) (oi := { dst := some 119, op := Go.Op.binOp Go.BinOp.eql 4 (Go.Operand.tmp 113) (Go.Operand.tmp 118) 4, type := 4, pos := "law.go:151", after := #[{ on := 21, ground := Go.Ground.data }, { on := 26, ground := Go.Ground.data }, { on := 18, ground := Go.Ground.guard }], guard := some (18, true) }) (v := ?_) rfl (by kernel_rfl) (by kernel_rfl) (by kernel_rfl) (fun _ _ _ h => h) (Or.inl ⟨by rfl, ?_⟩) (by assumption) ?_
      rotate_left
      · intro wq hSw; (try dsimp only at hSw); go_simp; (try with_reducible rfl)
      try simp only [Act.put, List.setIfInBounds_toArray, List.set_cons_zero, List.set_cons_succ]
      refine wpAnyH_take (i := 28) (oi := { dst := some 120, op := Go.Op.pick (Go.Operand.tmp 110) (Go.Operand.tmp 119) (Go.Operand.const (Go.Value.bool false)), type := 4, pos := "law.go:151", after := #[{ on := 18, ground := Go.Ground.data }, { on := 27, ground := Go.Ground.data }], guard := none }) (v := ?_) rfl (by kernel_rfl) (by kernel_rfl) (by kernel_rfl) (fun _ _ _ h => h) (Or.inl ⟨by rfl, ?_⟩) (by assumption) ?_
      rotate_left
      · intro wq hSw; (try dsimp only at hSw); go_simp; (try with_reducible rfl)
      try simp only [Act.put, List.setIfInBounds_toArray, List.set_cons_zero, List.set_cons_succ]
      refine wpAnyH_take (i := 29) (oi := { dst := some 121, op := Go.Op.move (Go.Operand.tmp 120), type := 4, pos := "law.go:151", after := #[{ on := 28, ground := Go.Ground.data }, { on := 23, ground := Go.Ground.chain }], guard := none }) (v := ?_) rfl (by kernel_rfl) (by kernel_rfl) (by kernel_rfl) (fun _ _ _ h => h) (Or.inl ⟨by rfl, ?_⟩) (by assumption) ?_
      rotate_left
      · intro wq hSw; (try dsimp only at hSw); go_simp; (try with_reducible rfl)
      try simp only [Act.put, List.setIfInBounds_toArray, List.set_cons_zero, List.set_cons_succ]
      refine wpAnyH_take (i := 30) (oi := { dst := some 122, op := Go.Op.load 77 (Go.Operand.tmp 14), type := 77, pos := "law.go:151", after := #[{ on := 29, ground := Go.Ground.guard }], guard := some (29, true) }) (v := ?_) rfl (by kernel_rfl) (by kernel_rfl) (by kernel_rfl) (fun _ _ _ h => h) (Or.inl ⟨by rfl, ?_⟩) (by assumption) ?_
      rotate_left
      · intro wq hSw; (try dsimp only at hSw); go_simp; (try with_reducible rfl)
      try simp only [Act.put, List.setIfInBounds_toArray, List.set_cons_zero, List.set_cons_succ]
      refine wpAnyH_take (i := 32) (oi := { dst := some 124, op := Go.Op.load 77 (Go.Operand.tmp 15), type := 77, pos := "law.go:151", after := #[{ on := 29, ground := Go.Ground.guard }], guard := some (29, true) }) (v := ?_) rfl (by kernel_rfl) (by kernel_rfl) (by kernel_rfl) (fun _ _ _ h => h) (Or.inl ⟨by rfl, ?_⟩) (by assumption) ?_
      rotate_left
      · intro wq hSw; (try dsimp only at hSw); go_simp; (try with_reducible rfl)
      try simp only [Act.put, List.setIfInBounds_toArray, List.set_cons_zero, List.set_cons_succ]
      refine wpAnyH_take (i := 35) (oi := { dst := some 127, op := Go.Op.load 77 (Go.Operand.tmp 8), type := 77, pos := "law.go:151", after := #[{ on := 29, ground := Go.Ground.guard }], guard := some (29, true) }) (v := ?_) rfl (by kernel_rfl) (by kernel_rfl) (by kernel_rfl) (fun _ _ _ h => h) (Or.inl ⟨by rfl, ?_⟩) (by assumption) ?_
      rotate_left
      · intro wq hSw; (try dsimp only at hSw); go_simp; (try with_reducible rfl)
      try simp only [Act.put, List.setIfInBounds_toArray, List.set_cons_zero, List.set_cons_succ]
      refine wpAnyH_take (i := 37) (oi := { dst := some 129, op := Go.Op.load 77 (Go.Operand.tmp 10), type := 77, pos := "law.go:151", after := #[{ on := 29, ground := Go.Ground.guard }], guard := some (29, true) }) (v := ?_) rfl (by kernel_rfl) (by kernel_rfl) (by kernel_rfl) (fun _ _ _ h => h) (Or.inl ⟨by rfl, ?_⟩) (by assumption) ?_
      rotate_left
      · intro wq hSw; (try dsimp only at hSw); go_simp; (try with_reducible rfl)
      try simp only [Act.put, List.setIfInBounds_toArray, List.set_cons_zero, List.set_cons_succ]
      refine wpAnyH_ready (rs := [31]) (by kernel_rfl) (by simp) ?_
      refine AllReadyH.cons (o := { dst := some 123, op := Go.Op.call { callee := Go.Callee.value (Go.Operand.func 60), args := #[Go.Operand.tmp 122], argTypes := #[77] }, type := 3, pos := "law.go:151", after := #[{ on := 30, ground := Go.Ground.data }, { on := 29, ground := Go.Ground.chain }, { on := 29, ground := Go.Ground.guard }], guard := some (29, true) }) rfl (fun K hK => ?_) ?_
      rotate_left
      · exact AllReadyH.nil
      go_simp
      refine (lenS_any ro Ao co _ (moved HO.out aO) (by omega) CO.out.canon).mono ?_
      rintro e w33 ⟨rfl, hb33⟩
      have hw33 : Below w.heap.size w w33 := stepH hw32 hb33
      have z33 := hw33.size
      replace aS : Below w2.heap.size w2 w33 := stepH aS hb33
      replace yaS := aS.size
      replace aT : Below w3.heap.size w3 w33 := stepH aT hb33
      replace yaT := aT.size
      replace aO : Below w6.heap.size w6 w33 := stepH aO hb33
      replace yaO := aO.size
      replace aD : Below w7.heap.size w7 w33 := stepH aD hb33
      replace yaD := aD.size
      replace aL : Below w8.heap.size w8 w33 := stepH aL hb33
      replace yaL := aL.size
      replace aG : Below w10.heap.size w10 w33 := stepH aG hb33
      replace yaG := aG.size
      replace S := keepH hb33 S.out
      replace T := keepH hb33 T.out
      replace O := keepH hb33 O.out
      replace D := keepH hb33 D.out
      replace L := keepH hb33 L.out
      replace G := keepH hb33 G.out
      replace xS : w33.cell? ⟨w2.heap.size, 0, none⟩ = some (.slice As rs.length cs) := cellOf hb33 xS
      replace xT : w33.cell? ⟨w3.heap.size, 0, none⟩ = some (.slice At rt.length ct) := cellOf hb33 xT
      replace xO : w33.cell? ⟨w6.heap.size, 0, none⟩ = some (.slice Ao ro.length co) := cellOf hb33 xO
      replace xD : w33.cell? ⟨w7.heap.size, 0, none⟩ = some (.slice Ad rd.length cd) := cellOf hb33 xD
      replace xL : w33.cell? ⟨w8.heap.size, 0, none⟩ = some (.slice Al rl.length cl) := cellOf hb33 xL
      rw [N3.out]
      clear hb33
      go_wp2_with fail
      refine hK.out _ _ ?_ (fun hH4 => ?_)
      · (try dsimp only); exact ⟨xS, xT, xO, xD, xL⟩
      clear hK K
      clear hH3
      try simp only [Act.put, List.setIfInBounds_toArray, List.set_cons_zero, List.set_cons_succ]
      refine wpAnyH_ready (rs := [33]) (by kernel_rfl) (by simp) ?_
      refine AllReadyH.cons (o := { dst := some 125, op := Go.Op.call { callee := Go.Callee.value (Go.Operand.func 60), args := #[Go.Operand.tmp 124], argTypes := #[77] }, type := 3, pos := "law.go:151", after := #[{ on := 32, ground := Go.Ground.data }, { on := 31, ground := Go.Ground.chain }, { on := 29, ground := Go.Ground.guard }], guard := some (29, true) }) rfl (fun K hK => ?_) ?_
      rotate_left
      · exact AllReadyH.nil
      go_simp
      refine (lenS_any rd Ad cd _ (moved HD.out aD) (by omega) CD.out.canon).mono ?_
      rintro e w34 ⟨rfl, hb34⟩
      have hw34 : Below w.heap.size w w34 := stepH hw33 hb34
      have z34 := hw34.size
      replace aS : Below w2.heap.size w2 w34 := stepH aS hb34
      replace yaS := aS.size
      replace aT : Below w3.heap.size w3 w34 := stepH aT hb34
      replace yaT := aT.size
      replace aO : Below w6.heap.size w6 w34 := stepH aO hb34
      replace yaO := aO.size
      replace aD : Below w7.heap.size w7 w34 := stepH aD hb34
      replace yaD := aD.size
      replace aL : Below w8.heap.size w8 w34 := stepH aL hb34
      replace yaL := aL.size
      replace aG : Below w10.heap.size w10 w34 := stepH aG hb34
      replace yaG := aG.size
      replace S := keepH hb34 S.out
      replace T := keepH hb34 T.out
      replace O := keepH hb34 O.out
      replace D := keepH hb34 D.out
      replace L := keepH hb34 L.out
      replace G := keepH hb34 G.out
      replace xS : w34.cell? ⟨w2.heap.size, 0, none⟩ = some (.slice As rs.length cs) := cellOf hb34 xS
      replace xT : w34.cell? ⟨w3.heap.size, 0, none⟩ = some (.slice At rt.length ct) := cellOf hb34 xT
      replace xO : w34.cell? ⟨w6.heap.size, 0, none⟩ = some (.slice Ao ro.length co) := cellOf hb34 xO
      replace xD : w34.cell? ⟨w7.heap.size, 0, none⟩ = some (.slice Ad rd.length cd) := cellOf hb34 xD
      replace xL : w34.cell? ⟨w8.heap.size, 0, none⟩ = some (.slice Al rl.length cl) := cellOf hb34 xL
      rw [N4.out]
      clear hb34
      go_wp2_with fail
      refine hK.out _ _ ?_ (fun hH5 => ?_)
      · (try dsimp only); exact ⟨xS, xT, xO, xD, xL⟩
      clear hK K
      clear hH4
      try simp only [Act.put, List.setIfInBounds_toArray, List.set_cons_zero, List.set_cons_succ]
      refine wpAnyH_take (i := 34) (oi := { dst := some 126, op := Go.Op.binOp Go.BinOp.add 3 (Go.Operand.tmp 123) (Go.Operand.tmp 125) 3, type := 3, pos := "law.go:151", after := #[{ on := 31, ground := Go.Ground.data }, { on := 33, ground := Go.Ground.data }, { on := 29, ground := Go.Ground.guard }], guard := some (29, true) }) (v := ?_) rfl (by kernel_rfl) (by kernel_rfl) (by kernel_rfl) (fun _ _ _ h => h) (Or.inl ⟨by rfl, ?_⟩) (by assumption) ?_
      rotate_left
      · intro wq hSw; (try dsimp only at hSw); go_simp; (try with_reducible rfl)
      try simp only [Act.put, List.setIfInBounds_toArray, List.set_cons_zero, List.set_cons_succ]
      refine wpAnyH_ready (rs := [36]) (by kernel_rfl) (by simp) ?_
      refine AllReadyH.cons (o := { dst := some 128, op := Go.Op.call { callee := Go.Callee.value (Go.Operand.func 60), args := #[Go.Operand.tmp 127], argTypes := #[77] }, type := 3, pos := "law.go:151", after := #[{ on := 35, ground := Go.Ground.data }, { on := 33, ground := Go.Ground.chain }, { on := 29, ground := Go.Ground.guard }], guard := some (29, true) }) rfl (fun K hK => ?_) ?_
      rotate_left
      · exact AllReadyH.nil
      go_simp
      refine (lenS_any rs As cs _ (moved HS.out aS) (by omega) CS.out.canon).mono ?_
      rintro e w35 ⟨rfl, hb35⟩
      have hw35 : Below w.heap.size w w35 := stepH hw34 hb35
      have z35 := hw35.size
      replace aS : Below w2.heap.size w2 w35 := stepH aS hb35
      replace yaS := aS.size
      replace aT : Below w3.heap.size w3 w35 := stepH aT hb35
      replace yaT := aT.size
      replace aO : Below w6.heap.size w6 w35 := stepH aO hb35
      replace yaO := aO.size
      replace aD : Below w7.heap.size w7 w35 := stepH aD hb35
      replace yaD := aD.size
      replace aL : Below w8.heap.size w8 w35 := stepH aL hb35
      replace yaL := aL.size
      replace aG : Below w10.heap.size w10 w35 := stepH aG hb35
      replace yaG := aG.size
      replace S := keepH hb35 S.out
      replace T := keepH hb35 T.out
      replace O := keepH hb35 O.out
      replace D := keepH hb35 D.out
      replace L := keepH hb35 L.out
      replace G := keepH hb35 G.out
      replace xS : w35.cell? ⟨w2.heap.size, 0, none⟩ = some (.slice As rs.length cs) := cellOf hb35 xS
      replace xT : w35.cell? ⟨w3.heap.size, 0, none⟩ = some (.slice At rt.length ct) := cellOf hb35 xT
      replace xO : w35.cell? ⟨w6.heap.size, 0, none⟩ = some (.slice Ao ro.length co) := cellOf hb35 xO
      replace xD : w35.cell? ⟨w7.heap.size, 0, none⟩ = some (.slice Ad rd.length cd) := cellOf hb35 xD
      replace xL : w35.cell? ⟨w8.heap.size, 0, none⟩ = some (.slice Al rl.length cl) := cellOf hb35 xL
      rw [N1.out]
      clear hb35
      go_wp2_with fail
      refine hK.out _ _ ?_ (fun hH6 => ?_)
      · (try dsimp only); exact ⟨xS, xT, xO, xD, xL⟩
      clear hK K
      clear hH5
      try simp only [Act.put, List.setIfInBounds_toArray, List.set_cons_zero, List.set_cons_succ]
      refine wpAnyH_ready (rs := [38]) (by kernel_rfl) (by simp) ?_
      refine AllReadyH.cons (o := { dst := some 130, op := Go.Op.call { callee := Go.Callee.value (Go.Operand.func 60), args := #[Go.Operand.tmp 129], argTypes := #[77] }, type := 3, pos := "law.go:151", after := #[{ on := 37, ground := Go.Ground.data }, { on := 36, ground := Go.Ground.chain }, { on := 29, ground := Go.Ground.guard }], guard := some (29, true) }) rfl (fun K hK => ?_) ?_
      rotate_left
      · exact AllReadyH.nil
      go_simp
      refine (lenS_any rt At ct _ (moved HT.out aT) (by omega) CT.out.canon).mono ?_
      rintro e w36 ⟨rfl, hb36⟩
      have hw36 : Below w.heap.size w w36 := stepH hw35 hb36
      have z36 := hw36.size
      replace aS : Below w2.heap.size w2 w36 := stepH aS hb36
      replace yaS := aS.size
      replace aT : Below w3.heap.size w3 w36 := stepH aT hb36
      replace yaT := aT.size
      replace aO : Below w6.heap.size w6 w36 := stepH aO hb36
      replace yaO := aO.size
      replace aD : Below w7.heap.size w7 w36 := stepH aD hb36
      replace yaD := aD.size
      replace aL : Below w8.heap.size w8 w36 := stepH aL hb36
      replace yaL := aL.size
      replace aG : Below w10.heap.size w10 w36 := stepH aG hb36
      replace yaG := aG.size
      replace S := keepH hb36 S.out
      replace T := keepH hb36 T.out
      replace O := keepH hb36 O.out
      replace D := keepH hb36 D.out
      replace L := keepH hb36 L.out
      replace G := keepH hb36 G.out
      replace xS : w36.cell? ⟨w2.heap.size, 0, none⟩ = some (.slice As rs.length cs) := cellOf hb36 xS
      replace xT : w36.cell? ⟨w3.heap.size, 0, none⟩ = some (.slice At rt.length ct) := cellOf hb36 xT
      replace xO : w36.cell? ⟨w6.heap.size, 0, none⟩ = some (.slice Ao ro.length co) := cellOf hb36 xO
      replace xD : w36.cell? ⟨w7.heap.size, 0, none⟩ = some (.slice Ad rd.length cd) := cellOf hb36 xD
      replace xL : w36.cell? ⟨w8.heap.size, 0, none⟩ = some (.slice Al rl.length cl) := cellOf hb36 xL
      rw [N2.out]
      clear hb36
      go_wp2_with fail
      refine hK.out _ _ ?_ (fun hH7 => ?_)
      · (try dsimp only); exact ⟨xS, xT, xO, xD, xL⟩
      clear hK K
      clear hH6
      try simp only [Act.put, List.setIfInBounds_toArray, List.set_cons_zero, List.set_cons_succ]
      refine wpAnyH_take (i := 39) (oi := { dst := some 131, op := Go.Op.binOp Go.BinOp.add 3 (Go.Operand.tmp 128) (Go.Operand.tmp 130) 3, type := 3, pos := "law.go:151", after := #[{ on := 36, ground := Go.Ground.data }, { on := 38, ground := Go.Ground.data }, { on := 29, ground := Go.Ground.guard }], guard := some (29, true) }) (v := ?_) rfl (by kernel_rfl) (by kernel_rfl) (by kernel_rfl) (fun _ _ _ h => h) (Or.inl ⟨by rfl, ?_⟩) (by assumption) ?_
      rotate_left
      · intro wq hSw; (try dsimp only at hSw); go_simp; (try with_reducible rfl)
      try simp only [Act.put, List.setIfInBounds_toArray, List.set_cons_zero, List.set_cons_succ]
      refine wpAnyH_take (i := 40) (oi := { dst := some 132, op := Go.Op.binOp Go.BinOp.eql 3 (Go.Operand.tmp 126) (Go.Operand.tmp 131) 3, type := 4, pos := "law.go:151", after := #[{ on := 34, ground := Go.Ground.data }, { on := 39, ground := Go.Ground.data }, { on := 29, ground := Go.Ground.guard }], guard := some (29, true) }) (v := ?_) rfl (by kernel_rfl) (by kernel_rfl) (by kernel_rfl) (fun _ _ _ h => h) (Or.inl ⟨by rfl, ?_⟩) (by assumption) ?_
      rotate_left
      · intro wq hSw; (try dsimp only at hSw); go_simp; (try with_reducible rfl)
      try simp only [Act.put, List.setIfInBounds_toArray, List.set_cons_zero, List.set_cons_succ, wr1, wr2, hleq]
      refine wpAnyH_take (i := 41) (oi := { dst := some 133, op := Go.Op.pick (Go.Operand.tmp 121) (Go.Operand.tmp 132) (Go.Operand.const (Go.Value.bool false)), type := 4, pos := "law.go:151", after := #[{ on := 29, ground := Go.Ground.data }, { on := 40, ground := Go.Ground.data }], guard := none }) (v := ?_) rfl (by kernel_rfl) (by kernel_rfl) (by kernel_rfl) (fun _ _ _ h => h) (Or.inl ⟨by rfl, ?_⟩) (by assumption) ?_
      rotate_left
      · intro wq hSw; (try dsimp only at hSw); go_simp; (try with_reducible rfl)
      try simp only [Act.put, List.setIfInBounds_toArray, List.set_cons_zero, List.set_cons_succ]
      refine wpAnyH_take (i := 42) (oi := { dst := some 134, op := Go.Op.move (Go.Operand.tmp 133), type := 4, pos := "law.go:151", after := #[{ on := 41, ground := Go.Ground.data }, { on := 38, ground := Go.Ground.chain }], guard := none }) (v := ?_) rfl (by kernel_rfl) (by kernel_rfl) (by kernel_rfl) (fun _ _ _ h => h) (Or.inl ⟨by rfl, ?_⟩) (by assumption) ?_
      rotate_left
      · intro wq hSw; (try dsimp only at hSw); go_simp; (try with_reducible rfl)
      try simp only [Act.put, List.setIfInBounds_toArray, List.set_cons_zero, List.set_cons_succ]
      refine wpAnyH_take (i := 43) (oi := { dst := some 135, op := Go.Op.move (Go.Operand.tmp 18), type := 41, pos := "law.go:151", after := #[{ on := 42, ground := Go.Ground.guard }], guard := some (42, true) }) (v := ?_) rfl (by kernel_rfl) (by kernel_rfl) (by kernel_rfl) (fun _ _ _ h => h) (Or.inl ⟨by rfl, ?_⟩) (by assumption) ?_
      rotate_left
      · intro wq hSw; (try dsimp only at hSw); go_simp; (try with_reducible rfl)
      try simp only [Act.put, List.setIfInBounds_toArray, List.set_cons_zero, List.set_cons_succ]
      refine wpAnyH_take (i := 44) (oi := { dst := some 136, op := Go.Op.binOp Go.BinOp.eql 41 (Go.Operand.tmp 135) (Go.Operand.const Go.Value.nilIface) 41, type := 4, pos := "law.go:151", after := #[{ on := 43, ground := Go.Ground.data }, { on := 42, ground := Go.Ground.guard }], guard := some (42, true) }) (v := ?_) rfl (by kernel_rfl) (by kernel_rfl) (by kernel_rfl) (fun _ _ _ h => h) (Or.inl ⟨by rfl, ?_⟩) (by assumption) ?_
      rotate_left
      · intro wq hSw; (try dsimp only at hSw); go_simp; (try with_reducible rfl)
      try simp only [Act.put, List.setIfInBounds_toArray, List.set_cons_zero, List.set_cons_succ]
      refine wpAnyH_take (i := 45) (oi := { dst := some 137, op := Go.Op.pick (Go.Operand.tmp 134) (Go.Operand.tmp 136) (Go.Operand.const (Go.Value.bool false)), type := 4, pos := "law.go:151", after := #[{ on := 42, ground := Go.Ground.data }, { on := 44, ground := Go.Ground.data }], guard := none }) (v := ?_) rfl (by kernel_rfl) (by kernel_rfl) (by kernel_rfl) (fun _ _ _ h => h) (Or.inl ⟨by rfl, ?_⟩) (by assumption) ?_
      rotate_left
      · intro wq hSw; (try dsimp only at hSw); go_simp; (try with_reducible rfl)
      try simp only [Act.put, List.setIfInBounds_toArray, List.set_cons_zero, List.set_cons_succ]
      refine wpAnyH_take (i := 46) (oi := { dst := some 138, op := Go.Op.move (Go.Operand.tmp 137), type := 4, pos := "law.go:151", after := #[{ on := 45, ground := Go.Ground.data }, { on := 42, ground := Go.Ground.chain }], guard := none }) (v := ?_) rfl (by kernel_rfl) (by kernel_rfl) (by kernel_rfl) (fun _ _ _ h => h) (Or.inl ⟨by rfl, ?_⟩) (by assumption) ?_
      rotate_left
      · intro wq hSw; (try dsimp only at hSw); go_simp; (try with_reducible rfl)
      try simp only [Act.put, List.setIfInBounds_toArray, List.set_cons_zero, List.set_cons_succ]
      refine wpAnyH_take (i := 47) (oi := { dst := some 139, op := Go.Op.move (Go.Operand.tmp 19), type := 4, pos := "law.go:151", after := #[{ on := 46, ground := Go.Ground.guard }], guard := some (46, true) }) (v := ?_) rfl (by kernel_rfl) (by kernel_rfl) (by kernel_rfl) (fun _ _ _ h => h) (Or.inl ⟨by rfl, ?_⟩) (by assumption) ?_
      rotate_left
      · intro wq hSw; (try dsimp only at hSw); go_simp; (try with_reducible rfl)
      try simp only [Act.put, List.setIfInBounds_toArray, List.set_cons_zero, List.set_cons_succ]
      refine wpAnyH_take (i := 48) (oi := { dst := some 140, op := Go.Op.pick (Go.Operand.tmp 138) (Go.Operand.tmp 139) (Go.Operand.const (Go.Value.bool false)), type := 4, pos := "law.go:151", after := #[{ on := 46, ground := Go.Ground.data }, { on := 47, ground := Go.Ground.data }], guard := none }) (v := ?_) rfl (by kernel_rfl) (by kernel_rfl) (by kernel_rfl) (fun _ _ _ h => h) (Or.inl ⟨by rfl, ?_⟩) (by assumption) ?_
      rotate_left
      · intro wq hSw; (try dsimp only at hSw); go_simp; (try with_reducible rfl)
      try simp only [Act.put, List.setIfInBounds_toArray, List.set_cons_zero, List.set_cons_succ]
      refine wpAnyH_take (i := 49) (oi := { dst := some 141, op := Go.Op.move (Go.Operand.tmp 140), type := 4, pos := "law.go:151", after := #[{ on := 48, ground := Go.Ground.data }, { on := 46, ground := Go.Ground.chain }], guard := none }) (v := ?_) rfl (by kernel_rfl) (by kernel_rfl) (by kernel_rfl) (fun _ _ _ h => h) (Or.inl ⟨by rfl, ?_⟩) (by assumption) ?_
      rotate_left
      · intro wq hSw; (try dsimp only at hSw); go_simp; (try with_reducible rfl)
      try simp only [Act.put, List.setIfInBounds_toArray, List.set_cons_zero, List.set_cons_succ]
      refine wpAnyH_take (i := 50) (oi := { dst := some 142, op := Go.Op.move (Go.Operand.tmp 20), type := 4, pos := "law.go:151", after := #[{ on := 49, ground := Go.Ground.guard }], guard := some (49, true) }) (v := ?_) rfl (by kernel_rfl) (by kernel_rfl) (by kernel_rfl) (fun _ _ _ h => h) (Or.inl ⟨by rfl, ?_⟩) (by assumption) ?_
      rotate_left
      · intro wq hSw; (try dsimp only at hSw); go_simp; (try with_reducible rfl)
      try simp only [Act.put, List.setIfInBounds_toArray, List.set_cons_zero, List.set_cons_succ]
      refine wpAnyH_take (i := 51) (oi := { dst := some 143, op := Go.Op.pick (Go.Operand.tmp 141) (Go.Operand.tmp 142) (Go.Operand.const (Go.Value.bool false)), type := 4, pos := "law.go:151", after := #[{ on := 49, ground := Go.Ground.data }, { on := 50, ground := Go.Ground.data }], guard := none }) (v := ?_) rfl (by kernel_rfl) (by kernel_rfl) (by kernel_rfl) (fun _ _ _ h => h) (Or.inl ⟨by rfl, ?_⟩) (by assumption) ?_
      rotate_left
      · intro wq hSw; (try dsimp only at hSw); go_simp; (try with_reducible rfl)
      try simp only [Act.put, List.setIfInBounds_toArray, List.set_cons_zero, List.set_cons_succ]
      refine wpAnyH_take (i := 52) (oi := { dst := some 144, op := Go.Op.move (Go.Operand.tmp 143), type := 4, pos := "law.go:151", after := #[{ on := 51, ground := Go.Ground.data }, { on := 49, ground := Go.Ground.chain }], guard := none }) (v := ?_) rfl (by kernel_rfl) (by kernel_rfl) (by kernel_rfl) (fun _ _ _ h => h) (Or.inl ⟨by rfl, ?_⟩) (by assumption) ?_
      rotate_left
      · intro wq hSw; (try dsimp only at hSw); go_simp; (try with_reducible rfl)
      try simp only [Act.put, List.setIfInBounds_toArray, List.set_cons_zero, List.set_cons_succ]
      refine wpAnyH_take (i := 53) (oi := { dst := some 145, op := Go.Op.move (Go.Operand.tmp 21), type := 4, pos := "law.go:151", after := #[{ on := 52, ground := Go.Ground.guard }], guard := some (52, true) }) (v := ?_) rfl (by kernel_rfl) (by kernel_rfl) (by kernel_rfl) (fun _ _ _ h => h) (Or.inl ⟨by rfl, ?_⟩) (by assumption) ?_
      rotate_left
      · intro wq hSw; (try dsimp only at hSw); go_simp; (try with_reducible rfl)
      try simp only [Act.put, List.setIfInBounds_toArray, List.set_cons_zero, List.set_cons_succ]
      refine wpAnyH_take (i := 54) (oi := { dst := some 146, op := Go.Op.pick (Go.Operand.tmp 144) (Go.Operand.tmp 145) (Go.Operand.const (Go.Value.bool false)), type := 4, pos := "law.go:151", after := #[{ on := 52, ground := Go.Ground.data }, { on := 53, ground := Go.Ground.data }], guard := none }) (v := ?_) rfl (by kernel_rfl) (by kernel_rfl) (by kernel_rfl) (fun _ _ _ h => h) (Or.inl ⟨by rfl, ?_⟩) (by assumption) ?_
      rotate_left
      · intro wq hSw; (try dsimp only at hSw); go_simp; (try with_reducible rfl)
      try simp only [Act.put, List.setIfInBounds_toArray, List.set_cons_zero, List.set_cons_succ]
      refine wpAnyH_take (i := 55) (oi := { dst := some 6, op := Go.Op.assign (Go.Operand.tmp 146), type := 4, pos := "law.go:151", after := #[{ on := 54, ground := Go.Ground.data }, { on := 52, ground := Go.Ground.chain }, { on := 0, ground := Go.Ground.phase }, { on := 1, ground := Go.Ground.phase }, { on := 2, ground := Go.Ground.phase }, { on := 3, ground := Go.Ground.phase }, { on := 4, ground := Go.Ground.phase }, { on := 5, ground := Go.Ground.phase }, { on := 6, ground := Go.Ground.phase }, { on := 7, ground := Go.Ground.phase }, { on := 8, ground := Go.Ground.phase }, { on := 9, ground := Go.Ground.phase }, { on := 10, ground := Go.Ground.phase }, { on := 11, ground := Go.Ground.phase }, { on := 12, ground := Go.Ground.phase }, { on := 13, ground := Go.Ground.phase }, { on := 14, ground := Go.Ground.phase }, { on := 15, ground := Go.Ground.phase }, { on := 16, ground := Go.Ground.phase }, { on := 17, ground := Go.Ground.phase }, { on := 18, ground := Go.Ground.phase }, { on := 19, ground := Go.Ground.phase }, { on := 20, ground := Go.Ground.phase }, { on := 21, ground := Go.Ground.phase }, { on := 22, ground := Go.Ground.phase }, { on := 23, ground := Go.Ground.phase }, { on := 24, ground := Go.Ground.phase }, { on := 25, ground := Go.Ground.phase }, { on := 26, ground := Go.Ground.phase }, { on := 27, ground := Go.Ground.phase }, { on := 28, ground := Go.Ground.phase }, { on := 29, ground := Go.Ground.phase }, { on := 30, ground := Go.Ground.phase }, { on := 31, ground := Go.Ground.phase }, { on := 32, ground := Go.Ground.phase }, { on := 33, ground := Go.Ground.phase }, { on := 34, ground := Go.Ground.phase }, { on := 35, ground := Go.Ground.phase }, { on := 36, ground := Go.Ground.phase }, { on := 37, ground := Go.Ground.phase }, { on := 38, ground := Go.Ground.phase }, { on := 39, ground := Go.Ground.phase }, { on := 40, ground := Go.Ground.phase }, { on := 41, ground := Go.Ground.phase }, { on := 42, ground := Go.Ground.phase }, { on := 43, ground := Go.Ground.phase }, { on := 44, ground := Go.Ground.phase }, { on := 45, ground := Go.Ground.phase }, { on := 46, ground := Go.Ground.phase }, { on := 47, ground := Go.Ground.phase }, { on := 48, ground := Go.Ground.phase }, { on := 49, ground := Go.Ground.phase }, { on := 50, ground := Go.Ground.phase }, { on := 51, ground := Go.Ground.phase }, { on := 52, ground := Go.Ground.phase }, { on := 53, ground := Go.Ground.phase }, { on := 54, ground := Go.Ground.phase }], guard := none }) (v := ?_) rfl (by kernel_rfl) (by kernel_rfl) (by kernel_rfl) (fun _ _ _ h => h) (Or.inl ⟨by rfl, ?_⟩) (by assumption) ?_
      rotate_left
      · intro wq hSw; (try dsimp only at hSw); go_simp; (try with_reducible rfl)
      try simp only [Act.put, List.setIfInBounds_toArray, List.set_cons_zero, List.set_cons_succ]
      refine wpAnyH_done (by kernel_rfl) ?_ _
      clear xS xT xO xD xL
      go_wp2_with fail
      go_ret
      exact ⟨rfl, by (repeat' (first | with_reducible exact Below.refl _ _ | with_reducible assumption | with_reducible refine Below.drew ?_ | with_reducible refine below_drewN ?_ _ | with_reducible refine Below.setCell ?_ ?_ _ | with_reducible refine Below.alloc ?_ ?_ _ | omega | (simp; done) | (simp; omega)))⟩
  · cases y
    · replace hox : hasB ro n = true := hox
      replace hdx : hasB rd n = false := hdx
      replace hlx : hasB rl n = true := hlx
      have xS : w22.cell? ⟨w2.heap.size, 0, none⟩ = some (.slice As rs.length cs) := cellH S 0
      have xT : w22.cell? ⟨w3.heap.size, 0, none⟩ = some (.slice At rt.length ct) := cellH T 0
      have xO : w22.cell? ⟨w6.heap.size, 0, none⟩ = some (.slice Ao ro.length co) := cellH O 0
      have xD : w22.cell? ⟨w7.heap.size, 0, none⟩ = some (.slice Ad rd.length cd) := cellH D 0
      have xL : w22.cell? ⟨w8.heap.size, 0, none⟩ = some (.slice Al rl.length cl) := cellH L 0
      go_wp2_with fail
      refine wp_region_held_drew (S := fun w' => w'.cell? ⟨w2.heap.size, 0, none⟩ = some (.slice As rs.length cs) ∧ w'.cell? ⟨w3.heap.size, 0, none⟩ = some (.slice At rt.length ct) ∧ w'.cell? ⟨w6.heap.size, 0, none⟩ = some (.slice Ao ro.length co) ∧ w'.cell? ⟨w7.heap.size, 0, none⟩ = some (.slice Ad rd.length cd) ∧ w'.cell? ⟨w8.heap.size, 0, none⟩ = some (.slice Al rl.length cl)) (by kernel_rfl) ?_ (fun hH0 => ?_)
      · exact ⟨xS, xT, xO, xD, xL⟩
      refine wpAnyH_take (i := 0) (oi := { dst := some 92, op := Go.Op.load 77 (Go.Operand.tmp 14), type := 77, pos := "law.go:151", after := #[], guard := none }) (v := ?_) rfl (by kernel_rfl) (by kernel_rfl) (by kernel_rfl) (fun _ _ _ h => h) (Or.inl ⟨by rfl, ?_⟩) (by assumption) ?_
      rotate_left
      · intro wq hSw; (try dsimp only at hSw); go_simp; (try with_reducible rfl)
      try simp only [Act.put, List.setIfInBounds_toArray, List.set_cons_zero, List.set_cons_succ]
      refine wpAnyH_take (i := 1) (oi := { dst := some 93, op := Go.Op.move (Go.Operand.tmp 2), type := 3, pos := "law.go:151", after := #[], guard := none }) (v := ?_) rfl (by kernel_rfl) (by kernel_rfl) (by kernel_rfl) (fun _ _ _ h => h) (Or.inl ⟨by rfl, ?_⟩) (by assumption) ?_
      rotate_left
      · intro wq hSw; (try dsimp only at hSw); go_simp; (try with_reducible rfl)
      try simp only [Act.put, List.setIfInBounds_toArray, List.set_cons_zero, List.set_cons_succ]
      refine wpAnyH_take (i := 3) (oi := { dst := some 95, op := Go.Op.move (Go.Operand.tmp 12), type := 4, pos := "law.go:151", after := #[], guard := none }) (v := ?_) rfl (by kernel_rfl) (by kernel_rfl) (by kernel_rfl) (fun _ _ _ h => h) (Or.inl ⟨by rfl, ?_⟩) (by assumption) ?_
      rotate_left
      · intro wq hSw; (try dsimp only at hSw); go_simp; (try with_reducible rfl)
      try simp only [Act.put, List.setIfInBounds_toArray, List.set_cons_zero, List.set_cons_succ]
      refine wpAnyH_ready (rs := [2]) (by kernel_rfl) (by simp) ?_
      refine AllReadyH.cons (o := { dst := some 94, op := Go.Op.call { callee := Go.Callee.value (Go.Operand.func 63), args := #[Go.Operand.tmp 92, Go.Operand.tmp 93], argTypes := #[77, 3] }, type := 4, pos := "law.go:151", after := #[{ on := 0, ground := Go.Ground.data }, { on := 1, ground := Go.Ground.data }], guard := none }) rfl (fun K hK => ?_) ?_
      rotate_left
      · exact AllReadyH.nil
      go_simp
      refine (hasS_any ro Ao co n _ (moved HO.out aO.drew) (by omega)).mono ?_
      rintro e w37 ⟨rfl, hb37⟩
      have hw37 : Below w.heap.size w w37 := stepH hw22.drew hb37
      have z37 := hw37.size
      replace aS : Below w2.heap.size w2 w37 := stepH aS.drew hb37
      replace yaS := aS.size
      replace aT : Below w3.heap.size w3 w37 := stepH aT.drew hb37
      replace yaT := aT.size
      replace aO : Below w6.heap.size w6 w37 := stepH aO.drew hb37
      replace yaO := aO.size
      replace aD : Below w7.heap.size w7 w37 := stepH aD.drew hb37
      replace yaD := aD.size
      replace aL : Below w8.heap.size w8 w37 := stepH aL.drew hb37
      replace yaL := aL.size
      replace aG : Below w10.heap.size w10 w37 := stepH aG.drew hb37
      replace yaG := aG.size
      replace S := keepH hb37 (drew_old S.out)
      replace T := keepH hb37 (drew_old T.out)
      replace O := keepH hb37 (drew_old O.out)
      replace D := keepH hb37 (drew_old D.out)
      replace L := keepH hb37 (drew_old L.out)
      replace G := keepH hb37 (drew_old G.out)
      replace xS : w37.cell? ⟨w2.heap.size, 0, none⟩ = some (.slice As rs.length cs) := cellOf hb37 (cell_drew xS)
      replace xT : w37.cell? ⟨w3.heap.size, 0, none⟩ = some (.slice At rt.length ct) := cellOf hb37 (cell_drew xT)
      replace xO : w37.cell? ⟨w6.heap.size, 0, none⟩ = some (.slice Ao ro.length co) := cellOf hb37 (cell_drew xO)
      replace xD : w37.cell? ⟨w7.heap.size, 0, none⟩ = some (.slice Ad rd.length cd) := cellOf hb37 (cell_drew xD)
      replace xL : w37.cell? ⟨w8.heap.size, 0, none⟩ = some (.slice Al rl.length cl) := cellOf hb37 (cell_drew xL)
      rw [hox]
      clear hb37
      go_wp2_with fail
      refine hK.out _ _ ?_ (fun hH1 => ?_)
      · (try dsimp only); exact ⟨xS, xT, xO, xD, xL⟩
      clear hK K
      clear hH0
      try simp only [Act.put, List.setIfInBounds_toArray, List.set_cons_zero, List.set_cons_succ]
      refine wpAnyH_take (i := 4) (oi := { dst := some 96, op := Go.Op.move (Go.Operand.tmp 95), type := 4, pos := "law.go:151", after := #[{ on := 3, ground := Go.Ground.data }, { on := 2, ground := Go.Ground.chain }], guard := none }) (v := ?_) rfl (by kernel_rfl) (by kernel_rfl) (by kernel_rfl) (fun _ _ _ h => h) (Or.inl ⟨by rfl, ?_⟩) (by assumption) ?_
      rotate_left
      · intro wq hSw; (try dsimp only at hSw); go_simp; (try with_reducible rfl)
      try simp only [Act.put, List.setIfInBounds_toArray, List.set_cons_zero, List.set_cons_succ]
      refine wpAnyH_take (i := 5) (oi := { dst := some 97, op := Go.Op.move (Go.Operand.tmp 13), type := 4, pos := "law.go:151", after := #[{ on := 4, ground := Go.Ground.guard }], guard := some (4, false) }) (v := undef) rfl (by kernel_rfl) (by kernel_rfl) (by kernel_rfl) (fun _ _ _ h => h) (Or.inr ⟨by rfl, rfl⟩) (by assumption) ?_
      try simp only [Act.put, List.setIfInBounds_toArray, List.set_cons_zero, List.set_cons_succ]
      refine wpAnyH_take (i := 6) (oi := { dst := some 98, op := Go.Op.pick (Go.Operand.tmp 96) (Go.Operand.const (Go.Value.bool true)) (Go.Operand.tmp 97), type := 4, pos := "law.go:151", after := #[{ on := 4, ground := Go.Ground.data }, { on := 5, ground := Go.Ground.data }], guard := none }) (v := ?_) rfl (by kernel_rfl) (by kernel_rfl) (by kernel_rfl) (fun _ _ _ h => h) (Or.inl ⟨by rfl, ?_⟩) (by assumption) ?_
      rotate_left
      · intro wq hSw; (try dsimp only at hSw); go_simp; (try with_reducible rfl)
      try simp only [Act.put, List.setIfInBounds_toArray, List.set_cons_zero, List.set_cons_succ]
      refine wpAnyH_take (i := 7) (oi := { dst := some 99, op := Go.Op.binOp Go.BinOp.eql 4 (Go.Operand.tmp 94) (Go.Operand.tmp 98) 4, type := 4, pos := "law.go:151", after := #[{ on := 2, ground := Go.Ground.data }, { on := 6, ground := Go.Ground.data }], guard := none }) (v := ?_) rfl (by kernel_rfl) (by kernel_rfl) (by kernel_rfl) (fun _ _ _ h => h) (Or.inl ⟨by rfl, ?_⟩) (by assumption) ?_
      rotate_left
      · intro wq hSw; (try dsimp only at hSw); go_simp; (try with_reducible rfl)
      try simp only [Act.put, List.setIfInBounds_toArray, List.set_cons_zero, List.set_cons_succ]
      refine wpAnyH_take (i := 8) (oi := { dst := some 100, op := Go.Op.move (Go.Operand.tmp 99), type := 4, pos := "law.go:151", after := #[{ on := 7, ground := Go.Ground.data }, { on := 4, ground := Go.Ground.chain }], guard := none }) (v := ?_) rfl (by kernel_rfl) (by kernel_rfl) (by kernel_rfl) (fun _ _ _ h => h) (Or.inl ⟨by rfl, ?_⟩) (by assumption) ?_
      rotate_left
      · intro wq hSw; (try dsimp only at hSw); go_simp; (try with_reducible rfl)
      try simp only [Act.put, List.setIfInBounds_toArray, List.set_cons_zero, List.set_cons_succ]
      refine wpAnyH_take (i := 9) (oi := { dst := some 101, op := Go.Op.load 77 (Go.Operand.tmp 15), type := 77, pos := "law.go:151", after := #[{ on := 8, ground := Go.Ground.guard }], guard := some (8, true) }) (v := ?_) rfl (by kernel_rfl) (by kernel_rfl) (by kernel_rfl) (fun _ _ _ h => h) (Or.inl ⟨by rfl, ?_⟩) (by assumption) ?_
      rotate_left
      · intro wq hSw; (try dsimp only at hSw); go_simp; (try with_reducible rfl)
      try simp only [Act.put, List.setIfInBounds_toArray, List.set_cons_zero, List.set_cons_succ]
      refine wpAnyH_take (i := 10) (oi := { dst := some 102, op := Go.Op.move (Go.Operand.tmp 2), type := 3, pos := "law.go:151", after := #[{ on := 8, ground := Go.Ground.guard }], guard := some (8, true) }) (v := ?_) rfl (by kernel_rfl) (by kernel_rfl) (by kernel_rfl) (fun _ _ _ h => h) (Or.inl ⟨by rfl, ?_⟩) (by assumption) ?_
      rotate_left
      · intro wq hSw; (try dsimp only at hSw); go_simp; (try with_reducible rfl)
      try simp only [Act.put, List.setIfInBounds_toArray, List.set_cons_zero, List.set_cons_succ]
      refine wpAnyH_take (i := 12) (oi := { dst := some 104, op := Go.Op.move (Go.Operand.tmp 12), type := 4, pos := "law.go:151", after := #[{ on := 8, ground := Go.Ground.guard }], guard := some (8, true) }) (v := ?_) rfl (by kernel_rfl) (by kernel_rfl) (by kernel_rfl) (fun _ _ _ h => h) (Or.inl ⟨by rfl, ?_⟩) (by assumption) ?_
      rotate_left
      · intro wq hSw; (try dsimp only at hSw); go_simp; (try with_reducible rfl)
      try simp only [Act.put, List.setIfInBounds_toArray, List.set_cons_zero, List.set_cons_succ]
      refine wpAnyH_ready (rs := [11]) (by kernel_rfl) (by simp) ?_
      refine AllReadyH.cons (o := { dst := some 103, op := Go.Op.call { callee := Go.Callee.value (Go.Operand.func 63), args := #[Go.Operand.tmp 101, Go.Operand.tmp 102], argTypes := #[77, 3] }, type := 4, pos := "law.go:151", after := #[{ on := 9, ground := Go.Ground.data }, { on := 10, ground := Go.Ground.data }, { on := 8, ground := Go.Ground.chain }, { on := 8, ground := Go.Ground.guard }], guard := some (8, true) }) rfl (fun K hK => ?_) ?_
      rotate_left
      · exact AllReadyH.nil
      go_simp
      refine (hasS_any rd Ad cd n _ (moved HD.out aD) (by omega)).mono ?_
      rintro e w38 ⟨rfl, hb38⟩
      have hw38 : Below w.heap.size w w38 := stepH hw37 hb38
      have z38 := hw38.size
      replace aS : Below w2.heap.size w2 w38 := stepH aS hb38
      replace yaS := aS.size
      replace aT : Below w3.heap.size w3 w38 := stepH aT hb38
      replace yaT := aT.size
      replace aO : Below w6.heap.size w6 w38 := stepH aO hb38
      replace yaO := aO.size
      replace aD : Below w7.heap.size w7 w38 := stepH aD hb38
      replace yaD := aD.size
      replace aL : Below w8.heap.size w8 w38 := stepH aL hb38
      replace yaL := aL.size
      replace aG : Below w10.heap.size w10 w38 := stepH aG hb38
      replace yaG := aG.size
      replace S := keepH hb38 S.out
      replace T := keepH hb38 T.out
      replace O := keepH hb38 O.out
      replace D := keepH hb38 D.out
      replace L := keepH hb38 L.out
      replace G := keepH hb38 G.out
      replace xS : w38.cell? ⟨w2.heap.size, 0, none⟩ = some (.slice As rs.length cs) := cellOf hb38 xS
      replace xT : w38.cell? ⟨w3.heap.size, 0, none⟩ = some (.slice At rt.length ct) := cellOf hb38 xT
      replace xO : w38.cell? ⟨w6.heap.size, 0, none⟩ = some (.slice Ao ro.length co) := cellOf hb38 xO
      replace xD : w38.cell? ⟨w7.heap.size, 0, none⟩ = some (.slice Ad rd.length cd) := cellOf hb38 xD
      replace xL : w38.cell? ⟨w8.heap.size, 0, none⟩ = some (.slice Al rl.length cl) := cellOf hb38 xL
      rw [hdx]
      clear hb38
      go_wp2_with fail
      refine hK.out _ _ ?_ (fun hH2 => ?_)
      · (try dsimp only); exact ⟨xS, xT, xO, xD, xL⟩
      clear hK K
      clear hH1
      try simp only [Act.put, List.setIfInBounds_toArray, List.set_cons_zero, List.set_cons_succ]
      refine wpAnyH_take (i := 13) (oi := { dst := some 105, op := Go.Op.move (Go.Operand.tmp 104), type := 4, pos := "law.go:151", after := #[{ on := 12, ground := Go.Ground.data }, { on := 11, ground := Go.Ground.chain }, { on := 8, ground := Go.Ground.guard }], guard := some (8, true) }) (v := ?_) rfl (by kernel_rfl) (by kernel_rfl) (by kernel_rfl) (fun _ _ _ h => h) (Or.inl ⟨by rfl, ?_⟩) (by assumption) ?_
      rotate_left
      · intro wq hSw; (try dsimp only at hSw); go_simp; (try with_reducible rfl)
      try simp only [Act.put, List.setIfInBounds_toArray, List.set_cons_zero, List.set_cons_succ]
      refine wpAnyH_take (i := 14) (oi := { dst := some 106, op := Go.Op.move (Go.Operand.tmp 13), type := 4, pos := "law.go:151", after := #[{ on := 13, ground := Go.Ground.guard }], guard := some (13, true) }) (v := ?_) rfl (by kernel_rfl) (by kernel_rfl) (by kernel_rfl) (fun _ _ _ h => h) (Or.inl ⟨by rfl, ?_⟩) (by assumption) ?_
      rotate_left
      · intro wq hSw; (try dsimp only at hSw); go_simp; (try with_reducible rfl)
      try simp only [Act.put, List.setIfInBounds_toArray, List.set_cons_zero, List.set_cons_succ]
      refine wpAnyH_take (i := 15) (oi := { dst := some 107, op := Go.Op.pick (Go.Operand.tmp 105) (Go.Operand.tmp 106) (Go.Operand.const (Go.Value.bool false)), type := 4, pos := "law.go:151", after := #[{ on := 13, ground := Go.Ground.data }, { on := 14, ground := Go.Ground.data }, { on := 8, ground := Go.Ground.guard }], guard := some (8, true) }) (v := ?_) rfl (by kernel_rfl) (by kernel_rfl) (by kernel_rfl) (fun _ _ _ h => h) (Or.inl ⟨by rfl, ?_⟩) (by assumption) ?_
      rotate_left
      · intro wq hSw; (try dsimp only at hSw); go_simp; (try with_reducible rfl)
      try simp only [Act.put, List.setIfInBounds_toArray, List.set_cons_zero, List.set_cons_succ]
      refine wpAnyH_take (i := 16) (oi := { dst := some 108, op := Go.Op.binOp Go.BinOp.eql 4 (Go.Operand.tmp 103) (Go.Operand.tmp 107) 4, type := 4, pos := "law.go:151", after := #[{ on := 11, ground := Go.Ground.data }, { on := 15, ground := Go.Ground.data }, { on := 8, ground := Go.Ground.guard }], guard := some (8, true) }) (v := ?_) rfl (by kernel_rfl) (by kernel_rfl) (by kernel_rfl) (fun _ _ _ h => h) (Or.inl ⟨by rfl, ?_⟩) (by assumption) ?_
      rotate_left
      · intro wq hSw; (try dsimp only at hSw); go_simp; (try with_reducible rfl)
      try simp only [Act.put, List.setIfInBounds_toArray, List.set_cons_zero, List.set_cons_succ]
      refine wpAnyH_take (i := 17) (oi := { dst := some 109, op := Go.Op.pick (Go.Operand.tmp 100) (Go.Operand.tmp 108) (Go.Operand.const (Go.Value.bool false)), type := 4, pos := "law.go:151", after := #[{ on := 8, ground := Go.Ground.data }, { on := 16, ground := Go.Ground.data }], guard := none }) (v := ?_) rfl (by kernel_rfl) (by kernel_rfl) (by kernel_rfl) (fun _ _ _ h => h) (Or.inl ⟨by rfl, ?_⟩) (by assumption) ?_
      rotate_left
      · intro wq hSw; (try dsimp only at hSw); go_simp; (try with_reducible rfl)
      try simp only [Act.put, List.setIfInBounds_toArray, List.set_cons_zero, List.set_cons_succ]
      refine wpAnyH_take (i := 18) (oi := { dst := some 110, op := Go.Op.move (Go.Operand.tmp 109), type := 4, pos := "law.go:151", after := #[{ on := 17, ground := Go.Ground.data }, { on := 13, ground := Go.Ground.chain }], guard := none }) (v := ?_) rfl (by kernel_rfl) (by kernel_rfl) (by kernel_rfl) (fun _ _ _ h => h) (Or.inl ⟨by rfl, ?_⟩) (by assumption) ?_
      rotate_left
      · intro wq hSw; (try dsimp only at hSw); go_simp; (try with_reducible rfl)
      try simp only [Act.put, List.setIfInBounds_toArray, List.set_cons_zero, List.set_cons_succ]
      refine wpAnyH_take (i := 19) (oi := { dst := some 111, op := Go.Op.load 77 (Go.Operand.tmp 16), type := 77, pos := "law.go:151", after := #[{ on := 18, ground := Go.Ground.guard }], guard := some (18, true) }) (v := ?_) rfl (by kernel_rfl) (by kernel_rfl) (by kernel_rfl) (fun _ _ _ h => h) (Or.inl ⟨by rfl, ?_⟩) (by assumption) ?_
      rotate_left
      · intro wq hSw; (try dsimp only at hSw); go_simp; (try with_reducible rfl)
      try simp only [Act.put, List.setIfInBounds_toArray, List.set_cons_zero, List.set_cons_succ]
      refine wpAnyH_take (i := 20) (oi := { dst := some 112, op := Go.Op.move (Go.Operand.tmp 2), type := 3, pos := "law.go:151", after := #[{ on := 18, ground := Go.Ground.guard }], guard := some (18, true) }) (v := ?_) rfl (by kernel_rfl) (by kernel_rfl) (by kernel_rfl) (fun _ _ _ h => h) (Or.inl ⟨by rfl, ?_⟩) (by assumption) ?_
      rotate_left
      · intro wq hSw; (try dsimp only at hSw); go_simp; (try with_reducible rfl)
      try simp only [Act.put, List.setIfInBounds_toArray, List.set_cons_zero, List.set_cons_succ]
      refine wpAnyH_take (i := 22) (oi := { dst := some 114, op := Go.Op.move (Go.Operand.tmp 12), type := 4, pos := "law.go:151", after := #[{ on := 18, ground := Go.Ground.guard }], guard := some (18, true) }) (v := ?_) rfl (by kernel_rfl) (by kernel_rfl) (by kernel_rfl) (fun _ _ _ h => h) (Or.inl ⟨by rfl, ?_⟩) (by assumption) ?_
      rotate_left
      · intro wq hSw; (try dsimp only at hSw); go_simp; (try with_reducible rfl)
      try simp only [Act.put, List.setIfInBounds_toArray, List.set_cons_zero, List.set_cons_succ]
      refine wpAnyH_ready (rs := [21]) (by kernel_rfl) (by simp) ?_
      refine AllReadyH.cons (o := { dst := some 113, op := Go.Op.call { callee := Go.Callee.value (Go.Operand.func 63), args := #[Go.Operand.tmp 111, Go.Operand.tmp 112], argTypes := #[77, 3] }, type := 4, pos := "law.go:151", after := #[{ on := 19, ground := Go.Ground.data }, { on := 20, ground := Go.Ground.data }, { on := 18, ground := Go.Ground.chain }, { on := 18, ground := Go.Ground.guard }], guard := some (18, true) }) rfl (fun K hK => ?_) ?_
      rotate_left
      · exact AllReadyH.nil
      go_simp
      refine (hasS_any rl Al cl n _ (moved HL.out aL) (by omega)).mono ?_
      rintro e w39 ⟨rfl, hb39⟩
      have hw39 : Below w.heap.size w w39 := stepH hw38 hb39
      have z39 := hw39.size
      replace aS : Below w2.heap.size w2 w39 := stepH aS hb39
      replace yaS := aS.size
      replace aT : Below w3.heap.size w3 w39 := stepH aT hb39
      replace yaT := aT.size
      replace aO : Below w6.heap.size w6 w39 := stepH aO hb39
      replace yaO := aO.size
      replace aD : Below w7.heap.size w7 w39 := stepH aD hb39
      replace yaD := aD.size
      replace aL : Below w8.heap.size w8 w39 := stepH aL hb39
      replace yaL := aL.size
      replace aG : Below w10.heap.size w10 w39 := stepH aG hb39
      replace yaG := aG.size
      replace S := keepH hb39 S.out
      replace T := keepH hb39 T.out
      replace O := keepH hb39 O.out
      replace D := keepH hb39 D.out
      replace L := keepH hb39 L.out
      replace G := keepH hb39 G.out
      replace xS : w39.cell? ⟨w2.heap.size, 0, none⟩ = some (.slice As rs.length cs) := cellOf hb39 xS
      replace xT : w39.cell? ⟨w3.heap.size, 0, none⟩ = some (.slice At rt.length ct) := cellOf hb39 xT
      replace xO : w39.cell? ⟨w6.heap.size, 0, none⟩ = some (.slice Ao ro.length co) := cellOf hb39 xO
      replace xD : w39.cell? ⟨w7.heap.size, 0, none⟩ = some (.slice Ad rd.length cd) := cellOf hb39 xD
      replace xL : w39.cell? ⟨w8.heap.size, 0, none⟩ = some (.slice Al rl.length cl) := cellOf hb39 xL
      rw [hlx]
      clear hb39
      go_wp2_with fail
      refine hK.out _ _ ?_ (fun hH3 => ?_)
      · (try dsimp only); exact ⟨xS, xT, xO, xD, xL⟩
      clear hK K
      clear hH2
      try simp only [Act.put, List.setIfInBounds_toArray, List.set_cons_zero, List.set_cons_succ]
      refine wpAnyH_take (i := 23) (oi := { dst := some 115, op := Go.Op.move (Go.Operand.tmp 114), type := 4, pos := "law.go:151", after := #[{ on := 22, ground := Go.Ground.data }, { on := 21, ground := Go.Ground.chain }, { on := 18, ground := Go.Ground.guard }], guard := some (18, true) }) (v := ?_) rfl (by kernel_rfl) (by kernel_rfl) (by kernel_rfl) (fun _ _ _ h => h) (Or.inl ⟨by rfl, ?_⟩) (by assumption) ?_
      rotate_left
      · intro wq hSw; (try dsimp only at hSw); go_simp; (try with_reducible rfl)
      try simp only [Act.put, List.setIfInBounds_toArray, List.set_cons_zero, List.set_cons_succ]
      refine wpAnyH_take (i := 24) (oi := { dst := some 116, op := Go.Op.move (Go.Operand.tmp 13), type := 4, pos := "law.go:151", after := #[{ on := 23, ground := Go.Ground.guard }], guard := some (23, true) }) (v := ?_) rfl (by kernel_rfl) (by kernel_rfl) (by kernel_rfl) (fun _ _ _ h => h) (Or.inl ⟨by rfl, ?_⟩) (by assumption) ?_
      rotate_left
      · intro wq hSw; (try dsimp only at hSw); go_simp; (try with_reducible rfl)
      try simp only [Act.put, List.setIfInBounds_toArray, List.set_cons_zero, List.set_cons_succ]
      refine wpAnyH_take (i := 25) (oi := { dst := some 117, op := Go.Op.unOp Go.UnOp.not 4 (Go.Operand.tmp 116), type := 4, pos := "law.go:151", after := #[{ on := 24, ground := Go.Ground.data }, { on := 23, ground := Go.Ground.guard }], guard := some (23, true) }) (v := ?_) rfl (by kernel_rfl) (by kernel_rfl) (by kernel_rfl) (fun _ _ _ h => h) (Or.inl ⟨by rfl, ?_⟩) (by assumption) ?_
      rotate_left
      · intro wq hSw; (try dsimp only at hSw); go_simp; (try with_reducible rfl)
      try simp only [Act.put, List.setIfInBounds_toArray, List.set_cons_zero, List.set_cons_succ]
      refine wpAnyH_take (i := 26) (oi := { dst := some 118, op := Go.Op.pick (Go.Operand.tmp 115) (Go.Operand.tmp 117) (Go.Operand.const (Go.Value.bool false)), type := 4, pos := "law.go:151", after := #[{ on := 23, ground := Go.Ground.data }, { on := 25, ground := Go.Ground.data }, { on := 18, ground := Go.Ground.guard }], guard := some (18, true) }) (v := ?_) rfl (by kernel_rfl) (by kernel_rfl) (by kernel_rfl) (fun _ _ _ h => h) (Or.inl ⟨by rfl, ?_⟩) (by assumption) ?_
      rotate_left
      · intro wq hSw; (try dsimp only at hSw); go_simp; (try with_reducible rfl)
      try simp only [Act.put, List.setIfInBounds_toArray, List.set_cons_zero, List.set_cons_succ]
      refine wpAnyH_take (i := 27) (oi := { dst := some 119, op := Go.Op.binOp Go.BinOp.eql 4 (Go.Operand.tmp 113) (Go.Operand.tmp 118) 4, type := 4, pos := "law.go:151", after := #[{ on := 21, ground := Go.Ground.data }, { on := 26, ground := Go.Ground.data }, { on := 18, ground := Go.Ground.guard }], guard := some (18, true) }) (v := ?_) rfl (by kernel_rfl) (by kernel_rfl) (by kernel_rfl) (fun _ _ _ h => h) (Or.inl ⟨by rfl, ?_⟩) (by assumption) ?_
      rotate_left
      · intro wq hSw; (try dsimp only at hSw); go_simp; (try with_reducible rfl)
      try simp only [Act.put, List.setIfInBounds_toArray, List.set_cons_zero, List.set_cons_succ]
      refine wpAnyH_take (i := 28) (oi := { dst := some 120, op := Go.Op.pick (Go.Operand.tmp 110) (Go.Operand.tmp 119) (Go.Operand.const (Go.Value.bool false)), type := 4, pos := "law.go:151", after := #[{ on := 18, ground := Go.Ground.data }, { on := 27, ground := Go.Ground.data }], guard := none }) (v := ?_) rfl (by kernel_rfl) (by kernel_rfl) (by kernel_rfl) (fun _ _ _ h => h) (Or.inl ⟨by rfl, ?_⟩) (by assumption) ?_
      rotate_left
      · intro wq hSw; (try dsimp only at hSw); go_simp; (try with_reducible rfl)
      try simp only [Act.put, List.setIfInBounds_toArray, List.set_cons_zero, List.set_cons_succ]
      refine wpAnyH_take (i := 29) (oi := { dst := some 121, op := Go.Op.move (Go.Operand.tmp 120), type := 4, pos := "law.go:151", after := #[{ on := 28, ground := Go.Ground.data }, { on := 23, ground := Go.Ground.chain }], guard := none }) (v := ?_) rfl (by kernel_rfl) (by kernel_rfl) (by kernel_rfl) (fun _ _ _ h => h) (Or.inl ⟨by rfl, ?_⟩) (by assumption) ?_
      rotate_left
      · intro wq hSw; (try dsimp only at hSw); go_simp; (try with_reducible rfl)
      try simp only [Act.put, List.setIfInBounds_toArray, List.set_cons_zero, List.set_cons_succ]
      refine wpAnyH_take (i := 30) (oi := { dst := some 122, op := Go.Op.load 77 (Go.Operand.tmp 14), type := 77, pos := "law.go:151", after := #[{ on := 29, ground := Go.Ground.guard }], guard := some (29, true) }) (v := ?_) rfl (by kernel_rfl) (by kernel_rfl) (by kernel_rfl) (fun _ _ _ h => h) (Or.inl ⟨by rfl, ?_⟩) (by assumption) ?_
      rotate_left
      · intro wq hSw; (try dsimp only at hSw); go_simp; (try with_reducible rfl)
      try simp only [Act.put, List.setIfInBounds_toArray, List.set_cons_zero, List.set_cons_succ]
      refine wpAnyH_take (i := 32) (oi := { dst := some 124, op := Go.Op.load 77 (Go.Operand.tmp 15), type := 77, pos := "law.go:151", after := #[{ on := 29, ground := Go.Ground.guard }], guard := some (29, true) }) (v := ?_) rfl (by kernel_rfl) (by kernel_rfl) (by kernel_rfl) (fun _ _ _ h => h) (Or.inl ⟨by rfl, ?_⟩) (by assumption) ?_
      rotate_left
      · intro wq hSw; (try dsimp only at hSw); go_simp; (try with_reducible rfl)
      try simp only [Act.put, List.setIfInBounds_toArray, List.set_cons_zero, List.set_cons_succ]
      refine wpAnyH_take (i := 35) (oi := { dst := some 127, op := Go.Op.load 77 (Go.Operand.tmp 8), type := 77, pos := "law.go:151", after := #[{ on := 29, ground := Go.Ground.guard }], guard := some (29, true) }) (v := ?_) rfl (by kernel_rfl) (by kernel_rfl) (by kernel_rfl) (fun _ _ _ h => h) (Or.inl ⟨by rfl, ?_⟩) (by assumption) ?_
      rotate_left
      · intro wq hSw; (try dsimp only at hSw); go_simp; (try with_reducible rfl)
      try simp only [Act.put, List.setIfInBounds_toArray, List.set_cons_zero, List.set_cons_succ]
      refine wpAnyH_take (i := 37) (oi := { dst := some 129, op := Go.Op.load 77 (Go.Operand.tmp 10), type := 77, pos := "law.go:151", after := #[{ on := 29, ground := Go.Ground.guard }], guard := some (29, true) }) (v := ?_) rfl (by kernel_rfl) (by kernel_rfl) (by kernel_rfl) (fun _ _ _ h => h) (Or.inl ⟨by rfl, ?_⟩) (by assumption) ?_
      rotate_left
      · intro wq hSw; (try dsimp only at hSw); go_simp; (try with_reducible rfl)
      try simp only [Act.put, List.setIfInBounds_toArray, List.set_cons_zero, List.set_cons_succ]
      refine wpAnyH_ready (rs := [31]) (by kernel_rfl) (by simp) ?_
      refine AllReadyH.cons (o := { dst := some 123, op := Go.Op.call { callee := Go.Callee.value (Go.Operand.func 60), args := #[Go.Operand.tmp 122], argTypes := #[77] }, type := 3, pos := "law.go:151", after := #[{ on := 30, ground := Go.Ground.data }, { on := 29, ground := Go.Ground.chain }, { on := 29, ground := Go.Ground.guard }], guard := some (29, true) }) rfl (fun K hK => ?_) ?_
      rotate_left
      · exact AllReadyH.nil
      go_simp
      refine (lenS_any ro Ao co _ (moved HO.out aO) (by omega) CO.out.canon).mono ?_
      rintro e w40 ⟨rfl, hb40⟩
      have hw40 : Below w.heap.size w w40 := stepH hw39 hb40
      have z40 := hw40.size
      replace aS : Below w2.heap.size w2 w40 := stepH aS hb40
      replace yaS := aS.size
      replace aT : Below w3.heap.size w3 w40 := stepH aT hb40
      replace yaT := aT.size
      replace aO : Below w6.heap.size w6 w40 := stepH aO hb40
      replace yaO := aO.size
      replace aD : Below w7.heap.size w7 w40 := stepH aD hb40
      replace yaD := aD.size
      replace aL : Below w8.heap.size w8 w40 := stepH aL hb40
      replace yaL := aL.size
      replace aG : Below w10.heap.size w10 w40 := stepH aG hb40
      replace yaG := aG.size
      replace S := keepH hb40 S.out
      replace T := keepH hb40 T.out
      replace O := keepH hb40 O.out
      replace D := keepH hb40 D.out
      replace L := keepH hb40 L.out
      replace G := keepH hb40 G.out
      replace xS : w40.cell? ⟨w2.heap.size, 0, none⟩ = some (.slice As rs.length cs) := cellOf hb40 xS
      replace xT : w40.cell? ⟨w3.heap.size, 0, none⟩ = some (.slice At rt.length ct) := cellOf hb40 xT
      replace xO : w40.cell? ⟨w6.heap.size, 0, none⟩ = some (.slice Ao ro.length co) := cellOf hb40 xO
      replace xD : w40.cell? ⟨w7.heap.size, 0, none⟩ = some (.slice Ad rd.length cd) := cellOf hb40 xD
      replace xL : w40.cell? ⟨w8.heap.size, 0, none⟩ = some (.slice Al rl.length cl) := cellOf hb40 xL
      rw [N3.out]
      clear hb40
      go_wp2_with fail
      refine hK.out _ _ ?_ (fun hH4 => ?_)
      · (try dsimp only); exact ⟨xS, xT, xO, xD, xL⟩
      clear hK K
      clear hH3
      try simp only [Act.put, List.setIfInBounds_toArray, List.set_cons_zero, List.set_cons_succ]
      refine wpAnyH_ready (rs := [33]) (by kernel_rfl) (by simp) ?_
      refine AllReadyH.cons (o := { dst := some 125, op := Go.Op.call { callee := Go.Callee.value (Go.Operand.func 60), args := #[Go.Operand.tmp 124], argTypes := #[77] }, type := 3, pos := "law.go:151", after := #[{ on := 32, ground := Go.Ground.data }, { on := 31, ground := Go.Ground.chain }, { on := 29, ground := Go.Ground.guard }], guard := some (29, true) }) rfl (fun K hK => ?_) ?_
      rotate_left
      · exact AllReadyH.nil
      go_simp
      refine (lenS_any rd Ad cd _ (moved HD.out aD) (by omega) CD.out.canon).mono ?_
      rintro e w41 ⟨rfl, hb41⟩
      have hw41 : Below w.heap.size w w41 := stepH hw40 hb41
      have z41 := hw41.size
      replace aS : Below w2.heap.size w2 w41 := stepH aS hb41
      replace yaS := aS.size
      replace aT : Below w3.heap.size w3 w41 := stepH aT hb41
      replace yaT := aT.size
      replace aO : Below w6.heap.size w6 w41 := stepH aO hb41
      replace yaO := aO.size
      replace aD : Below w7.heap.size w7 w41 := stepH aD hb41
      replace yaD := aD.size
      replace aL : Below w8.heap.size w8 w41 := stepH aL hb41
      replace yaL := aL.size
      replace aG : Below w10.heap.size w10 w41 := stepH aG hb41
      replace yaG := aG.size
      replace S := keepH hb41 S.out
      replace T := keepH hb41 T.out
      replace O := keepH hb41 O.out
      replace D := keepH hb41 D.out
      replace L := keepH hb41 L.out
      replace G := keepH hb41 G.out
      replace xS : w41.cell? ⟨w2.heap.size, 0, none⟩ = some (.slice As rs.length cs) := cellOf hb41 xS
      replace xT : w41.cell? ⟨w3.heap.size, 0, none⟩ = some (.slice At rt.length ct) := cellOf hb41 xT
      replace xO : w41.cell? ⟨w6.heap.size, 0, none⟩ = some (.slice Ao ro.length co) := cellOf hb41 xO
      replace xD : w41.cell? ⟨w7.heap.size, 0, none⟩ = some (.slice Ad rd.length cd) := cellOf hb41 xD
      replace xL : w41.cell? ⟨w8.heap.size, 0, none⟩ = some (.slice Al rl.length cl) := cellOf hb41 xL
      rw [N4.out]
      clear hb41
      go_wp2_with fail
      refine hK.out _ _ ?_ (fun hH5 => ?_)
      · (try dsimp only); exact ⟨xS, xT, xO, xD, xL⟩
      clear hK K
      clear hH4
      try simp only [Act.put, List.setIfInBounds_toArray, List.set_cons_zero, List.set_cons_succ]
      refine wpAnyH_take (i := 34) (oi := { dst := some 126, op := Go.Op.binOp Go.BinOp.add 3 (Go.Operand.tmp 123) (Go.Operand.tmp 125) 3, type := 3, pos := "law.go:151", after := #[{ on := 31, ground := Go.Ground.data }, { on := 33, ground := Go.Ground.data }, { on := 29, ground := Go.Ground.guard }], guard := some (29, true) }) (v := ?_) rfl (by kernel_rfl) (by kernel_rfl) (by kernel_rfl) (fun _ _ _ h => h) (Or.inl ⟨by rfl, ?_⟩) (by assumption) ?_
      rotate_left
      · intro wq hSw; (try dsimp only at hSw); go_simp; (try with_reducible rfl)
      try simp only [Act.put, List.setIfInBounds_toArray, List.set_cons_zero, List.set_cons_succ]
      refine wpAnyH_ready (rs := [36]) (by kernel_rfl) (by simp) ?_
      refine AllReadyH.cons (o := { dst := some 128, op := Go.Op.call { callee := Go.Callee.value (Go.Operand.func 60), args := #[Go.Operand.tmp 127], argTypes := #[77] }, type := 3, pos := "law.go:151", after := #[{ on := 35, ground := Go.Ground.data }, { on := 33, ground := Go.Ground.chain }, { on := 29, ground := Go.Ground.guard }], guard := some (29, true) }) rfl (fun K hK => ?_) ?_
      rotate_left
      · exact AllReadyH.nil
      go_simp
      refine (lenS_any rs As cs _ (moved HS.out aS) (by omega) CS.out.canon).mono ?_
      rintro e w42 ⟨rfl, hb42⟩
      have hw42 : Below w.heap.size w w42 := stepH hw41 hb42
      have z42 := hw42.size
      replace aS : Below w2.heap.size w2 w42 := stepH aS hb42
      replace yaS := aS.size
      replace aT : Below w3.heap.size w3 w42 := stepH aT hb42
      replace yaT := aT.size
      replace aO : Below w6.heap.size w6 w42 := stepH aO hb42
      replace yaO := aO.size
      replace aD : Below w7.heap.size w7 w42 := stepH aD hb42
      replace yaD := aD.size
      replace aL : Below w8.heap.size w8 w42 := stepH aL hb42
      replace yaL := aL.size
      replace aG : Below w10.heap.size w10 w42 := stepH aG hb42
      replace yaG := aG.size
      replace S := keepH hb42 S.out
      replace T := keepH hb42 T.out
      replace O := keepH hb42 O.out
      replace D := keepH hb42 D.out
      replace L := keepH hb42 L.out
      replace G := keepH hb42 G.out
      replace xS : w42.cell? ⟨w2.heap.size, 0, none⟩ = some (.slice As rs.length cs) := cellOf hb42 xS
      replace xT : w42.cell? ⟨w3.heap.size, 0, none⟩ = some (.slice At rt.length ct) := cellOf hb42 xT
      replace xO : w42.cell? ⟨w6.heap.size, 0, none⟩ = some (.slice Ao ro.length co) := cellOf hb42 xO
      replace xD : w42.cell? ⟨w7.heap.size, 0, none⟩ = some (.slice Ad rd.length cd) := cellOf hb42 xD
      replace xL : w42.cell? ⟨w8.heap.size, 0, none⟩ = some (.slice Al rl.length cl) := cellOf hb42 xL
      rw [N1.out]
      clear hb42
      go_wp2_with fail
      refine hK.out _ _ ?_ (fun hH6 => ?_)
      · (try dsimp only); exact ⟨xS, xT, xO, xD, xL⟩
      clear hK K
      clear hH5
      try simp only [Act.put, List.setIfInBounds_toArray, List.set_cons_zero, List.set_cons_succ]
      refine wpAnyH_ready (rs := [38]) (by kernel_rfl) (by simp) ?_
      refine AllReadyH.cons (o := { dst := some 130, op := Go.Op.call { callee := Go.Callee.value (Go.Operand.func 60), args := #[Go.Operand.tmp 129], argTypes := #[77] }, type := 3, pos := "law.go:151", after := #[{ on := 37, ground := Go.Ground.data }, { on := 36, ground := Go.Ground.chain }, { on := 29, ground := Go.Ground.guard }], guard := some (29, true) }) rfl (fun K hK => ?_) ?_
      rotate_left
      · exact AllReadyH.nil
      go_simp
      refine (lenS_any rt At ct _ (moved HT.out aT) (by omega) CT.out.canon).mono ?_
      rintro e w43 ⟨rfl, hb43⟩
      have hw43 : Below w.heap.size w w43 := stepH hw42 hb43
      have z43 := hw43.size
      replace aS : Below w2.heap.size w2 w43 := stepH aS hb43
      replace yaS := aS.size
      replace aT : Below w3.heap.size w3 w43 := stepH aT hb43
      replace yaT := aT.size
      replace aO : Below w6.heap.size w6 w43 := stepH aO hb43
      replace yaO := aO.size
      replace aD : Below w7.heap.size w7 w43 := stepH aD hb43
      replace yaD := aD.size
      replace aL : Below w8.heap.size w8 w43 := stepH aL hb43
      replace yaL := aL.size
      replace aG : Below w10.heap.size w10 w43 := stepH aG hb43
      replace yaG := aG.size
      replace S := keepH hb43 S.out
      replace T := keepH hb43 T.out
      replace O := keepH hb43 O.out
      replace D := keepH hb43 D.out
      replace L := keepH hb43 L.out
      replace G := keepH hb43 G.out
      replace xS : w43.cell? ⟨w2.heap.size, 0, none⟩ = some (.slice As rs.length cs) := cellOf hb43 xS
      replace xT : w43.cell? ⟨w3.heap.size, 0, none⟩ = some (.slice At rt.length ct) := cellOf hb43 xT
      replace xO : w43.cell? ⟨w6.heap.size, 0, none⟩ = some (.slice Ao ro.length co) := cellOf hb43 xO
      replace xD : w43.cell? ⟨w7.heap.size, 0, none⟩ = some (.slice Ad rd.length cd) := cellOf hb43 xD
      replace xL : w43.cell? ⟨w8.heap.size, 0, none⟩ = some (.slice Al rl.length cl) := cellOf hb43 xL
      rw [N2.out]
      clear hb43
      go_wp2_with fail
      refine hK.out _ _ ?_ (fun hH7 => ?_)
      · (try dsimp only); exact ⟨xS, xT, xO, xD, xL⟩
      clear hK K
      clear hH6
      try simp only [Act.put, List.setIfInBounds_toArray, List.set_cons_zero, List.set_cons_succ]
      refine wpAnyH_take (i := 39) (oi := { dst := some 131, op := Go.Op.binOp Go.BinOp.add 3 (Go.Operand.tmp 128) (Go.Operand.tmp 130) 3, type := 3, pos := "law.go:151", after := #[{ on := 36, ground := Go.Ground.data }, { on := 38, ground := Go.Ground.data }, { on := 29, ground := Go.Ground.guard }], guard := some (29, true) }) (v := ?_) rfl (by kernel_rfl) (by kernel_rfl) (by kernel_rfl) (fun _ _ _ h => h) (Or.inl ⟨by rfl, ?_⟩) (by assumption) ?_
      rotate_left
      · intro wq hSw; (try dsimp only at hSw); go_simp; (try with_reducible rfl)
      try simp only [Act.put, List.setIfInBounds_toArray, List.set_cons_zero, List.set_cons_succ]
      refine wpAnyH_take (i := 40) (oi := { dst := some 132, op := Go.Op.binOp Go.BinOp.eql 3 (Go.Operand.tmp 126) (Go.Operand.tmp 131) 3, type := 4, pos := "law.go:151", after := #[{ on := 34, ground := Go.Ground.data }, { on := 39, ground := Go.Ground.data }, { on := 29, ground := Go.Ground.guard }], guard := some (29, true) }) (v := ?_) rfl (by kernel_rfl) (by kernel_rfl) (by kernel_rfl) (fun _ _ _ h => h) (Or.inl ⟨by rfl, ?_⟩) (by assumption) ?_
      rotate_left
      · intro wq hSw; (try dsimp only at hSw); go_simp; (try with_reducible rfl)
      try simp only [Act.put, List.setIfInBounds_toArray, List.set_cons_zero, List.set_cons_succ, wr1, wr2, hleq]
      refine wpAnyH_take (i := 41) (oi := { dst := some 133, op := Go.Op.pick (Go.Operand.tmp 121) (Go.Operand.tmp 132) (Go.Operand.const (Go.Value.bool false)), type := 4, pos := "law.go:151", after := #[{ on := 29, ground := Go.Ground.data }, { on := 40, ground := Go.Ground.data }], guard := none }) (v := ?_) rfl (by kernel_rfl) (by kernel_rfl) (by kernel_rfl) (fun _ _ _ h => h) (Or.inl ⟨by rfl, ?_⟩) (by assumption) ?_
      rotate_left
      · intro wq hSw; (try dsimp only at hSw); go_simp; (try with_reducible rfl)
      try simp only [Act.put, List.setIfInBounds_toArray, List.set_cons_zero, List.set_cons_succ]
      refine wpAnyH_take (i := 42) (oi := { dst := some 134, op := Go.Op.move (Go.Operand.tmp 133), type := 4, pos := "law.go:151", after := #[{ on := 41, ground := Go.Ground.data }, { on := 38, ground := Go.Ground.chain }], guard := none }) (v := ?_) rfl (by kernel_rfl) (by kernel_rfl) (by kernel_rfl) (fun _ _ _ h => h) (Or.inl ⟨by rfl, ?_⟩) (by assumption) ?_
      rotate_left
      · intro wq hSw; (try dsimp only at hSw); go_simp; (try with_reducible rfl)
      try simp only [Act.put, List.setIfInBounds_toArray, List.set_cons_zero, List.set_cons_succ]
      refine wpAnyH_take (i := 43) (oi := { dst := some 135, op := Go.Op.move (Go.Operand.tmp 18), type := 41, pos := "law.go:151", after := #[{ on := 42, ground := Go.Ground.guard }], guard := some (42, true) }) (v := ?_) rfl (by kernel_rfl) (by kernel_rfl) (by kernel_rfl) (fun _ _ _ h => h) (Or.inl ⟨by rfl, ?_⟩) (by assumption) ?_
      rotate_left
      · intro wq hSw; (try dsimp only at hSw); go_simp; (try with_reducible rfl)
      try simp only [Act.put, List.setIfInBounds_toArray, List.set_cons_zero, List.set_cons_succ]
      refine wpAnyH_take (i := 44) (oi := { dst := some 136, op := Go.Op.binOp Go.BinOp.eql 41 (Go.Operand.tmp 135) (Go.Operand.const Go.Value.nilIface) 41, type := 4, pos := "law.go:151", after := #[{ on := 43, ground := Go.Ground.data }, { on := 42, ground := Go.Ground.guard }], guard := some (42, true) }) (v := ?_) rfl (by kernel_rfl) (by kernel_rfl) (by kernel_rfl) (fun _ _ _ h => h) (Or.inl ⟨by rfl, ?_⟩) (by assumption) ?_
      rotate_left
      · intro wq hSw; (try dsimp only at hSw); go_simp; (try with_reducible rfl)
      try simp only [Act.put, List.setIfInBounds_toArray, List.set_cons_zero, List.set_cons_succ]
      refine wpAnyH_take (i := 45) (oi := { dst := some 137, op := Go.Op.pick (Go.Operand.tmp 134) (Go.Operand.tmp 136) (Go.Operand.const (Go.Value.bool false)), type := 4, pos := "law.go:151", after := #[{ on := 42, ground := Go.Ground.data }, { on := 44, ground := Go.Ground.data }], guard := none }) (v := ?_) rfl (by kernel_rfl) (by kernel_rfl) (by kernel_rfl) (fun _ _ _ h => h) (Or.inl ⟨by rfl, ?_⟩) (by assumption) ?_
      rotate_left
      · intro wq hSw; (try dsimp only at hSw); go_simp; (try with_reducible rfl)
      try simp only [Act.put, List.setIfInBounds_toArray, List.set_cons_zero, List.set_cons_succ]
      refine wpAnyH_take (i := 46) (oi := { dst := some 138, op := Go.Op.move (Go.Operand.tmp 137), type := 4, pos := "law.go:151", after := #[{ on := 45, ground := Go.Ground.data }, { on := 42, ground := Go.Ground.chain }], guard := none }) (v := ?_) rfl (by kernel_rfl) (by kernel_rfl) (by kernel_rfl) (fun _ _ _ h => h) (Or.inl ⟨by rfl, ?_⟩) (by assumption) ?_
      rotate_left
      · intro wq hSw; (try dsimp only at hSw); go_simp; (try with_reducible rfl)
      try simp only [Act.put, List.setIfInBounds_toArray, List.set_cons_zero, List.set_cons_succ]
      refine wpAnyH_take (i := 47) (oi := { dst := some 139, op := Go.Op.move (Go.Operand.tmp 19), type := 4, pos := "law.go:151", after := #[{ on := 46, ground := Go.Ground.guard }], guard := some (46, true) }) (v := ?_) rfl (by kernel_rfl) (by kernel_rfl) (by kernel_rfl) (fun _ _ _ h => h) (Or.inl ⟨by rfl, ?_⟩) (by assumption) ?_
      rotate_left
      · intro wq hSw; (try dsimp only at hSw); go_simp; (try with_reducible rfl)
      try simp only [Act.put, List.setIfInBounds_toArray, List.set_cons_zero, List.set_cons_succ]
      refine wpAnyH_take (i := 48) (oi := { dst := some 140, op := Go.Op.pick (Go.Operand.tmp 138) (Go.Operand.tmp 139) (Go.Operand.const (Go.Value.bool false)), type := 4, pos := "law.go:151", after := #[{ on := 46, ground := Go.Ground.data }, { on := 47, ground := Go.Ground.data }], guard := none }) (v := ?_) rfl (by kernel_rfl) (by kernel_rfl) (by kernel_rfl) (fun _ _ _ h => h) (Or.inl ⟨by rfl, ?_⟩) (by assumption) ?_
      rotate_left
      · intro wq hSw; (try dsimp only at hSw); go_simp; (try with_reducible rfl)
      try simp only [Act.put, List.setIfInBounds_toArray, List.set_cons_zero, List.set_cons_succ]
      refine wpAnyH_take (i := 49) (oi := { dst := some 141, op := Go.Op.move (Go.Operand.tmp 140), type := 4, pos := "law.go:151", after := #[{ on := 48, ground := Go.Ground.data }, { on := 46, ground := Go.Ground.chain }], guard := none }) (v := ?_) rfl (by kernel_rfl) (by kernel_rfl) (by kernel_rfl) (fun _ _ _ h => h) (Or.inl ⟨by rfl, ?_⟩) (by assumption) ?_
      rotate_left
      · intro wq hSw; (try dsimp only at hSw); go_simp; (try with_reducible rfl)
      try simp only [Act.put, List.setIfInBounds_toArray, List.set_cons_zero, List.set_cons_succ]
      refine wpAnyH_take (i := 50) (oi := { dst := some 142, op := Go.Op.move (Go.Operand.tmp 20), type := 4, pos := "law.go:151", after := #[{ on := 49, ground := Go.Ground.guard }], guard := some (49, true) }) (v := ?_) rfl (by kernel_rfl) (by kernel_rfl) (by kernel_rfl) (fun _ _ _ h => h) (Or.inl ⟨by rfl, ?_⟩) (by assumption) ?_
      rotate_left
      · intro wq hSw; (try dsimp only at hSw); go_simp; (try with_reducible rfl)
      try simp only [Act.put, List.setIfInBounds_toArray, List.set_cons_zero, List.set_cons_succ]
      refine wpAnyH_take (i := 51) (oi := { dst := some 143, op := Go.Op.pick (Go.Operand.tmp 141) (Go.Operand.tmp 142) (Go.Operand.const (Go.Value.bool false)), type := 4, pos := "law.go:151", after := #[{ on := 49, ground := Go.Ground.data }, { on := 50, ground := Go.Ground.data }], guard := none }) (v := ?_) rfl (by kernel_rfl) (by kernel_rfl) (by kernel_rfl) (fun _ _ _ h => h) (Or.inl ⟨by rfl, ?_⟩) (by assumption) ?_
      rotate_left
      · intro wq hSw; (try dsimp only at hSw); go_simp; (try with_reducible rfl)
      try simp only [Act.put, List.setIfInBounds_toArray, List.set_cons_zero, List.set_cons_succ]
      refine wpAnyH_take (i := 52) (oi := { dst := some 144, op := Go.Op.move (Go.Operand.tmp 143), type := 4, pos := "law.go:151", after := #[{ on := 51, ground := Go.Ground.data }, { on := 49, ground := Go.Ground.chain }], guard := none }) (v := ?_) rfl (by kernel_rfl) (by kernel_rfl) (by kernel_rfl) (fun _ _ _ h => h) (Or.inl ⟨by rfl, ?_⟩) (by assumption) ?_
      rotate_left
      · intro wq hSw; (try dsimp only at hSw); go_simp; (try with_reducible rfl)
      try simp only [Act.put, List.setIfInBounds_toArray, List.set_cons_zero, List.set_cons_succ]
      refine wpAnyH_take (i := 53) (oi := { dst := some 145, op := Go.Op.move (Go.Operand.tmp 21), type := 4, pos := "law.go:151", after := #[{ on := 52, ground := Go.Ground.guard }], guard := some (52, true) }) (v := ?_) rfl (by kernel_rfl) (by kernel_rfl) (by kernel_rfl) (fun _ _ _ h => h) (Or.inl ⟨by rfl, ?_⟩) (by assumption) ?_
      rotate_left
      · intro wq hSw; (try dsimp only at hSw); go_simp; (try with_reducible rfl)
      try simp only [Act.put, List.setIfInBounds_toArray, List.set_cons_zero, List.set_cons_succ]
      refine wpAnyH_take (i := 54) (oi := { dst := some 146, op := Go.Op.pick (Go.Operand.tmp 144) (Go.Operand.tmp 145) (Go.Operand.const (Go.Value.bool false)), type := 4, pos := "law.go:151", after := #[{ on := 52, ground := Go.Ground.data }, { on := 53, ground := Go.Ground.data }], guard := none }) (v := ?_) rfl (by kernel_rfl) (by kernel_rfl) (by kernel_rfl) (fun _ _ _ h => h) (Or.inl ⟨by rfl, ?_⟩) (by assumption) ?_
      rotate_left
      · intro wq hSw; (try dsimp only at hSw); go_simp; (try with_reducible rfl)
      try simp only [Act.put, List.setIfInBounds_toArray, List.set_cons_zero, List.set_cons_succ]
      refine wpAnyH_take (i := 55) (oi := { dst := some 6, op := Go.Op.assign (Go.Operand.tmp 146), type := 4, pos := "law.go:151", after := #[{ on := 54, ground := Go.Ground.data }, { on := 52, ground := Go.Ground.chain }, { on := 0, ground := Go.Ground.phase }, { on := 1, ground := Go.Ground.phase }, { on := 2, ground := Go.Ground.phase }, { on := 3, ground := Go.Ground.phase }, { on := 4, ground := Go.Ground.phase }, { on := 5, ground := Go.Ground.phase }, { on := 6, ground := Go.Ground.phase }, { on := 7, ground := Go.Ground.phase }, { on := 8, ground := Go.Ground.phase }, { on := 9, ground := Go.Ground.phase }, { on := 10, ground := Go.Ground.phase }, { on := 11, ground := Go.Ground.phase }, { on := 12, ground := Go.Ground.phase }, { on := 13, ground := Go.Ground.phase }, { on := 14, ground := Go.Ground.phase }, { on := 15, ground := Go.Ground.phase }, { on := 16, ground := Go.Ground.phase }, { on := 17, ground := Go.Ground.phase }, { on := 18, ground := Go.Ground.phase }, { on := 19, ground := Go.Ground.phase }, { on := 20, ground := Go.Ground.phase }, { on := 21, ground := Go.Ground.phase }, { on := 22, ground := Go.Ground.phase }, { on := 23, ground := Go.Ground.phase }, { on := 24, ground := Go.Ground.phase }, { on := 25, ground := Go.Ground.phase }, { on := 26, ground := Go.Ground.phase }, { on := 27, ground := Go.Ground.phase }, { on := 28, ground := Go.Ground.phase }, { on := 29, ground := Go.Ground.phase }, { on := 30, ground := Go.Ground.phase }, { on := 31, ground := Go.Ground.phase }, { on := 32, ground := Go.Ground.phase }, { on := 33, ground := Go.Ground.phase }, { on := 34, ground := Go.Ground.phase }, { on := 35, ground := Go.Ground.phase }, { on := 36, ground := Go.Ground.phase }, { on := 37, ground := Go.Ground.phase }, { on := 38, ground := Go.Ground.phase }, { on := 39, ground := Go.Ground.phase }, { on := 40, ground := Go.Ground.phase }, { on := 41, ground := Go.Ground.phase }, { on := 42, ground := Go.Ground.phase }, { on := 43, ground := Go.Ground.phase }, { on := 44, ground := Go.Ground.phase }, { on := 45, ground := Go.Ground.phase }, { on := 46, ground := Go.Ground.phase }, { on := 47, ground := Go.Ground.phase }, { on := 48, ground := Go.Ground.phase }, { on := 49, ground := Go.Ground.phase }, { on := 50, ground := Go.Ground.phase }, { on := 51, ground := Go.Ground.phase }, { on := 52, ground := Go.Ground.phase }, { on := 53, ground := Go.Ground.phase }, { on := 54, ground := Go.Ground.phase }], guard := none }) (v := ?_) rfl (by kernel_rfl) (by kernel_rfl) (by kernel_rfl) (fun _ _ _ h => h) (Or.inl ⟨by rfl, ?_⟩) (by assumption) ?_
      rotate_left
      · intro wq hSw; (try dsimp only at hSw); go_simp; (try with_reducible rfl)
      try simp only [Act.put, List.setIfInBounds_toArray, List.set_cons_zero, List.set_cons_succ]
      refine wpAnyH_done (by kernel_rfl) ?_ _
      clear xS xT xO xD xL
      go_wp2_with fail
      go_ret
      exact ⟨rfl, by (repeat' (first | with_reducible exact Below.refl _ _ | with_reducible assumption | with_reducible refine Below.drew ?_ | with_reducible refine below_drewN ?_ _ | with_reducible refine Below.setCell ?_ ?_ _ | with_reducible refine Below.alloc ?_ ?_ _ | omega | (simp; done) | (simp; omega)))⟩
    · replace hox : hasB ro n = true := hox
      replace hdx : hasB rd n = true := hdx
      replace hlx : hasB rl n = false := hlx
      have xS : w22.cell? ⟨w2.heap.size, 0, none⟩ = some (.slice As rs.length cs) := cellH S 0
      have xT : w22.cell? ⟨w3.heap.size, 0, none⟩ = some (.slice At rt.length ct) := cellH T 0
      have xO : w22.cell? ⟨w6.heap.size, 0, none⟩ = some (.slice Ao ro.length co) := cellH O 0
      have xD : w22.cell? ⟨w7.heap.size, 0, none⟩ = some (.slice Ad rd.length cd) := cellH D 0
      have xL : w22.cell? ⟨w8.heap.size, 0, none⟩ = some (.slice Al rl.length cl) := cellH L 0
      go_wp2_with fail
      refine wp_region_held_drew (S := fun w' => w'.cell? ⟨w2.heap.size, 0, none⟩ = some (.slice As rs.length cs) ∧ w'.cell? ⟨w3.heap.size, 0, none⟩ = some (.slice At rt.length ct) ∧ w'.cell? ⟨w6.heap.size, 0, none⟩ = some (.slice Ao ro.length co) ∧ w'.cell? ⟨w7.heap.size, 0, none⟩ = some (.slice Ad rd.length cd) ∧ w'.cell? ⟨w8.heap.size, 0, none⟩ = some (.slice Al rl.length cl)) (by kernel_rfl) ?_ (fun hH0 => ?_)
      · exact ⟨xS, xT, xO, xD, xL⟩
      refine wpAnyH_take (i := 0) (oi := { dst := some 92, op := Go.Op.load 77 (Go.Operand.tmp 14), type := 77, pos := "law.go:151", after := #[], guard := none }) (v := ?_) rfl (by kernel_rfl) (by kernel_rfl) (by kernel_rfl) (fun _ _ _ h => h) (Or.inl ⟨by rfl, ?_⟩) (by assumption) ?_
      rotate_left
      · intro wq hSw; (try dsimp only at hSw); go_simp; (try with_reducible rfl)
      try simp only [Act.put, List.setIfInBounds_toArray, List.set_cons_zero, List.set_cons_succ]
      refine wpAnyH_take (i := 1) (oi := { dst := some 93, op := Go.Op.move (Go.Operand.tmp 2), type := 3, pos := "law.go:151", after := #[], guard := none }) (v := ?_) rfl (by kernel_rfl) (by kernel_rfl) (by kernel_rfl) (fun _ _ _ h => h) (Or.inl ⟨by rfl, ?_⟩) (by assumption) ?_
      rotate_left
      · intro wq hSw; (try dsimp only at hSw); go_simp; (try with_reducible rfl)
      try simp only [Act.put, List.setIfInBounds_toArray, List.set_cons_zero, List.set_cons_succ]
      refine wpAnyH_take (i := 3) (oi := { dst := some 95, op := Go.Op.move (Go.Operand.tmp 12), type := 4, pos := "law.go:151", after := #[], guard := none }) (v := ?_) rfl (by kernel_rfl) (by kernel_rfl) (by kernel_rfl) (fun _ _ _ h => h) (Or.inl ⟨by rfl, ?_⟩) (by assumption) ?_
      rotate_left
      · intro wq hSw; (try dsimp only at hSw); go_simp; (try with_reducible rfl)
      try simp only [Act.put, List.setIfInBounds_toArray, List.set_cons_zero, List.set_cons_succ]
      refine wpAnyH_ready (rs := [2]) (by kernel_rfl) (by simp) ?_
      refine AllReadyH.cons (o := { dst := some 94, op := Go.Op.call { callee := Go.Callee.value (Go.Operand.func 63), args := #[Go.Operand.tmp 92, Go.Operand.tmp 93], argTypes := #[77, 3] }, type := 4, pos := "law.go:151", after := #[{ on := 0, ground := Go.Ground.data }, { on := 1, ground := Go.Ground.data }], guard := none }) rfl (fun K hK => ?_) ?_
      rotate_left
      · exact AllReadyH.nil
      go_simp
      refine (hasS_any ro Ao co n _ (moved HO.out aO.drew) (by omega)).mono ?_
      rintro e w44 ⟨rfl, hb44⟩
      have hw44 : Below w.heap.size w w44 := stepH hw22.drew hb44
      have z44 := hw44.size
      replace aS : Below w2.heap.size w2 w44 := stepH aS.drew hb44
      replace yaS := aS.size
      replace aT : Below w3.heap.size w3 w44 := stepH aT.drew hb44
      replace yaT := aT.size
      replace aO : Below w6.heap.size w6 w44 := stepH aO.drew hb44
      replace yaO := aO.size
      replace aD : Below w7.heap.size w7 w44 := stepH aD.drew hb44
      replace yaD := aD.size
      replace aL : Below w8.heap.size w8 w44 := stepH aL.drew hb44
      replace yaL := aL.size
      replace aG : Below w10.heap.size w10 w44 := stepH aG.drew hb44
      replace yaG := aG.size
      replace S := keepH hb44 (drew_old S.out)
      replace T := keepH hb44 (drew_old T.out)
      replace O := keepH hb44 (drew_old O.out)
      replace D := keepH hb44 (drew_old D.out)
      replace L := keepH hb44 (drew_old L.out)
      replace G := keepH hb44 (drew_old G.out)
      replace xS : w44.cell? ⟨w2.heap.size, 0, none⟩ = some (.slice As rs.length cs) := cellOf hb44 (cell_drew xS)
      replace xT : w44.cell? ⟨w3.heap.size, 0, none⟩ = some (.slice At rt.length ct) := cellOf hb44 (cell_drew xT)
      replace xO : w44.cell? ⟨w6.heap.size, 0, none⟩ = some (.slice Ao ro.length co) := cellOf hb44 (cell_drew xO)
      replace xD : w44.cell? ⟨w7.heap.size, 0, none⟩ = some (.slice Ad rd.length cd) := cellOf hb44 (cell_drew xD)
      replace xL : w44.cell? ⟨w8.heap.size, 0, none⟩ = some (.slice Al rl.length cl) := cellOf hb44 (cell_drew xL)
      rw [hox]
      clear hb44
      go_wp2_with fail
      refine hK.out _ _ ?_ (fun hH1 => ?_)
      · (try dsimp only); exact ⟨xS, xT, xO, xD, xL⟩
      clear hK K
      clear hH0
      try simp only [Act.put, List.setIfInBounds_toArray, List.set_cons_zero, List.set_cons_succ]
      refine wpAnyH_take (i := 4) (oi := { dst := some 96, op := Go.Op.move (Go.Operand.tmp 95), type := 4, pos := "law.go:151", after := #[{ on := 3, ground := Go.Ground.data }, { on := 2, ground := Go.Ground.chain }], guard := none }) (v := ?_) rfl (by kernel_rfl) (by kernel_rfl) (by kernel_rfl) (fun _ _ _ h => h) (Or.inl ⟨by rfl, ?_⟩) (by assumption) ?_
      rotate_left
      · intro wq hSw; (try dsimp only at hSw); go_simp; (try with_reducible rfl)
      try simp only [Act.put, List.setIfInBounds_toArray, List.set_cons_zero, List.set_cons_succ]
      refine wpAnyH_take (i := 5) (oi := { dst := some 97, op := Go.Op.move (Go.Operand.tmp 13), type := 4, pos := "law.go:151", after := #[{ on := 4, ground := Go.Ground.guard }], guard := some (4, false) }) (v := undef) rfl (by kernel_rfl) (by kernel_rfl) (by kernel_rfl) (fun _ _ _ h => h) (Or.inr ⟨by rfl, rfl⟩) (by assumption) ?_
      try simp only [Act.put, List.setIfInBounds_toArray, List.set_cons_zero, List.set_cons_succ]
      refine wpAnyH_take (i := 6) (oi := { dst := some 98, op := Go.Op.pick (Go.Operand.tmp 96) (Go.Operand.const (Go.Value.bool true)) (Go.Operand.tmp 97), type := 4, pos := "law.go:151", after := #[{ on := 4, ground := Go.Ground.data }, { on := 5, ground := Go.Ground.data }], guard := none }) (v := ?_) rfl (by kernel_rfl) (by kernel_rfl) (by kernel_rfl) (fun _ _ _ h => h) (Or.inl ⟨by rfl, ?_⟩) (by assumption) ?_
      rotate_left
      · intro wq hSw; (try dsimp only at hSw); go_simp; (try with_reducible rfl)
      try simp only [Act.put, List.setIfInBounds_toArray, List.set_cons_zero, List.set_cons_succ]
      refine wpAnyH_take (i := 7) (oi := { dst := some 99, op := Go.Op.binOp Go.BinOp.eql 4 (Go.Operand.tmp 94) (Go.Operand.tmp 98) 4, type := 4, pos := "law.go:151", after := #[{ on := 2, ground := Go.Ground.data }, { on := 6, ground := Go.Ground.data }], guard := none }) (v := ?_) rfl (by kernel_rfl) (by kernel_rfl) (by kernel_rfl) (fun _ _ _ h => h) (Or.inl ⟨by rfl, ?_⟩) (by assumption) ?_
      rotate_left
      · intro wq hSw; (try dsimp only at hSw); go_simp; (try with_reducible rfl)
      try simp only [Act.put, List.setIfInBounds_toArray, List.set_cons_zero, List.set_cons_succ]
      refine wpAnyH_take (i := 8) (oi := { dst := some 100, op := Go.Op.move (Go.Operand.tmp 99), type := 4, pos := "law.go:151", after := #[{ on := 7, ground := Go.Ground.data }, { on := 4, ground := Go.Ground.chain }], guard := none }) (v := ?_) rfl (by kernel_rfl) (by kernel_rfl) (by kernel_rfl) (fun _ _ _ h => h) (Or.inl ⟨by rfl, ?_⟩) (by assumption) ?_
      rotate_left
      · intro wq hSw; (try dsimp only at hSw); go_simp; (try with_reducible rfl)
      try simp only [Act.put, List.setIfInBounds_toArray, List.set_cons_zero, List.set_cons_succ]
      refine wpAnyH_take (i := 9) (oi := { dst := some 101, op := Go.Op.load 77 (Go.Operand.tmp 15), type := 77, pos := "law.go:151", after := #[{ on := 8, ground := Go.Ground.guard }], guard := some (8, true) }) (v := ?_) rfl (by kernel_rfl) (by kernel_rfl) (by kernel_rfl) (fun _ _ _ h => h) (Or.inl ⟨by rfl, ?_⟩) (by assumption) ?_
      rotate_left
      · intro wq hSw; (try dsimp only at hSw); go_simp; (try with_reducible rfl)
      try simp only [Act.put, List.setIfInBounds_toArray, List.set_cons_zero, List.set_cons_succ]
      refine wpAnyH_take (i := 10) (oi := { dst := some 102, op := Go.Op.move (Go.Operand.tmp 2), type := 3, pos := "law.go:151", after := #[{ on := 8, ground := Go.Ground.guard }], guard := some (8, true) }) (v := ?_) rfl (by kernel_rfl) (by kernel_rfl) (by kernel_rfl) (fun _ _ _ h => h) (Or.inl ⟨by rfl, ?_⟩) (by assumption) ?_
      rotate_left
      · intro wq hSw; (try dsimp only at hSw); go_simp; (try with_reducible rfl)
      try simp only [Act.put, List.setIfInBounds_toArray, List.set_cons_zero, List.set_cons_succ]
      refine wpAnyH_take (i := 12) (oi := { dst := some 104, op := Go.Op.move (Go.Operand.tmp 12), type := 4, pos := "law.go:151", after := #[{ on := 8, ground := Go.Ground.guard }], guard := some (8, true) }) (v := ?_) rfl (by kernel_rfl) (by kernel_rfl) (by kernel_rfl) (fun _ _ _ h => h) (Or.inl ⟨by rfl, ?_⟩) (by assumption) ?_
      rotate_left
      · intro wq hSw; (try dsimp only at hSw); go_simp; (try with_reducible rfl)
      try simp only [Act.put, List.setIfInBounds_toArray, List.set_cons_zero, List.set_cons_succ]
      refine wpAnyH_ready (rs := [11]) (by kernel_rfl) (by simp) ?_
      refine AllReadyH.cons (o := { dst := some 103, op := Go.Op.call { callee := Go.Callee.value (Go.Operand.func 63), args := #[Go.Operand.tmp 101, Go.Operand.tmp 102], argTypes := #[77, 3] }, type := 4, pos := "law.go:151", after := #[{ on := 9, ground := Go.Ground.data }, { on := 10, ground := Go.Ground.data }, { on := 8, ground := Go.Ground.chain }, { on := 8, ground := Go.Ground.guard }], guard := some (8, true) }) rfl (fun K hK => ?_) ?_
      rotate_left
      · exact AllReadyH.nil
      go_simp
      refine (hasS_any rd Ad cd n _ (moved HD.out aD) (by omega)).mono ?_
      rintro e w45 ⟨rfl, hb45⟩
      have hw45 : Below w.heap.size w w45 := stepH hw44 hb45
      have z45 := hw45.size
      replace aS : Below w2.heap.size w2 w45 := stepH aS hb45
      replace yaS := aS.size
      replace aT : Below w3.heap.size w3 w45 := stepH aT hb45
      replace yaT := aT.size
      replace aO : Below w6.heap.size w6 w45 := stepH aO hb45
      replace yaO := aO.size
      replace aD : Below w7.heap.size w7 w45 := stepH aD hb45
      replace yaD := aD.size
      replace aL : Below w8.heap.size w8 w45 := stepH aL hb45
      replace yaL := aL.size
      replace aG : Below w10.heap.size w10 w45 := stepH aG hb45
      replace yaG := aG.size
      replace S := keepH hb45 S.out
      replace T := keepH hb45 T.out
      replace O := keepH hb45 O.out
      replace D := keepH hb45 D.out
      replace L := keepH hb45 L.out
      replace G := keepH hb45 G.out
      replace xS : w45.cell? ⟨w2.heap.size, 0, none⟩ = some (.slice As rs.length cs) := cellOf hb45 xS
      replace xT : w45.cell? ⟨w3.heap.size, 0, none⟩ = some (.slice At rt.length ct) := cellOf hb45 xT
      replace xO : w45.cell? ⟨w6.heap.size, 0, none⟩ = some (.slice Ao ro.length co) := cellOf hb45 xO
      replace xD : w45.cell? ⟨w7.heap.size, 0, none⟩ = some (.slice Ad rd.length cd) := cellOf hb45 xD
      replace xL : w45.cell? ⟨w8.heap.size, 0, none⟩ = some (.slice Al rl.length cl) := cellOf hb45 xL
      rw [hdx]
      clear hb45
      go_wp2_with fail
      refine hK.out _ _ ?_ (fun hH2 => ?_)
      · (try dsimp only); exact ⟨xS, xT, xO, xD, xL⟩
      clear hK K
      clear hH1
      try simp only [Act.put, List.setIfInBounds_toArray, List.set_cons_zero, List.set_cons_succ]
      refine wpAnyH_take (i := 13) (oi := { dst := some 105, op := Go.Op.move (Go.Operand.tmp 104), type := 4, pos := "law.go:151", after := #[{ on := 12, ground := Go.Ground.data }, { on := 11, ground := Go.Ground.chain }, { on := 8, ground := Go.Ground.guard }], guard := some (8, true) }) (v := ?_) rfl (by kernel_rfl) (by kernel_rfl) (by kernel_rfl) (fun _ _ _ h => h) (Or.inl ⟨by rfl, ?_⟩) (by assumption) ?_
      rotate_left
      · intro wq hSw; (try dsimp only at hSw); go_simp; (try with_reducible rfl)
      try simp only [Act.put, List.setIfInBounds_toArray, List.set_cons_zero, List.set_cons_succ]
      refine wpAnyH_take (i := 14) (oi := { dst := some 106, op := Go.Op.move (Go.Operand.tmp 13), type := 4, pos := "law.go:151", after := #[{ on := 13, ground := Go.Ground.guard }], guard := some (13, true) }) (v := ?_) rfl (by kernel_rfl) (by kernel_rfl) (by kernel_rfl) (fun _ _ _ h => h) (Or.inl ⟨by rfl, ?_⟩) (by assumption) ?_
      rotate_left
      · intro wq hSw; (try dsimp only at hSw); go_simp; (try with_reducible rfl)
      try simp only [Act.put, List.setIfInBounds_toArray, List.set_cons_zero, List.set_cons_succ]
      refine wpAnyH_take (i := 15) (oi := { dst := some 107, op := Go.Op.pick (Go.Operand.tmp 105) (Go.Operand.tmp 106) (Go.Operand.const (Go.Value.bool false)), type := 4, pos := "law.go:151", after := #[{ on := 13, ground := Go.Ground.data }, { on := 14, ground := Go.Ground.data }, { on := 8, ground := Go.Ground.guard }], guard := some (8, true) }) (v := ?_) rfl (by kernel_rfl) (by kernel_rfl) (by kernel_rfl) (fun _ _ _ h => h) (Or.inl ⟨by rfl, ?_⟩) (by assumption) ?_
      rotate_left
      · intro wq hSw; (try dsimp only at hSw); go_simp; (try with_reducible rfl)
      try simp only [Act.put, List.setIfInBounds_toArray, List.set_cons_zero, List.set_cons_succ]
      refine wpAnyH_take (i := 16) (oi := { dst := some 108, op := Go.Op.binOp Go.BinOp.eql 4 (Go.Operand.tmp 103) (Go.Operand.tmp 107) 4, type := 4, pos := "law.go:151", after := #[{ on := 11, ground := Go.Ground.data }, { on := 15, ground := Go.Ground.data }, { on := 8, ground := Go.Ground.guard }], guard := some (8, true) }) (v := ?_) rfl (by kernel_rfl) (by kernel_rfl) (by kernel_rfl) (fun _ _ _ h => h) (Or.inl ⟨by rfl, ?_⟩) (by assumption) ?_
      rotate_left
      · intro wq hSw; (try dsimp only at hSw); go_simp; (try with_reducible rfl)
      try simp only [Act.put, List.setIfInBounds_toArray, List.set_cons_zero, List.set_cons_succ]
      refine wpAnyH_take (i := 17) (oi := { dst := some 109, op := Go.Op.pick (Go.Operand.tmp 100) (Go.Operand.tmp 108) (Go.Operand.const (Go.Value.bool false)), type := 4, pos := "law.go:151", after := #[{ on := 8, ground := Go.Ground.data }, { on := 16, ground := Go.Ground.data }], guard := none }) (v := ?_) rfl (by kernel_rfl) (by kernel_rfl) (by kernel_rfl) (fun _ _ _ h => h) (Or.inl ⟨by rfl, ?_⟩) (by assumption) ?_
      rotate_left
      · intro wq hSw; (try dsimp only at hSw); go_simp; (try with_reducible rfl)
      try simp only [Act.put, List.setIfInBounds_toArray, List.set_cons_zero, List.set_cons_succ]
      refine wpAnyH_take (i := 18) (oi := { dst := some 110, op := Go.Op.move (Go.Operand.tmp 109), type := 4, pos := "law.go:151", after := #[{ on := 17, ground := Go.Ground.data }, { on := 13, ground := Go.Ground.chain }], guard := none }) (v := ?_) rfl (by kernel_rfl) (by kernel_rfl) (by kernel_rfl) (fun _ _ _ h => h) (Or.inl ⟨by rfl, ?_⟩) (by assumption) ?_
      rotate_left
      · intro wq hSw; (try dsimp only at hSw); go_simp; (try with_reducible rfl)
      try simp only [Act.put, List.setIfInBounds_toArray, List.set_cons_zero, List.set_cons_succ]
      refine wpAnyH_take (i := 19) (oi := { dst := some 111, op := Go.Op.load 77 (Go.Operand.tmp 16), type := 77, pos := "law.go:151", after := #[{ on := 18, ground := Go.Ground.guard }], guard := some (18, true) }) (v := ?_) rfl (by kernel_rfl) (by kernel_rfl) (by kernel_rfl) (fun _ _ _ h => h) (Or.inl ⟨by rfl, ?_⟩) (by assumption) ?_
      rotate_left
      · intro wq hSw; (try dsimp only at hSw); go_simp; (try with_reducible rfl)
      try simp only [Act.put, List.setIfInBounds_toArray, List.set_cons_zero, List.set_cons_succ]
      refine wpAnyH_take (i := 20) (oi := { dst := some 112, op := Go.Op.move (Go.Operand.tmp 2), type := 3, pos := "law.go:151", after := #[{ on := 18, ground := Go.Ground.guard }], guard := some (18, true) }) (v := ?_) rfl (by kernel_rfl) (by kernel_rfl) (by kernel_rfl) (fun _ _ _ h => h) (Or.inl ⟨by rfl, ?_⟩) (by assumption) ?_
      rotate_left
      · intro wq hSw; (try dsimp only at hSw); go_simp; (try with_reducible rfl)
      try simp only [Act.put, List.setIfInBounds_toArray, List.set_cons_zero, List.set_cons_succ]
      refine wpAnyH_take (i := 22) (oi := { dst := some 114, op := Go.Op.move (Go.Operand.tmp 12), type := 4, pos := "law.go:151", after := #[{ on := 18, ground := Go.Ground.guard }], guard := some (18, true) }) (v := ?_) rfl (by kernel_rfl) (by kernel_rfl) (by kernel_rfl) (fun _ _ _ h => h) (Or.inl ⟨by rfl, ?_⟩) (by assumption) ?_
      rotate_left
      · intro wq hSw; (try dsimp only at hSw); go_simp; (try with_reducible rfl)
      try simp only [Act.put, List.setIfInBounds_toArray, List.set_cons_zero, List.set_cons_succ]
      refine wpAnyH_ready (rs := [21]) (by kernel_rfl) (by simp) ?_
      refine AllReadyH.cons (o := { dst := some 113, op := Go.Op.call { callee := Go.Callee.value (Go.Operand.func 63), args := #[Go.Operand.tmp 111, Go.Operand.tmp 112], argTypes := #[77, 3] }, type := 4, pos := "law.go:151", after := #[{ on := 19, ground := Go.Ground.data }, { on := 20, ground := Go.Ground.data }, { on := 18, ground := Go.Ground.chain }, { on := 18, ground := Go.Ground.guard }], guard := some (18, true) }) rfl (fun K hK => ?_) ?_
      rotate_left
      · exact AllReadyH.nil
      go_simp
      refine (hasS_any rl Al cl n _ (moved HL.out aL) (by omega)).mono ?_
      rintro e w46 ⟨rfl, hb46⟩
      have hw46 : Below w.heap.size w w46 := stepH hw45 hb46
      have z46 := hw46.size
      replace aS : Below w2.heap.size w2 w46 := stepH aS hb46
      replace yaS := aS.size
      replace aT : Below w3.heap.size w3 w46 := stepH aT hb46
      replace yaT := aT.size
      replace aO : Below w6.heap.size w6 w46 := stepH aO hb46
      replace yaO := aO.size
      replace aD : Below w7.heap.size w7 w46 := stepH aD hb46
      replace yaD := aD.size
      replace aL : Below w8.heap.size w8 w46 := stepH aL hb46
      replace yaL := aL.size
      replace aG : Below w10.heap.size w10 w46 := stepH aG hb46
      replace yaG := aG.size
      replace S := keepH hb46 S.out
      replace T := keepH hb46 T.out
      replace O := keepH hb46 O.out
      replace D := keepH hb46 D.out
      replace L := keepH hb46 L.out
      replace G := keepH hb46 G.out
      replace xS : w46.cell? ⟨w2.heap.size, 0, none⟩ = some (.slice As rs.length cs) := cellOf hb46 xS
      replace xT : w46.cell? ⟨w3.heap.size, 0, none⟩ = some (.slice At rt.length ct) := cellOf hb46 xT
      replace xO : w46.cell? ⟨w6.heap.size, 0, none⟩ = some (.slice Ao ro.length co) := cellOf hb46 xO
      replace xD : w46.cell? ⟨w7.heap.size, 0, none⟩ = some (.slice Ad rd.length cd) := cellOf hb46 xD
      replace xL : w46.cell? ⟨w8.heap.size, 0, none⟩ = some (.slice Al rl.length cl) := cellOf hb46 xL
      rw [hlx]
      clear hb46
      go_wp2_with fail
      refine hK.out _ _ ?_ (fun hH3 => ?_)
      · (try dsimp only); exact ⟨xS, xT, xO, xD, xL⟩
      clear hK K
      clear hH2
      try simp only [Act.put, List.setIfInBounds_toArray, List.set_cons_zero, List.set_cons_succ]
      refine wpAnyH_take (i := 23) (oi := { dst := some 115, op := Go.Op.move (Go.Operand.tmp 114), type := 4, pos := "law.go:151", after := #[{ on := 22, ground := Go.Ground.data }, { on := 21, ground := Go.Ground.chain }, { on := 18, ground := Go.Ground.guard }], guard := some (18, true) }) (v := ?_) rfl (by kernel_rfl) (by kernel_rfl) (by kernel_rfl) (fun _ _ _ h => h) (Or.inl ⟨by rfl, ?_⟩) (by assumption) ?_
      rotate_left
      · intro wq hSw; (try dsimp only at hSw); go_simp; (try with_reducible rfl)
      try simp only [Act.put, List.setIfInBounds_toArray, List.set_cons_zero, List.set_cons_succ]
      refine wpAnyH_take (i := 24) (oi := { dst := some 116, op := Go.Op.move (Go.Operand.tmp 13), type := 4, pos := "law.go:151", after := #[{ on := 23, ground := Go.Ground.guard }], guard := some (23, true) }) (v := ?_) rfl (by kernel_rfl) (by kernel_rfl) (by kernel_rfl) (fun _ _ _ h => h) (Or.inl ⟨by rfl, ?_⟩) (by assumption) ?_
      rotate_left
      · intro wq hSw; (try dsimp only at hSw); go_simp; (try with_reducible rfl)
      try simp only [Act.put, List.setIfInBounds_toArray, List.set_cons_zero, List.set_cons_succ]
      refine wpAnyH_take (i := 25) (oi := { dst := some 117, op := Go.Op.unOp Go.UnOp.not 4 (Go.Operand.tmp 116), type := 4, pos := "law.go:151", after := #[{ on := 24, ground := Go.Ground.data }, { on := 23, ground := Go.Ground.guard }], guard := some (23, true) }) (v := ?_) rfl (by kernel_rfl) (by kernel_rfl) (by kernel_rfl) (fun _ _ _ h => h) (Or.inl ⟨by rfl, ?_⟩) (by assumption) ?_
      rotate_left
      · intro wq hSw; (try dsimp only at hSw); go_simp; (try with_reducible rfl)
      try simp only [Act.put, List.setIfInBounds_toArray, List.set_cons_zero, List.set_cons_succ]
      refine wpAnyH_take (i := 26) (oi := { dst := some 118, op := Go.Op.pick (Go.Operand.tmp 115) (Go.Operand.tmp 117) (Go.Operand.const (Go.Value.bool false)), type := 4, pos := "law.go:151", after := #[{ on := 23, ground := Go.Ground.data }, { on := 25, ground := Go.Ground.data }, { on := 18, ground := Go.Ground.guard }], guard := some (18, true) }) (v := ?_) rfl (by kernel_rfl) (by kernel_rfl) (by kernel_rfl) (fun _ _ _ h => h) (Or.inl ⟨by rfl, ?_⟩) (by assumption) ?_
      rotate_left
      · intro wq hSw; (try dsimp only at hSw); go_simp; (try with_reducible rfl)
      try simp only [Act.put, List.setIfInBounds_toArray, List.set_cons_zero, List.set_cons_succ]
      refine wpAnyH_take (i := 27) (oi := { dst := some 119, op := Go.Op.binOp Go.BinOp.eql 4 (Go.Operand.tmp 113) (Go.Operand.tmp 118) 4, type := 4, pos := "law.go:151", after := #[{ on := 21, ground := Go.Ground.data }, { on := 26, ground := Go.Ground.data }, { on := 18, ground := Go.Ground.guard }], guard := some (18, true) }) (v := ?_) rfl (by kernel_rfl) (by kernel_rfl) (by kernel_rfl) (fun _ _ _ h => h) (Or.inl ⟨by rfl, ?_⟩) (by assumption) ?_
      rotate_left
      · intro wq hSw; (try dsimp only at hSw); go_simp; (try with_reducible rfl)
      try simp only [Act.put, List.setIfInBounds_toArray, List.set_cons_zero, List.set_cons_succ]
      refine wpAnyH_take (i := 28) (oi := { dst := some 120, op := Go.Op.pick (Go.Operand.tmp 110) (Go.Operand.tmp 119) (Go.Operand.const (Go.Value.bool false)), type := 4, pos := "law.go:151", after := #[{ on := 18, ground := Go.Ground.data }, { on := 27, ground := Go.Ground.data }], guard := none }) (v := ?_) rfl (by kernel_rfl) (by kernel_rfl) (by kernel_rfl) (fun _ _ _ h => h) (Or.inl ⟨by rfl, ?_⟩) (by assumption) ?_
      rotate_left
      · intro wq hSw; (try dsimp only at hSw); go_simp; (try with_reducible rfl)
      try simp only [Act.put, List.setIfInBounds_toArray, List.set_cons_zero, List.set_cons_succ]
      refine wpAnyH_take (i := 29) (oi := { dst := some 121, op := Go.Op.move (Go.Operand.tmp 120), type := 4, pos := "law.go:151", after := #[{ on := 28, ground := Go.Ground.data }, { on := 23, ground := Go.Ground.chain }], guard := none }) (v := ?_) rfl (by kernel_rfl) (by kernel_rfl) (by kernel_rfl) (fun _ _ _ h => h) (Or.inl ⟨by rfl, ?_⟩) (by assumption) ?_
      rotate_left
      · intro wq hSw; (try dsimp only at hSw); go_simp; (try with_reducible rfl)
      try simp only [Act.put, List.setIfInBounds_toArray, List.set_cons_zero, List.set_cons_succ]
      refine wpAnyH_take (i := 30) (oi := { dst := some 122, op := Go.Op.load 77 (Go.Operand.tmp 14), type := 77, pos := "law.go:151", after := #[{ on := 29, ground := Go.Ground.guard }], guard := some (29, true) }) (v := ?_) rfl (by kernel_rfl) (by kernel_rfl) (by kernel_rfl) (fun _ _ _ h => h) (Or.inl ⟨by rfl, ?_⟩) (by assumption) ?_
      rotate_left
      · intro wq hSw; (try dsimp only at hSw); go_simp; (try with_reducible rfl)
      try simp only [Act.put, List.setIfInBounds_toArray, List.set_cons_zero, List.set_cons_succ]
      refine wpAnyH_take (i := 32) (oi := { dst := some 124, op := Go.Op.load 77 (Go.Operand.tmp 15), type := 77, pos := "law.go:151", after := #[{ on := 29, ground := Go.Ground.guard }], guard := some (29, true) }) (v := ?_) rfl (by kernel_rfl) (by kernel_rfl) (by kernel_rfl) (fun _ _ _ h => h) (Or.inl ⟨by rfl, ?_⟩) (by assumption) ?_
      rotate_left
      · intro wq hSw; (try dsimp only at hSw); go_simp; (try with_reducible rfl)
      try simp only [Act.put, List.setIfInBounds_toArray, List.set_cons_zero, List.set_cons_succ]
      refine wpAnyH_take (i := 35) (oi := { dst := some 127, op := Go.Op.load 77 (Go.Operand.tmp 8), type := 77, pos := "law.go:151", after := #[{ on := 29, ground := Go.Ground.guard }], guard := some (29, true) }) (v := ?_) rfl (by kernel_rfl) (by kernel_rfl) (by kernel_rfl) (fun _ _ _ h => h) (Or.inl ⟨by rfl, ?_⟩) (by assumption) ?_
      rotate_left
      · intro wq hSw; (try dsimp only at hSw); go_simp; (try with_reducible rfl)
      try simp only [Act.put, List.setIfInBounds_toArray, List.set_cons_zero, List.set_cons_succ]
      refine wpAnyH_take (i := 37) (oi := { dst := some 129, op := Go.Op.load 77 (Go.Operand.tmp 10), type := 77, pos := "law.go:151", after := #[{ on := 29, ground := Go.Ground.guard }], guard := some (29, true) }) (v := ?_) rfl (by kernel_rfl) (by kernel_rfl) (by kernel_rfl) (fun _ _ _ h => h) (Or.inl ⟨by rfl, ?_⟩) (by assumption) ?_
      rotate_left
      · intro wq hSw; (try dsimp only at hSw); go_simp; (try with_reducible rfl)
      try simp only [Act.put, List.setIfInBounds_toArray, List.set_cons_zero, List.set_cons_succ]
      refine wpAnyH_ready (rs := [31]) (by kernel_rfl) (by simp) ?_
      refine AllReadyH.cons (o := { dst := some 123, op := Go.Op.call { callee := Go.Callee.value (Go.Operand.func 60), args := #[Go.Operand.tmp 122], argTypes := #[77] }, type := 3, pos := "law.go:151", after := #[{ on := 30, ground := Go.Ground.data }, { on := 29, ground := Go.Ground.chain }, { on := 29, ground := Go.Ground.guard }], guard := some (29, true) }) rfl (fun K hK => ?_) ?_
      rotate_left
      · exact AllReadyH.nil
      go_simp
      refine (lenS_any ro Ao co _ (moved HO.out aO) (by omega) CO.out.canon).mono ?_
      rintro e w47 ⟨rfl, hb47⟩
      have hw47 : Below w.heap.size w w47 := stepH hw46 hb47
      have z47 := hw47.size
      replace aS : Below w2.heap.size w2 w47 := stepH aS hb47
      replace yaS := aS.size
      replace aT : Below w3.heap.size w3 w47 := stepH aT hb47
      replace yaT := aT.size
      replace aO : Below w6.heap.size w6 w47 := stepH aO hb47
      replace yaO := aO.size
      replace aD : Below w7.heap.size w7 w47 := stepH aD hb47
      replace yaD := aD.size
      replace aL : Below w8.heap.size w8 w47 := stepH aL hb47
      replace yaL := aL.size
      replace aG : Below w10.heap.size w10 w47 := stepH aG hb47
      replace yaG := aG.size
      replace S := keepH hb47 S.out
      replace T := keepH hb47 T.out
      replace O := keepH hb47 O.out
      replace D := keepH hb47 D.out
      replace L := keepH hb47 L.out
      replace G := keepH hb47 G.out
      replace xS : w47.cell? ⟨w2.heap.size, 0, none⟩ = some (.slice As rs.length cs) := cellOf hb47 xS
      replace xT : w47.cell? ⟨w3.heap.size, 0, none⟩ = some (.slice At rt.length ct) := cellOf hb47 xT
      replace xO : w47.cell? ⟨w6.heap.size, 0, none⟩ = some (.slice Ao ro.length co) := cellOf hb47 xO
      replace xD : w47.cell? ⟨w7.heap.size, 0, none⟩ = some (.slice Ad rd.length cd) := cellOf hb47 xD
      replace xL : w47.cell? ⟨w8.heap.size, 0, none⟩ = some (.slice Al rl.length cl) := cellOf hb47 xL
      rw [N3.out]
      clear hb47
      go_wp2_with fail
      refine hK.out _ _ ?_ (fun hH4 => ?_)
      · (try dsimp only); exact ⟨xS, xT, xO, xD, xL⟩
      clear hK K
      clear hH3
      try simp only [Act.put, List.setIfInBounds_toArray, List.set_cons_zero, List.set_cons_succ]
      refine wpAnyH_ready (rs := [33]) (by kernel_rfl) (by simp) ?_
      refine AllReadyH.cons (o := { dst := some 125, op := Go.Op.call { callee := Go.Callee.value (Go.Operand.func 60), args := #[Go.Operand.tmp 124], argTypes := #[77] }, type := 3, pos := "law.go:151", after := #[{ on := 32, ground := Go.Ground.data }, { on := 31, ground := Go.Ground.chain }, { on := 29, ground := Go.Ground.guard }], guard := some (29, true) }) rfl (fun K hK => ?_) ?_
      rotate_left
      · exact AllReadyH.nil
      go_simp
      refine (lenS_any rd Ad cd _ (moved HD.out aD) (by omega) CD.out.canon).mono ?_
      rintro e w48 ⟨rfl, hb48⟩
      have hw48 : Below w.heap.size w w48 := stepH hw47 hb48
      have z48 := hw48.size
      replace aS : Below w2.heap.size w2 w48 := stepH aS hb48
      replace yaS := aS.size
      replace aT : Below w3.heap.size w3 w48 := stepH aT hb48
      replace yaT := aT.size
      replace aO : Below w6.heap.size w6 w48 := stepH aO hb48
      replace yaO := aO.size
      replace aD : Below w7.heap.size w7 w48 := stepH aD hb48
      replace yaD := aD.size
      replace aL : Below w8.heap.size w8 w48 := stepH aL hb48
      replace yaL := aL.size
      replace aG : Below w10.heap.size w10 w48 := stepH aG hb48
      replace yaG := aG.size
      replace S := keepH hb48 S.out
      replace T := keepH hb48 T.out
      replace O := keepH hb48 O.out
      replace D := keepH hb48 D.out
      replace L := keepH hb48 L.out
      replace G := keepH hb48 G.out
      replace xS : w48.cell? ⟨w2.heap.size, 0, none⟩ = some (.slice As rs.length cs) := cellOf hb48 xS
      replace xT : w48.cell? ⟨w3.heap.size, 0, none⟩ = some (.slice At rt.length ct) := cellOf hb48 xT
      replace xO : w48.cell? ⟨w6.heap.size, 0, none⟩ = some (.slice Ao ro.length co) := cellOf hb48 xO
      replace xD : w48.cell? ⟨w7.heap.size, 0, none⟩ = some (.slice Ad rd.length cd) := cellOf hb48 xD
      replace xL : w48.cell? ⟨w8.heap.size, 0, none⟩ = some (.slice Al rl.length cl) := cellOf hb48 xL
      rw [N4.out]
      clear hb48
      go_wp2_with fail
      refine hK.out _ _ ?_ (fun hH5 => ?_)
      · (try dsimp only); exact ⟨xS, xT, xO, xD, xL⟩
      clear hK K
      clear hH4
      try simp only [Act.put, List.setIfInBounds_toArray, List.set_cons_zero, List.set_cons_succ]
      refine wpAnyH_take (i := 34) (oi := { dst := some 126, op := Go.Op.binOp Go.BinOp.add 3 (Go.Operand.tmp 123) (Go.Operand.tmp 125) 3, type := 3, pos := "law.go:151", after := #[{ on := 31, ground := Go.Ground.data }, { on := 33, ground := Go.Ground.data }, { on := 29, ground := Go.Ground.guard }], guard := some (29, true) }) (v := ?_) rfl (by kernel_rfl) (by kernel_rfl) (by kernel_rfl) (fun _ _ _ h => h) (Or.inl ⟨by rfl, ?_⟩) (by assumption) ?_
      rotate_left
      · intro wq hSw; (try dsimp only at hSw); go_simp; (try with_reducible rfl)
      try simp only [Act.put, List.setIfInBounds_toArray, List.set_cons_zero, List.set_cons_succ]
      refine wpAnyH_ready (rs := [36]) (by kernel_rfl) (by simp) ?_
      refine AllReadyH.cons (o := { dst := some 128, op := Go.Op.call { callee := Go.Callee.value (Go.Operand.func 60), args := #[Go.Operand.tmp 127], argTypes := #[77] }, type := 3, pos := "law.go:151", after := #[{ on := 35, ground := Go.Ground.data }, { on := 33, ground := Go.Ground.chain }, { on := 29, ground := Go.Ground.guard }], guard := some (29, true) }) rfl (fun K hK => ?_) ?_
      rotate_left
      · exact AllReadyH.nil
      go_simp
      refine (lenS_any rs As cs _ (moved HS.out aS) (by omega) CS.out.canon).mono ?_
      rintro e w49 ⟨rfl, hb49⟩
      have hw49 : Below w.heap.size w w49 := stepH hw48 hb49
      have z49 := hw49.size
      replace aS : Below w2.heap.size w2 w49 := stepH aS hb49
      replace yaS := aS.size
      replace aT : Below w3.heap.size w3 w49 := stepH aT hb49
      replace yaT := aT.size
      replace aO : Below w6.heap.size w6 w49 := stepH aO hb49
      replace yaO := aO.size
      replace aD : Below w7.heap.size w7 w49 := stepH aD hb49
      replace yaD := aD.size
      replace aL : Below w8.heap.size w8 w49 := stepH aL hb49
      replace yaL := aL.size
      replace aG : Below w10.heap.size w10 w49 := stepH aG hb49
      replace yaG := aG.size
      replace S := keepH hb49 S.out
      replace T := keepH hb49 T.out
      replace O := keepH hb49 O.out
      replace D := keepH hb49 D.out
      replace L := keepH hb49 L.out
      replace G := keepH hb49 G.out
      replace xS : w49.cell? ⟨w2.heap.size, 0, none⟩ = some (.slice As rs.length cs) := cellOf hb49 xS
      replace xT : w49.cell? ⟨w3.heap.size, 0, none⟩ = some (.slice At rt.length ct) := cellOf hb49 xT
      replace xO : w49.cell? ⟨w6.heap.size, 0, none⟩ = some (.slice Ao ro.length co) := cellOf hb49 xO
      replace xD : w49.cell? ⟨w7.heap.size, 0, none⟩ = some (.slice Ad rd.length cd) := cellOf hb49 xD
      replace xL : w49.cell? ⟨w8.heap.size, 0, none⟩ = some (.slice Al rl.length cl) := cellOf hb49 xL
      rw [N1.out]
      clear hb49
      go_wp2_with fail
      refine hK.out _ _ ?_ (fun hH6 => ?_)
      · (try dsimp only); exact ⟨xS, xT, xO, xD, xL⟩
      clear hK K
      clear hH5
      try simp only [Act.put, List.setIfInBounds_toArray, List.set_cons_zero, List.set_cons_succ]
      refine wpAnyH_ready (rs := [38]) (by kernel_rfl) (by simp) ?_
      refine AllReadyH.cons (o := { dst := some 130, op := Go.Op.call { callee := Go.Callee.value (Go.Operand.func 60), args := #[Go.Operand.tmp 129], argTypes := #[77] }, type := 3, pos := "law.go:151", after := #[{ on := 37, ground := Go.Ground.data }, { on := 36, ground := Go.Ground.chain }, { on := 29, ground := Go.Ground.guard }], guard := some (29, true) }) rfl (fun K hK => ?_) ?_
      rotate_left
      · exact AllReadyH.nil
      go_simp
      refine (lenS_any rt At ct _ (moved HT.out aT) (by omega) CT.out.canon).mono ?_
      rintro e w50 ⟨rfl, hb50⟩
      have hw50 : Below w.heap.size w w50 := stepH hw49 hb50
      have z50 := hw50.size
      replace aS : Below w2.heap.size w2 w50 := stepH aS hb50
      replace yaS := aS.size
      replace aT : Below w3.heap.size w3 w50 := stepH aT hb50
      replace yaT := aT.size
      replace aO : Below w6.heap.size w6 w50 := stepH aO hb50
      replace yaO := aO.size
      replace aD : Below w7.heap.size w7 w50 := stepH aD hb50
      replace yaD := aD.size
      replace aL : Below w8.heap.size w8 w50 := stepH aL hb50
      replace yaL := aL.size
      replace aG : Below w10.heap.size w10 w50 := stepH aG hb50
      replace yaG := aG.size
      replace S := keepH hb50 S.out
      replace T := keepH hb50 T.out
      replace O := keepH hb50 O.out
      replace D := keepH hb50 D.out
      replace L := keepH hb50 L.out
      replace G := keepH hb50 G.out
      replace xS : w50.cell? ⟨w2.heap.size, 0, none⟩ = some (.slice As rs.length cs) := cellOf hb50 xS
      replace xT : w50.cell? ⟨w3.heap.size, 0, none⟩ = some (.slice At rt.length ct) := cellOf hb50 xT
      replace xO : w50.cell? ⟨w6.heap.size, 0, none⟩ = some (.slice Ao ro.length co) := cellOf hb50 xO
      replace xD : w50.cell? ⟨w7.heap.size, 0, none⟩ = some (.slice Ad rd.length cd) := cellOf hb50 xD
      replace xL : w50.cell? ⟨w8.heap.size, 0, none⟩ = some (.slice Al rl.length cl) := cellOf hb50 xL
      rw [N2.out]
      clear hb50
      go_wp2_with fail
      refine hK.out _ _ ?_ (fun hH7 => ?_)
      · (try dsimp only); exact ⟨xS, xT, xO, xD, xL⟩
      clear hK K
      clear hH6
      try simp only [Act.put, List.setIfInBounds_toArray, List.set_cons_zero, List.set_cons_succ]
      refine wpAnyH_take (i := 39) (oi := { dst := some 131, op := Go.Op.binOp Go.BinOp.add 3 (Go.Operand.tmp 128) (Go.Operand.tmp 130) 3, type := 3, pos := "law.go:151", after := #[{ on := 36, ground := Go.Ground.data }, { on := 38, ground := Go.Ground.data }, { on := 29, ground := Go.Ground.guard }], guard := some (29, true) }) (v := ?_) rfl (by kernel_rfl) (by kernel_rfl) (by kernel_rfl) (fun _ _ _ h => h) (Or.inl ⟨by rfl, ?_⟩) (by assumption) ?_
      rotate_left
      · intro wq hSw; (try dsimp only at hSw); go_simp; (try with_reducible rfl)
      try simp only [Act.put, List.setIfInBounds_toArray, List.set_cons_zero, List.set_cons_succ]
      refine wpAnyH_take (i := 40) (oi := { dst := some 132, op := Go.Op.binOp Go.BinOp.eql 3 (Go.Operand.tmp 126) (Go.Operand.tmp 131) 3, type := 4, pos := "law.go:151", after := #[{ on := 34, ground := Go.Ground.data }, { on := 39, ground := Go.Ground.data }, { on := 29, ground := Go.Ground.guard }], guard := some (29, true) }) (v := ?_) rfl (by kernel_rfl) (by kernel_rfl) (by kernel_rfl) (fun _ _ _ h => h) (Or.inl ⟨by rfl, ?_⟩) (by assumption) ?_
      rotate_left
      · intro wq hSw; (try dsimp only at hSw); go_simp; (try with_reducible rfl)
      try simp only [Act.put, List.setIfInBounds_toArray, List.set_cons_zero, List.set_cons_succ, wr1, wr2, hleq]
      refine wpAnyH_take (i := 41) (oi := { dst := some 133, op := Go.Op.pick (Go.Operand.tmp 121) (Go.Operand.tmp 132) (Go.Operand.const (Go.Value.bool false)), type := 4, pos := "law.go:151", after := #[{ on := 29, ground := Go.Ground.data }, { on := 40, ground := Go.Ground.data }], guard := none }) (v := ?_) rfl (by kernel_rfl) (by kernel_rfl) (by kernel_rfl) (fun _ _ _ h => h) (Or.inl ⟨by rfl, ?_⟩) (by assumption) ?_
      rotate_left
      · intro wq hSw; (try dsimp only at hSw); go_simp; (try with_reducible rfl)
      try simp only [Act.put, List.setIfInBounds_toArray, List.set_cons_zero, List.set_cons_succ]
      refine wpAnyH_take (i := 42) (oi := { dst := some 134, op := Go.Op.move (Go.Operand.tmp 133), type := 4, pos := "law.go:151", after := #[{ on := 41, ground := Go.Ground.data }, { on := 38, ground := Go.Ground.chain }], guard := none }) (v := ?_) rfl (by kernel_rfl) (by kernel_rfl) (by kernel_rfl) (fun _ _ _ h => h) (Or.inl ⟨by rfl, ?_⟩) (by assumption) ?_
      rotate_left
      · intro wq hSw; (try dsimp only at hSw); go_simp; (try with_reducible rfl)
      try simp only [Act.put, List.setIfInBounds_toArray, List.set_cons_zero, List.set_cons_succ]
      refine wpAnyH_take (i := 43) (oi := { dst := some 135, op := Go.Op.move (Go.Operand.tmp 18), type := 41, pos := "law.go:151", after := #[{ on := 42, ground := Go.Ground.guard }], guard := some (42, true) }) (v := ?_) rfl (by kernel_rfl) (by kernel_rfl) (by kernel_rfl) (fun _ _ _ h => h) (Or.inl ⟨by rfl, ?_⟩) (by assumption) ?_
      rotate_left
      · intro wq hSw; (try dsimp only at hSw); go_simp; (try with_reducible rfl)
      try simp only [Act.put, List.setIfInBounds_toArray, List.set_cons_zero, List.set_cons_succ]
      refine wpAnyH_take (i := 44) (oi := { dst := some 136, op := Go.Op.binOp Go.BinOp.eql 41 (Go.Operand.tmp 135) (Go.Operand.const Go.Value.nilIface) 41, type := 4, pos := "law.go:151", after := #[{ on := 43, ground := Go.Ground.data }, { on := 42, ground := Go.Ground.guard }], guard := some (42, true) }) (v := ?_) rfl (by kernel_rfl) (by kernel_rfl) (by kernel_rfl) (fun _ _ _ h => h) (Or.inl ⟨by rfl, ?_⟩) (by assumption) ?_
      rotate_left
      · intro wq hSw; (try dsimp only at hSw); go_simp; (try with_reducible rfl)
      try simp only [Act.put, List.setIfInBounds_toArray, List.set_cons_zero, List.set_cons_succ]
      refine wpAnyH_take (i := 45) (oi := { dst := some 137, op := Go.Op.pick (Go.Operand.tmp 134) (Go.Operand.tmp 136) (Go.Operand.const (Go.Value.bool false)), type := 4, pos := "law.go:151", after := #[{ on := 42, ground := Go.Ground.data }, { on := 44, ground := Go.Ground.data }], guard := none }) (v := ?_) rfl (by kernel_rfl) (by kernel_rfl) (by kernel_rfl) (fun _ _ _ h => h) (Or.inl ⟨by rfl, ?_⟩) (by assumption) ?_
      rotate_left
      · intro wq hSw; (try dsimp only at hSw); go_simp; (try with_reducible rfl)
      try simp only [Act.put, List.setIfInBounds_toArray, List.set_cons_zero, List.set_cons_succ]
      refine wpAnyH_take (i := 46) (oi := { dst := some 138, op := Go.Op.move (Go.Operand.tmp 137), type := 4, pos := "law.go:151", after := #[{ on := 45, ground := Go.Ground.data }, { on := 42, ground := Go.Ground.chain }], guard := none }) (v := ?_) rfl (by kernel_rfl) (by kernel_rfl) (by kernel_rfl) (fun _ _ _ h => h) (Or.inl ⟨by rfl, ?_⟩) (by assumption) ?_
      rotate_left
      · intro wq hSw; (try dsimp only at hSw); go_simp; (try with_reducible rfl)
      try simp only [Act.put, List.setIfInBounds_toArray, List.set_cons_zero, List.set_cons_succ]
      refine wpAnyH_take (i := 47) (oi := { dst := some 139, op := Go.Op.move (Go.Operand.tmp 19), type := 4, pos := "law.go:151", after := #[{ on := 46, ground := Go.Ground.guard }], guard := some (46, true) }) (v := ?_) rfl (by kernel_rfl) (by kernel_rfl) (by kernel_rfl) (fun _ _ _ h => h) (Or.inl ⟨by rfl, ?_⟩) (by assumption) ?_
      rotate_left
      · intro wq hSw; (try dsimp only at hSw); go_simp; (try with_reducible rfl)
      try simp only [Act.put, List.setIfInBounds_toArray, List.set_cons_zero, List.set_cons_succ]
      refine wpAnyH_take (i := 48) (oi := { dst := some 140, op := Go.Op.pick (Go.Operand.tmp 138) (Go.Operand.tmp 139) (Go.Operand.const (Go.Value.bool false)), type := 4, pos := "law.go:151", after := #[{ on := 46, ground := Go.Ground.data }, { on := 47, ground := Go.Ground.data }], guard := none }) (v := ?_) rfl (by kernel_rfl) (by kernel_rfl) (by kernel_rfl) (fun _ _ _ h => h) (Or.inl ⟨by rfl, ?_⟩) (by assumption) ?_
      rotate_left
      · intro wq hSw; (try dsimp only at hSw); go_simp; (try with_reducible rfl)
      try simp only [Act.put, List.setIfInBounds_toArray, List.set_cons_zero, List.set_cons_succ]
      refine wpAnyH_take (i := 49) (oi := { dst := some 141, op := Go.Op.move (Go.Operand.tmp 140), type := 4, pos := "law.go:151", after := #[{ on := 48, ground := Go.Ground.data }, { on := 46, ground := Go.Ground.chain }], guard := none }) (v := ?_) rfl (by kernel_rfl) (by kernel_rfl) (by kernel_rfl) (fun _ _ _ h => h) (Or.inl ⟨by rfl, ?_⟩) (by assumption) ?_
      rotate_left
      · intro wq hSw; (try dsimp only at hSw); go_simp; (try with_reducible rfl)
      try simp only [Act.put, List.setIfInBounds_toArray, List.set_cons_zero, List.set_cons_succ]
      refine wpAnyH_take (i := 50) (oi := { dst := some 142, op := Go.Op.move (Go.Operand.tmp 20), type := 4, pos := "law.go:151", after := #[{ on := 49, ground := Go.Ground.guard }], guard := some (49, true) }) (v := ?_) rfl (by kernel_rfl) (by kernel_rfl) (by kernel_rfl) (fun _ _ _ h => h) (Or.inl ⟨by rfl, ?_⟩) (by assumption) ?_
      rotate_left
      · intro wq hSw; (try dsimp only at hSw); go_simp; (try with_reducible rfl)
      try simp only [Act.put, List.setIfInBounds_toArray, List.set_cons_zero, List.set_cons_succ]
      refine wpAnyH_take (i := 51) (oi := { dst := some 143, op := Go.Op.pick (Go.Operand.tmp 141) (Go.Operand.tmp 142) (Go.Operand.const (Go.Value.bool false)), type := 4, pos := "law.go:151", after := #[{ on := 49, ground := Go.Ground.data }, { on := 50, ground := Go.Ground.data }], guard := none }) (v := ?_) rfl (by kernel_rfl) (by kernel_rfl) (by kernel_rfl) (fun _ _ _ h => h) (Or.inl ⟨by rfl, ?_⟩) (by assumption) ?_
      rotate_left
      · intro wq hSw; (try dsimp only at hSw); go_simp; (try with_reducible rfl)
      try simp only [Act.put, List.setIfInBounds_toArray, List.set_cons_zero, List.set_cons_succ]
      refine wpAnyH_take (i := 52) (oi := { dst := some 144, op := Go.Op.move (Go.Operand.tmp 143), type := 4, pos := "law.go:151", after := #[{ on := 51, ground := Go.Ground.data }, { on := 49, ground := Go.Ground.chain }], guard := none }) (v := ?_) rfl (by kernel_rfl) (by kernel_rfl) (by kernel_rfl) (fun _ _ _ h => h) (Or.inl ⟨by rfl, ?_⟩) (by assumption) ?_
      rotate_left
      · intro wq hSw; (try dsimp only at hSw); go_simp; (try with_reducible rfl)
      try simp only [Act.put, List.setIfInBounds_toArray, List.set_cons_zero, List.set_cons_succ]
      refine wpAnyH_take (i := 53) (oi := { dst := some 145, op := Go.Op.move (Go.Operand.tmp 21), type := 4, pos := "law.go:151", after := #[{ on := 52, ground := Go.Ground.guard }], guard := some (52, true) }) (v := ?_) rfl (by kernel_rfl) (by kernel_rfl) (by kernel_rfl) (fun _ _ _ h => h) (Or.inl ⟨by rfl, ?_⟩) (by assumption) ?_
      rotate_left
      · intro wq hSw; (try dsimp only at hSw); go_simp; (try with_reducible rfl)
      try simp only [Act.put, List.setIfInBounds_toArray, List.set_cons_zero, List.set_cons_succ]
      refine wpAnyH_take (i := 54) (oi := { dst := some 146, op := Go.Op.pick (Go.Operand.tmp 144) (Go.Operand.tmp 145) (Go.Operand.const (Go.Value.bool false)), type := 4, pos := "law.go:151", after := #[{ on := 52, ground := Go.Ground.data }, { on := 53, ground := Go.Ground.data }], guard := none }) (v := ?_) rfl (by kernel_rfl) (by kernel_rfl) (by kernel_rfl) (fun _ _ _ h => h) (Or.inl ⟨by rfl, ?_⟩) (by assumption) ?_
      rotate_left
      · intro wq hSw; (try dsimp only at hSw); go_simp; (try with_reducible rfl)
      try simp only [Act.put, List.setIfInBounds_toArray, List.set_cons_zero, List.set_cons_succ]
      refine wpAnyH_take (i := 55) (oi := { dst := some 6, op := Go.Op.assign (Go.Operand.tmp 146), type := 4, pos := "law.go:151", after := #[{ on := 54, ground := Go.Ground.data }, { on := 52, ground := Go.Ground.chain }, { on := 0, ground := Go.Ground.phase }, { on := 1, ground := Go.Ground.phase }, { on := 2, ground := Go.Ground.phase }, { on := 3, ground := Go.Ground.phase }, { on := 4, ground := Go.Ground.phase }, { on := 5, ground := Go.Ground.phase }, { on := 6, ground := Go.Ground.phase }, { on := 7, ground := Go.Ground.phase }, { on := 8, ground := Go.Ground.phase }, { on := 9, ground := Go.Ground.phase }, { on := 10, ground := Go.Ground.phase }, { on := 11, ground := Go.Ground.phase }, { on := 12, ground := Go.Ground.phase }, { on := 13, ground := Go.Ground.phase }, { on := 14, ground := Go.Ground.phase }, { on := 15, ground := Go.Ground.phase }, { on := 16, ground := Go.Ground.phase }, { on := 17, ground := Go.Ground.phase }, { on := 18, ground := Go.Ground.phase }, { on := 19, ground := Go.Ground.phase }, { on := 20, ground := Go.Ground.phase }, { on := 21, ground := Go.Ground.phase }, { on := 22, ground := Go.Ground.phase }, { on := 23, ground := Go.Ground.phase }, { on := 24, ground := Go.Ground.phase }, { on := 25, ground := Go.Ground.phase }, { on := 26, ground := Go.Ground.phase }, { on := 27, ground := Go.Ground.phase }, { on := 28, ground := Go.Ground.phase }, { on := 29, ground := Go.Ground.phase }, { on := 30, ground := Go.Ground.phase }, { on := 31, ground := Go.Ground.phase }, { on := 32, ground := Go.Ground.phase }, { on := 33, ground := Go.Ground.phase }, { on := 34, ground := Go.Ground.phase }, { on := 35, ground := Go.Ground.phase }, { on := 36, ground := Go.Ground.phase }, { on := 37, ground := Go.Ground.phase }, { on := 38, ground := Go.Ground.phase }, { on := 39, ground := Go.Ground.phase }, { on := 40, ground := Go.Ground.phase }, { on := 41, ground := Go.Ground.phase }, { on := 42, ground := Go.Ground.phase }, { on := 43, ground := Go.Ground.phase }, { on := 44, ground := Go.Ground.phase }, { on := 45, ground := Go.Ground.phase }, { on := 46, ground := Go.Ground.phase }, { on := 47, ground := Go.Ground.phase }, { on := 48, ground := Go.Ground.phase }, { on := 49, ground := Go.Ground.phase }, { on := 50, ground := Go.Ground.phase }, { on := 51, ground := Go.Ground.phase }, { on := 52, ground := Go.Ground.phase }, { on := 53, ground := Go.Ground.phase }, { on := 54, ground := Go.Ground.phase }], guard := none }) (v := ?_) rfl (by kernel_rfl) (by kernel_rfl) (by kernel_rfl) (fun _ _ _ h => h) (Or.inl ⟨by rfl, ?_⟩) (by assumption) ?_
      rotate_left
      · intro wq hSw; (try dsimp only at hSw); go_simp; (try with_reducible rfl)
      try simp only [Act.put, List.setIfInBounds_toArray, List.set_cons_zero, List.set_cons_succ]
      refine wpAnyH_done (by kernel_rfl) ?_ _
      clear xS xT xO xD xL
      go_wp2_with fail
      go_ret
      exact ⟨rfl, by (repeat' (first | with_reducible exact Below.refl _ _ | with_reducible assumption | with_reducible refine Below.drew ?_ | with_reducible refine below_drewN ?_ _ | with_reducible refine Below.setCell ?_ ?_ _ | with_reducible refine Below.alloc ?_ ?_ _ | omega | (simp; done) | (simp; omega)))⟩

set_option maxRecDepth 100000 in
theorem dayByDay_walk (l m : List (Pc Unit)) (A B : Option Addr) (c d : Nat) (n : Int) (E : Nat → Addr) (w : World) (hl : RowAt encU 2 w w.heap.size A l) (hm : RowAt encU 2 w w.heap.size B m) (hT : Tabs w) (hE : Env LD E w) :
    Calls Tryd.prog 12 #[.slice A l.length c, .slice B m.length d, .int .i64 n] w fun e w' => e = .returned (.bool true) ∧ Below w.heap.size w w' := by
  have bad : ∀ l : List (Pc Unit), ¬ (∀ p ∈ l, ValidS MD p) → ∃ p ∈ l, ¬ ValidS MD p := fun l hv => Classical.byContradiction fun h => hv fun p hp => Classical.byContradiction fun hn => h ⟨p, hp, hn⟩
  by_cases h1 : 300 < l.length
  · exact dayByDay_x l m A B c d n E w hl hm hT hE h1
  · by_cases h2 : 300 < m.length
    · exact dayByDay_y l m A B c d n E w hl hm hT hE (by omega) h2
    · by_cases hv : ∀ p ∈ l, ValidS MD p
      · by_cases hu : ∀ p ∈ m, ValidS MD p
        · exact dayByDay_g l m A B c d n E w hl hm hT hE (by omega) (by omega) hv hu
        · exact dayByDay_b l m A B c d n E w hl hm hT hE (by omega) (by omega) hv (bad m hu)
      · exact dayByDay_a l m A B c d n E w hl hm hT hE (by omega) (by omega) (bad l hv)

end Go.Proofs.YthgdjocoiniphaaDoor
