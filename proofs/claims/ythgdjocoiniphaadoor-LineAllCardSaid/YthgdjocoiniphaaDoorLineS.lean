/- The walk of LineAll. -/
import Derived.Test.YthgdjocoiniphaaDoorLineR
import Derived.Deep.DeepCutAuto
import Derived.Deep.RegionHeld3
namespace Go.Proofs.YthgdjocoiniphaaDoor
open Go.RowKit Go.Shelf
attribute [local go_sem] Oper.semAt_some

theorem funNil6 (f : Fn) (cap : Array Value) (w : World) : (binOp .eql 67 (.func f #[] cap) .nilFunc).run Tryd.prog w = .ok (.bool false) w := by kernel_rfl

set_option maxRecDepth 100000 in
set_option maxHeartbeats 16000000 in
theorem lineAll_many (l : List (Pc Int)) (A : Option Addr) (c : Nat) (stop : Int) (w : World) (h2 : 200 < l.length) :
    Calls Tryd.prog 5 #[.slice A l.length c, .int .i64 stop] w fun e w' => e = .returned (.bool true) ∧ Below w.heap.size w w' := by
  have hd : decide ((200 : Int) < (l.length : Int)) = true := decide_eq_true (by omega)
  go_enter Tryd.func5, Tryd.ntmps5
  go_wp2_with fail
  refine (first6_any _).mono ?_
  rintro e w1 ⟨rfl, hb1⟩
  have hw1 : Below w.heap.size w w1 := stepH (by (repeat' (first | with_reducible exact Below.refl _ _ | with_reducible assumption | with_reducible refine Below.drew ?_ | with_reducible refine below_drewN ?_ _ | with_reducible refine Below.setCell ?_ ?_ _ | with_reducible refine Below.alloc ?_ ?_ _ | omega | (simp; done) | (simp; omega)))) hb1
  have R := keepH hb1 (g := w.heap.size + 1) (blk_new (by simp))
  have lR := lt_of_H R
  have cR := cellH R
  have fzR := frozH R
  clear hb1
  go_wp2_with fail
  refine bodyPost_ret (v := .bool true) (by simp [results, Tryd.results5, go_sem, cR]) rfl ⟨rfl, by (repeat' (first | with_reducible exact Below.refl _ _ | with_reducible assumption | with_reducible refine Below.drew ?_ | with_reducible refine below_drewN ?_ _ | with_reducible refine Below.setCell ?_ ?_ _ | with_reducible refine Below.alloc ?_ ?_ _ | omega | (simp; done) | (simp; omega)))⟩

set_option maxRecDepth 100000 in
set_option maxHeartbeats 16000000 in
theorem lineAll_bad (l : List (Pc Int)) (A : Option Addr) (c : Nat) (stop : Int) (E : Nat → Addr) (w : World) (hl : RowAt encP 3 w w.heap.size A l) (h3 : l.length ≤ 200) (hb : ∃ p ∈ l, ¬ ValidP MD p) (hE : Env L6 E w) :
    Calls Tryd.prog 5 #[.slice A l.length c, .int .i64 stop] w fun e w' => e = .returned (.bool true) ∧ Below w.heap.size w w' := by
  have HL := Lib.hid hl
  have HE := Lib.hid hE
  have HB := Lib.hid hb
  have hd : decide ((200 : Int) < (l.length : Int)) = false := decide_eq_false (by omega)
  have hen := fun w => eql_nil (E 6) w
  clear hl hE hb
  go_enter Tryd.func5, Tryd.ntmps5
  go_wp2_with fail
  refine (first6_any _).mono ?_
  rintro e w1 ⟨rfl, hb1⟩
  have hw1 : Below w.heap.size w w1 := stepH (by (repeat' (first | with_reducible exact Below.refl _ _ | with_reducible assumption | with_reducible refine Below.drew ?_ | with_reducible refine below_drewN ?_ _ | with_reducible refine Below.setCell ?_ ?_ _ | with_reducible refine Below.alloc ?_ ?_ _ | omega | (simp; done) | (simp; omega)))) hb1
  have R := keepH hb1 (g := w.heap.size + 1) (blk_new (by simp))
  clear hb1
  go_wp2_with fail
  refine (piecesL_any l A c _ ((HL.out.below (by (repeat' (first | with_reducible exact Below.refl _ _ | with_reducible assumption | with_reducible refine Below.drew ?_ | with_reducible refine below_drewN ?_ _ | with_reducible refine Below.setCell ?_ ?_ _ | with_reducible refine Below.alloc ?_ ?_ _ | omega | (simp; done) | (simp; omega)))) (Nat.le_refl _)).more hw1.size) (by omega)).mono ?_
  rintro e w2 ⟨⟨A2, c2, rfl, hrow2⟩, hb2⟩
  have hw2 : Below w.heap.size w w2 := stepH (by (repeat' (first | with_reducible exact Below.refl _ _ | with_reducible assumption | with_reducible refine Below.drew ?_ | with_reducible refine below_drewN ?_ _ | with_reducible refine Below.setCell ?_ ?_ _ | with_reducible refine Below.alloc ?_ ?_ _ | omega | (simp; done) | (simp; omega)))) hb2
  replace R := keepH hb2 R.out
  clear hb2 hw1
  go_wp2_with fail
  refine (make6_bad l A2 c2 E _ hrow2 (by omega) HB.out (HE.out.below (by (repeat' (first | with_reducible exact Below.refl _ _ | with_reducible assumption | with_reducible refine Below.drew ?_ | with_reducible refine below_drewN ?_ _ | with_reducible refine Below.setCell ?_ ?_ _ | with_reducible refine Below.alloc ?_ ?_ _ | omega | (simp; done) | (simp; omega)))))).mono ?_
  rintro e w3 ⟨rfl, hb3⟩
  have hw3 : Below w.heap.size w w3 := stepH (by (repeat' (first | with_reducible exact Below.refl _ _ | with_reducible assumption | with_reducible refine Below.drew ?_ | with_reducible refine below_drewN ?_ _ | with_reducible refine Below.setCell ?_ ?_ _ | with_reducible refine Below.alloc ?_ ?_ _ | omega | (simp; done) | (simp; omega)))) hb3
  replace R := keepH hb3 R.out
  have z3 := hw3.size
  have lR := lt_of_H R
  have cR := cellH R
  have fzR := frozH R
  have cR2 := cellH (Lib.hid (blk_old (o := .cells #[.slice none 0 0] 61) (setBox R.out (.bool true))))
  clear hb3
  go_wp2_with fail
  refine bodyPost_ret (v := .bool true) (by simp [results, Tryd.results5, go_sem, cR2]) rfl ⟨rfl, by (repeat' (first | with_reducible exact Below.refl _ _ | with_reducible assumption | with_reducible refine Below.drew ?_ | with_reducible refine below_drewN ?_ _ | with_reducible refine Below.setCell ?_ ?_ _ | with_reducible refine Below.alloc ?_ ?_ _ | omega | (simp; done) | (simp; omega)))⟩

end Go.Proofs.YthgdjocoiniphaaDoor
