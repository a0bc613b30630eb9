/- prov.Check: a walk. -/
import Derived.Test.YtngckppnaflciaaDoorBkG
namespace Go.Proofs.YtngckppnaflciaaDoor
open Go.RowKit

def In8 (n : Int) : Prop := -9223372036854775808 ≤ n ∧ n ≤ 9223372036854775807
theorem rd_is (mode n d : Int) (b : Bool) (w : World) (h : rdB mode n d = b) (hn : In8 n) (hd : In8 d) :
    Calls Tryd.prog 52 #[.agg #[.int .i64 mode, .int .i64 n, .int .i64 d]] w fun e w' => e = .returned (.bool b) ∧ Below w.heap.size w w' := by
  subst h; exact roundValid_any mode n d w hn.1 hn.2 hd.1 hd.2
/-- what Check tells (bs: whether the scale is one) -/
def checkE (k n d : Int) (l : Nat) (bs : Bool) (r : ByteArray) (mode un ud : Int) : Option Nat :=
  if k < 1 ∨ 3 < k ∨ unusedB k n d l r mode un ud = false then some 7
  else if k = 1 then (if validB n d = true then none else some 8)
  else if k = 2 then (if bs = true then none else some 9)
  else if r.toList.isEmpty = true ∨ 4096 < r.size then some 10
  else if rdB mode un ud = true then none else some 11

set_option maxRecDepth 10000 in
set_option maxHeartbeats 4000000 in
theorem check_is (k n d : Int) (A : Option Addr) (l c : Nat) (bs : Bool) (r : ByteArray) (mode un ud : Int) (x : Option Nat) (E : Nat → Addr) (w : World) (hE : Env LB E w)
    (in1 : In8 n) (in2 : In8 d) (in3 : In8 un) (in4 : In8 ud)
    (hs : ∀ W, Below w.heap.size w W → Calls Tryd.prog 51 #[.slice A l c] W fun e w' => e = .returned (.bool bs) ∧ Below W.heap.size W w')
    (hx : checkE k n d l bs r mode un ud = x) :
    Calls Tryd.prog 35 #[.agg #[.int .i64 k, .int .i64 n, .int .i64 d, .slice A l c, .string r, .int .i64 mode, .int .i64 un, .int .i64 ud]] w fun e w' => e = .returned (errB E x) ∧ Below w.heap.size w w' := by
  have HS := Lib.hid hs
  have HE := Lib.hid hE
  clear hs hE
  by_cases h1 : k < 1
  · have e1 : x = some 7 := by rw [← hx]; unfold checkE; simp [h1]
    subst e1
    clear hx
    have hlt := World.block_lt_of_cell? _ _ (HE.out.cell 7 (by decide))
    have cK := HE.out.cell 7 (by decide)
    have cK2 := fun o => cell_alloc (o := o) cK
    go_enter Tryd.func35, Tryd.ntmps35
    go_wp2_with fail
    go_ret
    exact ⟨rfl, (by (repeat' (first | with_reducible exact Below.refl _ _ | with_reducible assumption | with_reducible refine Below.drew ?_ | with_reducible refine below_drewN ?_ _ | with_reducible refine Below.setCell ?_ ?_ _ | with_reducible refine Below.alloc ?_ ?_ _ | omega | (simp; done) | (simp; omega))))⟩
  · by_cases h3 : 3 < k
    · have e1 : x = some 7 := by rw [← hx]; unfold checkE; simp [h1, h3]
      subst e1
      clear hx
      have hlt := World.block_lt_of_cell? _ _ (HE.out.cell 7 (by decide))
      have cK := HE.out.cell 7 (by decide)
      have cK2 := fun o => cell_alloc (o := o) cK
      go_enter Tryd.func35, Tryd.ntmps35
      go_wp2_with fail
      go_ret
      exact ⟨rfl, (by (repeat' (first | with_reducible exact Below.refl _ _ | with_reducible assumption | with_reducible refine Below.drew ?_ | with_reducible refine below_drewN ?_ _ | with_reducible refine Below.setCell ?_ ?_ _ | with_reducible refine Below.alloc ?_ ?_ _ | omega | (simp; done) | (simp; omega))))⟩
    · rcases (show k = 1 ∨ k = 2 ∨ k = 3 by omega) with rfl | rfl | rfl
      · clear h1 h3
        cases hu : unusedB 1 n d l r mode un ud with
        | false =>
          have e1 : x = some 7 := by rw [← hx]; unfold checkE; simp [hu]
          subst e1
          clear hx
          have HU := Lib.hid hu
          clear hu
          go_enter Tryd.func35, Tryd.ntmps35
          go_wp2_with fail
          refine (unused_one n d A l c r mode un ud false _ HU.out).mono ?_
          rintro e w1 ⟨rfl, hb1⟩
          have hw1 : Below w.heap.size w w1 := stepH (by (repeat' (first | with_reducible exact Below.refl _ _ | with_reducible assumption | with_reducible refine Below.drew ?_ | with_reducible refine below_drewN ?_ _ | with_reducible refine Below.setCell ?_ ?_ _ | with_reducible refine Below.alloc ?_ ?_ _ | omega | (simp; done) | (simp; omega)))) hb1
          have B1 := keepH hb1 (g := w.heap.size) (blk_new rfl)
          have cB := cellH B1
          have c10 := (HE.out.below hw1).cell 7 (by decide)
          have c11 := (HE.out.below hw1).cell 10 (by decide)
          go_wp2_with fail
          go_ret
          exact ⟨rfl, hw1⟩
        | true =>
          cases hv : validB n d with
          | false =>
            have e1 : x = some 8 := by rw [← hx]; unfold checkE; simp [hu, hv]
            subst e1
            clear hx
            have HU := Lib.hid hu
            clear hu
            have HV := Lib.hid hv
            clear hv
            go_enter Tryd.func35, Tryd.ntmps35
            go_wp2_with fail
            refine (unused_one n d A l c r mode un ud true _ HU.out).mono ?_
            rintro e w1 ⟨rfl, hb1⟩
            have hw1 : Below w.heap.size w w1 := stepH (by (repeat' (first | with_reducible exact Below.refl _ _ | with_reducible assumption | with_reducible refine Below.drew ?_ | with_reducible refine below_drewN ?_ _ | with_reducible refine Below.setCell ?_ ?_ _ | with_reducible refine Below.alloc ?_ ?_ _ | omega | (simp; done) | (simp; omega)))) hb1
            have B1 := keepH hb1 (g := w.heap.size) (blk_new rfl)
            have cB := cellH B1
            have c10 := (HE.out.below hw1).cell 7 (by decide)
            have c11 := (HE.out.below hw1).cell 10 (by decide)
            go_wp2_with fail
            refine (valid_is n d false _ HV.out in1.1 in1.2 in2.1 in2.2).mono ?_
            rintro e w2 ⟨rfl, hb2⟩
            have hw2 : Below w.heap.size w w2 := stepH hw1 hb2
            have c20 := (HE.out.below hw2).cell 8 (by decide)
            go_wp2_with fail
            go_ret
            exact ⟨rfl, hw2⟩
          | true =>
            have e1 : x = none := by rw [← hx]; unfold checkE; simp [hu, hv]
            subst e1
            clear hx
            have HU := Lib.hid hu
            clear hu
            have HV := Lib.hid hv
            clear hv
            go_enter Tryd.func35, Tryd.ntmps35
            go_wp2_with fail
            refine (unused_one n d A l c r mode un ud true _ HU.out).mono ?_
            rintro e w1 ⟨rfl, hb1⟩
            have hw1 : Below w.heap.size w w1 := stepH (by (repeat' (first | with_reducible exact Below.refl _ _ | with_reducible assumption | with_reducible refine Below.drew ?_ | with_reducible refine below_drewN ?_ _ | with_reducible refine Below.setCell ?_ ?_ _ | with_reducible refine Below.alloc ?_ ?_ _ | omega | (simp; done) | (simp; omega)))) hb1
            have B1 := keepH hb1 (g := w.heap.size) (blk_new rfl)
            have cB := cellH B1
            have c10 := (HE.out.below hw1).cell 7 (by decide)
            have c11 := (HE.out.below hw1).cell 10 (by decide)
            go_wp2_with fail
            refine (valid_is n d true _ HV.out in1.1 in1.2 in2.1 in2.2).mono ?_
            rintro e w2 ⟨rfl, hb2⟩
            have hw2 : Below w.heap.size w w2 := stepH hw1 hb2
            have c20 := (HE.out.below hw2).cell 8 (by decide)
            go_wp2_with fail
            go_ret
            exact ⟨rfl, hw2⟩
      · clear h1 h3
        cases hu : unusedB 2 n d l r mode un ud with
        | false =>
          have e1 : x = some 7 := by rw [← hx]; unfold checkE; simp [hu]
          subst e1
          clear hx
          have HU := Lib.hid hu
          clear hu
          go_enter Tryd.func35, Tryd.ntmps35
          go_wp2_with fail
          refine (unused_two n d A l c r mode un ud false _ HU.out).mono ?_
          rintro e w1 ⟨rfl, hb1⟩
          have hw1 : Below w.heap.size w w1 := stepH (by (repeat' (first | with_reducible exact Below.refl _ _ | with_reducible assumption | with_reducible refine Below.drew ?_ | with_reducible refine below_drewN ?_ _ | with_reducible refine Below.setCell ?_ ?_ _ | with_reducible refine Below.alloc ?_ ?_ _ | omega | (simp; done) | (simp; omega)))) hb1
          have B1 := keepH hb1 (g := w.heap.size) (blk_new rfl)
          have cB := cellH B1
          have c10 := (HE.out.below hw1).cell 7 (by decide)
          have c11 := (HE.out.below hw1).cell 10 (by decide)
          go_wp2_with fail
          go_ret
          exact ⟨rfl, hw1⟩
        | true =>
          cases bs with
          | false =>
            have e1 : x = some 9 := by rw [← hx]; unfold checkE; simp [hu]
            subst e1
            clear hx
            have HU := Lib.hid hu
            clear hu
            go_enter Tryd.func35, Tryd.ntmps35
            go_wp2_with fail
            refine (unused_two n d A l c r mode un ud true _ HU.out).mono ?_
            rintro e w1 ⟨rfl, hb1⟩
            have hw1 : Below w.heap.size w w1 := stepH (by (repeat' (first | with_reducible exact Below.refl _ _ | with_reducible assumption | with_reducible refine Below.drew ?_ | with_reducible refine below_drewN ?_ _ | with_reducible refine Below.setCell ?_ ?_ _ | with_reducible refine Below.alloc ?_ ?_ _ | omega | (simp; done) | (simp; omega)))) hb1
            have B1 := keepH hb1 (g := w.heap.size) (blk_new rfl)
            have cB := cellH B1
            have c10 := (HE.out.below hw1).cell 7 (by decide)
            have c11 := (HE.out.below hw1).cell 10 (by decide)
            go_wp2_with fail
            refine (HS.out _ hw1).mono ?_
            rintro e w2 ⟨rfl, hb2⟩
            have hw2 : Below w.heap.size w w2 := stepH hw1 hb2
            have c20 := (HE.out.below hw2).cell 9 (by decide)
            go_wp2_with fail
            go_ret
            exact ⟨rfl, hw2⟩
          | true =>
            have e1 : x = none := by rw [← hx]; unfold checkE; simp [hu]
            subst e1
            clear hx
            have HU := Lib.hid hu
            clear hu
            go_enter Tryd.func35, Tryd.ntmps35
            go_wp2_with fail
            refine (unused_two n d A l c r mode un ud true _ HU.out).mono ?_
            rintro e w1 ⟨rfl, hb1⟩
            have hw1 : Below w.heap.size w w1 := stepH (by (repeat' (first | with_reducible exact Below.refl _ _ | with_reducible assumption | with_reducible refine Below.drew ?_ | with_reducible refine below_drewN ?_ _ | with_reducible refine Below.setCell ?_ ?_ _ | with_reducible refine Below.alloc ?_ ?_ _ | omega | (simp; done) | (simp; omega)))) hb1
            have B1 := keepH hb1 (g := w.heap.size) (blk_new rfl)
            have cB := cellH B1
            have c10 := (HE.out.below hw1).cell 7 (by decide)
            have c11 := (HE.out.below hw1).cell 10 (by decide)
            go_wp2_with fail
            refine (HS.out _ hw1).mono ?_
            rintro e w2 ⟨rfl, hb2⟩
            have hw2 : Below w.heap.size w w2 := stepH hw1 hb2
            have c20 := (HE.out.below hw2).cell 9 (by decide)
            go_wp2_with fail
            go_ret
            exact ⟨rfl, hw2⟩
      · clear h1 h3
        cases hu : unusedB 3 n d l r mode un ud with
        | false =>
          have e1 : x = some 7 := by rw [← hx]; unfold checkE; simp [hu]
          subst e1
          clear hx
          have HU := Lib.hid hu
          clear hu
          go_enter Tryd.func35, Tryd.ntmps35
          go_wp2_with fail
          refine (unused_three n d A l c r mode un ud false _ HU.out).mono ?_
          rintro e w1 ⟨rfl, hb1⟩
          have hw1 : Below w.heap.size w w1 := stepH (by (repeat' (first | with_reducible exact Below.refl _ _ | with_reducible assumption | with_reducible refine Below.drew ?_ | with_reducible refine below_drewN ?_ _ | with_reducible refine Below.setCell ?_ ?_ _ | with_reducible refine Below.alloc ?_ ?_ _ | omega | (simp; done) | (simp; omega)))) hb1
          have B1 := keepH hb1 (g := w.heap.size) (blk_new rfl)
          have cB := cellH B1
          have c10 := (HE.out.below hw1).cell 7 (by decide)
          have c11 := (HE.out.below hw1).cell 10 (by decide)
          go_wp2_with fail
          go_ret
          exact ⟨rfl, hw1⟩
        | true =>
          cases hr : r.toList.isEmpty with
          | false =>
            by_cases hz : 4096 < r.size
            · have e1 : x = some 10 := by rw [← hx]; unfold checkE; simp [hu, hr, hz]
              subst e1
              clear hx
              have HU := Lib.hid hu
              clear hu
              go_enter Tryd.func35, Tryd.ntmps35
              go_wp2_with fail
              refine (unused_three n d A l c r mode un ud true _ HU.out).mono ?_
              rintro e w1 ⟨rfl, hb1⟩
              have hw1 : Below w.heap.size w w1 := stepH (by (repeat' (first | with_reducible exact Below.refl _ _ | with_reducible assumption | with_reducible refine Below.drew ?_ | with_reducible refine below_drewN ?_ _ | with_reducible refine Below.setCell ?_ ?_ _ | with_reducible refine Below.alloc ?_ ?_ _ | omega | (simp; done) | (simp; omega)))) hb1
              have B1 := keepH hb1 (g := w.heap.size) (blk_new rfl)
              have cB := cellH B1
              have c10 := (HE.out.below hw1).cell 7 (by decide)
              have c11 := (HE.out.below hw1).cell 10 (by decide)
              go_wp2_with fail
              go_ret
              exact ⟨rfl, hw1⟩
            · cases hv : rdB mode un ud with
              | false =>
                have e1 : x = some 11 := by rw [← hx]; unfold checkE; simp [hu, hr, hz, hv]
                subst e1
                clear hx
                have HU := Lib.hid hu
                clear hu
                have HV := Lib.hid hv
                clear hv
                go_enter Tryd.func35, Tryd.ntmps35
                go_wp2_with fail
                refine (unused_three n d A l c r mode un ud true _ HU.out).mono ?_
                rintro e w1 ⟨rfl, hb1⟩
                have hw1 : Below w.heap.size w w1 := stepH (by (repeat' (first | with_reducible exact Below.refl _ _ | with_reducible assumption | with_reducible refine Below.drew ?_ | with_reducible refine below_drewN ?_ _ | with_reducible refine Below.setCell ?_ ?_ _ | with_reducible refine Below.alloc ?_ ?_ _ | omega | (simp; done) | (simp; omega)))) hb1
                have B1 := keepH hb1 (g := w.heap.size) (blk_new rfl)
                have cB := cellH B1
                have c10 := (HE.out.below hw1).cell 7 (by decide)
                have c11 := (HE.out.below hw1).cell 10 (by decide)
                go_wp2_with fail
                refine (rd_is mode un ud false _ HV.out in3 in4).mono ?_
                rintro e w2 ⟨rfl, hb2⟩
                have hw2 : Below w.heap.size w w2 := stepH hw1 hb2
                have c20 := (HE.out.below hw2).cell 11 (by decide)
                go_wp2_with fail
                go_ret
                exact ⟨rfl, hw2⟩
              | true =>
                have e1 : x = none := by rw [← hx]; unfold checkE; simp [hu, hr, hz, hv]
                subst e1
                clear hx
                have HU := Lib.hid hu
                clear hu
                have HV := Lib.hid hv
                clear hv
                go_enter Tryd.func35, Tryd.ntmps35
                go_wp2_with fail
                refine (unused_three n d A l c r mode un ud true _ HU.out).mono ?_
                rintro e w1 ⟨rfl, hb1⟩
                have hw1 : Below w.heap.size w w1 := stepH (by (repeat' (first | with_reducible exact Below.refl _ _ | with_reducible assumption | with_reducible refine Below.drew ?_ | with_reducible refine below_drewN ?_ _ | with_reducible refine Below.setCell ?_ ?_ _ | with_reducible refine Below.alloc ?_ ?_ _ | omega | (simp; done) | (simp; omega)))) hb1
                have B1 := keepH hb1 (g := w.heap.size) (blk_new rfl)
                have cB := cellH B1
                have c10 := (HE.out.below hw1).cell 7 (by decide)
                have c11 := (HE.out.below hw1).cell 10 (by decide)
                go_wp2_with fail
                refine (rd_is mode un ud true _ HV.out in3 in4).mono ?_
                rintro e w2 ⟨rfl, hb2⟩
                have hw2 : Below w.heap.size w w2 := stepH hw1 hb2
                have c20 := (HE.out.below hw2).cell 11 (by decide)
                go_wp2_with fail
                go_ret
                exact ⟨rfl, hw2⟩
          | true =>
            have e1 : x = some 10 := by rw [← hx]; unfold checkE; simp [hu, hr]
            subst e1
            clear hx
            have HU := Lib.hid hu
            clear hu
            go_enter Tryd.func35, Tryd.ntmps35
            go_wp2_with fail
            refine (unused_three n d A l c r mode un ud true _ HU.out).mono ?_
            rintro e w1 ⟨rfl, hb1⟩
            have hw1 : Below w.heap.size w w1 := stepH (by (repeat' (first | with_reducible exact Below.refl _ _ | with_reducible assumption | with_reducible refine Below.drew ?_ | with_reducible refine below_drewN ?_ _ | with_reducible refine Below.setCell ?_ ?_ _ | with_reducible refine Below.alloc ?_ ?_ _ | omega | (simp; done) | (simp; omega)))) hb1
            have B1 := keepH hb1 (g := w.heap.size) (blk_new rfl)
            have cB := cellH B1
            have c10 := (HE.out.below hw1).cell 7 (by decide)
            have c11 := (HE.out.below hw1).cell 10 (by decide)
            go_wp2_with fail
            go_ret
            exact ⟨rfl, hw1⟩
end Go.Proofs.YtngckppnaflciaaDoor
