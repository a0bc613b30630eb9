/- The walk of the chapter's examples (tithelaw1.first): it answers true. -/
import Derived.Test.YtbmkbhclkaopaaaDoorFracF
import Derived.Deep.DrawnRows
import Derived.LaidEqlPtr
import Derived.LaidEql
namespace Go.Proofs.YtbmkbhclkaopaaaDoor
open Go.RowKit

theorem resF_ok {E : Nat → Addr} {r : Except Nat Rat} {q : Rat} {n d a b : Int} {err : Value} (h : ResF E r n d err) (hr : r = .ok q) (hn : q.num = a) (hd : (q.den : Int) = b) : n = a ∧ d = b ∧ err = .nilIface := by
  subst hr; obtain ⟨h1, h2, h3⟩ := h; exact ⟨h1.trans hn, h2.trans hd, h3⟩
theorem resF_err {E : Nat → Addr} {r : Except Nat Rat} {g : Nat} {n d : Int} {err : Value} (h : ResF E r n d err) (hr : r = .error g) : n = 0 ∧ d = 0 ∧ err = .iface 62 (.pointer (some (E g))) := by
  subst hr; exact h
theorem keepH {W w1 : World} (hb : Below W.heap.size W w1) {g : Nat} {x : Obj} (h : W.heap[g]? = some x) : Hid (w1.heap[g]? = some x) := by
  have hlt : g < W.heap.size := by
    rcases Nat.lt_or_ge g W.heap.size with hl | hge
    · exact hl
    · rw [Array.getElem?_eq_none hge] at h; cases h
  exact (hb.block g hlt).trans h
theorem cellH {w : World} {g : Nat} {cs : Array Value} {t : TypeId} (h : Hid (w.heap[g]? = some (.cells cs t (0, 0)))) : ∀ o, w.cell? ⟨g, o, none⟩ = cs[o]? := fun o => cell_of_row w g o cs t (0, 0) h
/-- a step from one world to the next, by a name of its own -/
def Step (W w1 : World) : Prop := Below W.heap.size W w1
theorem keepS {W w1 : World} (hb : Step W w1) {g : Nat} {x : Obj} (h : W.heap[g]? = some x) : w1.heap[g]? = some x := keepH hb h
theorem setH2 {w : World} {g : Nat} {x y u v : Value} {t : TypeId} (h : w.heap[g]? = some (.cells #[x, y] t (0, 0))) : Hid (((w.setCell ⟨g, 0, none⟩ u).setCell ⟨g, 1, none⟩ v).heap[g]? = some (.cells #[u, v] t (0, 0))) := by
  show _ = _
  simp [World.setCell, Array.getElem?_modify, h]
theorem lt_of_H {w : World} {g : Nat} {x : Obj} (h : Hid (w.heap[g]? = some x)) : g < w.heap.size := by
  rcases Nat.lt_or_ge g w.heap.size with hl | hge
  · exact hl
  · have := h.out; rw [Array.getElem?_eq_none hge] at this; cases this
theorem setH2o {w : World} {g k : Nat} {o : Obj} {u v : Value} (h : Hid (w.heap[k]? = some o)) (hne : k ≠ g) : Hid (((w.setCell ⟨g, 0, none⟩ u).setCell ⟨g, 1, none⟩ v).heap[k]? = some o) := by
  show _ = _
  rw [Below.heap_setCell _ _ _ _ hne, Below.heap_setCell _ _ _ _ hne]; exact h
theorem drew_old {w : World} {g : Nat} {x : Option Obj} (h : w.heap[g]? = x) : w.drew.heap[g]? = x := h
theorem ltH {w : World} {g : Nat} {x : Obj} (h : Hid (w.heap[g]? = some x)) : g < w.heap.size ∧ g < w.heap.size + 1 ∧ g < w.heap.size + 1 + 1 := by
  have hlt : g < w.heap.size := by
    rcases Nat.lt_or_ge g w.heap.size with hl | hge
    · exact hl
    · have := h.out; rw [Array.getElem?_eq_none hge] at this; cases this
  omega
theorem frozH {w : World} {g : Nat} {cs : Array Value} {t : TypeId} (h : Hid (w.heap[g]? = some (.cells cs t (0, 0)))) : ∀ o, w.frozen? ⟨g, o, none⟩ = false := fun o => by
  have h' : w.heap[g]? = some (.cells cs t (0, 0)) := h
  simp [World.frozen?, h']
theorem stepH {w W w1 : World} (hw : Below w.heap.size w W) (hb : Below W.heap.size W w1) : Below w.heap.size w w1 := hw.trans (hb.mono hw.size)

theorem info62 : (Tryd.prog.info? 62).map (·.comparable) = some true := by kernel_rfl
theorem info80 : (Tryd.prog.info? 80).map (·.size) = some 1 := by kernel_rfl
/-- two interface values that hold one pointer -/
theorem eql_err (a : Addr) (w : World) : (binOp .eql 38 (.iface 62 (.pointer (some a))) (.iface 62 (.pointer (some a)))).run Tryd.prog w = .ok (.bool true) w := by
  obtain ⟨i, hi, hc⟩ := Option.map_eq_some_iff.1 info62
  obtain ⟨j, hj, _⟩ := Option.map_eq_some_iff.1 info80
  exact run_eql_iface_ptr_same w a Tryd.underlying38 Tryd.underlying62 hi hc hj
/-- one that holds a pointer, and nil -/
theorem eql_nil (a : Addr) (w : World) : (binOp .eql 38 (.iface 62 (.pointer (some a))) .nilIface).run Tryd.prog w = .ok (.bool false) w := by
  exact run_eql_held_nil w _ _ _ Tryd.underlying38

theorem goodR_ok {q : Rat} (h : decide (Good q) = true) : goodR q = .ok q := by unfold goodR; rw [if_pos (of_decide_eq_true h)]
theorem goodR_no {q : Rat} (h : decide (Good q) = false) : goodR q = .error 1 := by unfold goodR; rw [if_neg (of_decide_eq_false h)]
theorem ex1 : makeR (6) (-4) = .ok (Rat.divInt 6 (-4)) := by
  unfold makeR; rw [if_neg (by decide)]; exact goodR_ok (by decide +kernel)
theorem ex2 : makeR (-9223372036854775808) (-9223372036854775808) = .ok (Rat.divInt (-9223372036854775808) (-9223372036854775808)) := by
  unfold makeR; rw [if_neg (by decide)]; exact goodR_ok (by decide +kernel)
theorem ex3 : makeR (1) (0) = .error 0 := by
  unfold makeR; rw [if_pos rfl]
theorem ex4 : opI addR 1 2 1 3 = .ok (Rat.divInt 1 2 + Rat.divInt 1 3) := by
  unfold opI; rw [if_pos (by decide +kernel)]; exact goodR_ok (by decide +kernel)
theorem ex5 : opI addR 1 1000000 1 999999 = .error 1 := by
  unfold opI; rw [if_pos (by decide +kernel)]; exact goodR_no (by decide +kernel)
theorem ex6 : opI divR 1 2 (-3) 4 = .ok (Rat.divInt 1 2 / Rat.divInt (-3) 4) := by
  unfold opI; rw [if_pos (by decide +kernel)]; unfold divR; rw [if_neg (by decide +kernel)]; exact goodR_ok (by decide +kernel)

theorem first_cmp (w : World) : Calls Tryd.prog 14 #[.agg #[.int .i64 1, .int .i64 3], .agg #[.int .i64 333333, .int .i64 1000000]] w fun e w' => e = .returned (.int .i64 1) ∧ Below w.heap.size w w' := by
  have h := cmp_any (Rat.divInt 1 3) (Rat.divInt 333333 1000000) w (by decide +kernel) (by decide +kernel)
  rw [show (Rat.divInt 1 3).num = 1 by decide +kernel, show (Rat.divInt 1 3).den = 3 by decide +kernel, show (Rat.divInt 333333 1000000).num = 333333 by decide +kernel, show (Rat.divInt 333333 1000000).den = 1000000 by decide +kernel, show cmpQ (Rat.divInt 1 3) (Rat.divInt 333333 1000000) = 1 by decide +kernel] at h
  exact h
theorem first_valid (w : World) : Calls Tryd.prog 32 #[.agg #[.int .i64 2, .int .i64 4]] w fun e w' => e = .returned (.bool false) ∧ Below w.heap.size w w' := by
  have h := fracValid_any 2 4 w (by omega) (by omega) (by omega) (by omega)
  rw [show validB 2 4 = false by decide +kernel] at h
  exact h
theorem first_same (n d : Int) (w : World) : Calls Tryd.prog 11 #[.agg #[.int .i64 n, .int .i64 d], .agg #[.int .i64 n, .int .i64 d]] w fun e w' => e = .returned (.bool true) ∧ Below w.heap.size w w' := by
  have h := same_any n d n d w
  rw [show (n == n && d == d) = true by simp] at h
  exact h

set_option maxHeartbeats 4000000 in
theorem first_any (E : Nat → Addr) (w : World) (hE : Env LF E w) :
    Calls Tryd.prog 9 #[] w fun e w' => e = .returned (.bool true) ∧ Below w.heap.size w w' := by
  have HE : Hid (Env LF E w) := hE
  clear hE
  go_enter Tryd.func9, Tryd.ntmps9
  go_wp2_with fail
  refine (make_any 6 (-4) E _ (by omega) (by omega) (by omega) (by omega) (HE.out.below (by (repeat (first | exact Below.refl _ _ | assumption | refine Below.drew ?_ | refine below_drewN ?_ _ | refine Below.setCell ?_ (by first | omega | (simp; done) | (simp; omega)) _ | refine Below.alloc ?_ (by first | omega | (simp; done) | (simp; omega)) _))))).mono ?_
  rintro e w1 ⟨⟨n, d, err, rfl, hr⟩, hb1⟩
  obtain ⟨rfl, rfl, rfl⟩ := resF_ok (a := -3) (b := 2) hr ex1 (by decide +kernel) (by decide +kernel)
  clear hr
  have hw1 : Below w.heap.size w w1 := stepH (by (repeat (first | exact Below.refl _ _ | assumption | refine Below.drew ?_ | refine below_drewN ?_ _ | refine Below.setCell ?_ (by first | omega | (simp; done) | (simp; omega)) _ | refine Below.alloc ?_ (by first | omega | (simp; done) | (simp; omega)) _))) hb1
  have z1 := hw1.size
  clear hb1
  go_wp2_with fail
  refine (make_any (-9223372036854775808) (-9223372036854775808) E _ (by omega) (by omega) (by omega) (by omega) (HE.out.below (by (repeat (first | exact Below.refl _ _ | assumption | refine Below.drew ?_ | refine below_drewN ?_ _ | refine Below.setCell ?_ (by first | omega | (simp; done) | (simp; omega)) _ | refine Below.alloc ?_ (by first | omega | (simp; done) | (simp; omega)) _))))).mono ?_
  rintro e w2 ⟨⟨n, d, err, rfl, hr⟩, hb2⟩
  obtain ⟨rfl, rfl, rfl⟩ := resF_ok (a := 1) (b := 1) hr ex2 (by decide +kernel) (by decide +kernel)
  clear hr
  have hw2 : Below w.heap.size w w2 := stepH (by (repeat (first | exact Below.refl _ _ | assumption | refine Below.drew ?_ | refine below_drewN ?_ _ | refine Below.setCell ?_ (by first | omega | (simp; done) | (simp; omega)) _ | refine Below.alloc ?_ (by first | omega | (simp; done) | (simp; omega)) _))) hb2
  have z2 := hw2.size
  have A1 := keepH hb2 (blk_new (n := w1.heap.size) rfl)
  clear hb2 hw1 z1
  go_wp2_with fail
  refine (make_any 1 0 E _ (by omega) (by omega) (by omega) (by omega) (HE.out.below (by (repeat (first | exact Below.refl _ _ | assumption | refine Below.drew ?_ | refine below_drewN ?_ _ | refine Below.setCell ?_ (by first | omega | (simp; done) | (simp; omega)) _ | refine Below.alloc ?_ (by first | omega | (simp; done) | (simp; omega)) _))))).mono ?_
  rintro e w3 ⟨⟨n, d, err, rfl, hr⟩, hb3⟩
  obtain ⟨rfl, rfl, rfl⟩ := resF_err hr ex3
  clear hr
  have hw3 : Below w.heap.size w w3 := stepH (by (repeat (first | exact Below.refl _ _ | assumption | refine Below.drew ?_ | refine below_drewN ?_ _ | refine Below.setCell ?_ (by first | omega | (simp; done) | (simp; omega)) _ | refine Below.alloc ?_ (by first | omega | (simp; done) | (simp; omega)) _))) hb3
  have z3 := hw3.size
  have A1 := keepH hb3 (blk_old A1.out)
  have A2 := keepH hb3 (blk_new (n := w2.heap.size) rfl)
  clear hb3 hw2 z2
  go_wp2_with fail
  refine (fr_any (1) (2) _).mono ?_
  rintro e w4 ⟨rfl, hb4⟩
  have hw4 : Below w.heap.size w w4 := stepH (by (repeat (first | exact Below.refl _ _ | assumption | refine Below.drew ?_ | refine below_drewN ?_ _ | refine Below.setCell ?_ (by first | omega | (simp; done) | (simp; omega)) _ | refine Below.alloc ?_ (by first | omega | (simp; done) | (simp; omega)) _))) hb4
  have z4 := hw4.size
  have A1 := keepH hb4 (blk_old A1.out)
  have A2 := keepH hb4 (blk_old A2.out)
  have A3 := keepH hb4 (blk_new (n := w3.heap.size) rfl)
  clear hb4 hw3 z3
  go_wp2_with fail
  refine (fr_any (1) (3) _).mono ?_
  rintro e w5 ⟨rfl, hb5⟩
  have hw5 : Below w.heap.size w w5 := stepH (by (repeat (first | exact Below.refl _ _ | assumption | refine Below.drew ?_ | refine below_drewN ?_ _ | refine Below.setCell ?_ (by first | omega | (simp; done) | (simp; omega)) _ | refine Below.alloc ?_ (by first | omega | (simp; done) | (simp; omega)) _))) hb5
  have z5 := hw5.size
  have A1 := keepH hb5 A1.out
  have A2 := keepH hb5 A2.out
  have A3 := keepH hb5 A3.out
  clear hb5 hw4 z4
  go_wp2_with fail
  refine (add_any 1 2 1 3 E _ (by omega) (by omega) (by omega) (by omega) (by omega) (by omega) (by omega) (by omega) (HE.out.below (by (repeat (first | exact Below.refl _ _ | assumption | refine Below.drew ?_ | refine below_drewN ?_ _ | refine Below.setCell ?_ (by first | omega | (simp; done) | (simp; omega)) _ | refine Below.alloc ?_ (by first | omega | (simp; done) | (simp; omega)) _))))).mono ?_
  rintro e w6 ⟨⟨n, d, err, rfl, hr⟩, hb6⟩
  obtain ⟨rfl, rfl, rfl⟩ := resF_ok (a := 5) (b := 6) hr ex4 (by decide +kernel) (by decide +kernel)
  clear hr
  have hw6 : Below w.heap.size w w6 := stepH (by (repeat (first | exact Below.refl _ _ | assumption | refine Below.drew ?_ | refine below_drewN ?_ _ | refine Below.setCell ?_ (by first | omega | (simp; done) | (simp; omega)) _ | refine Below.alloc ?_ (by first | omega | (simp; done) | (simp; omega)) _))) hb6
  have z6 := hw6.size
  have A1 := keepH hb6 A1.out
  have A2 := keepH hb6 A2.out
  have A3 := keepH hb6 A3.out
  clear hb6 hw5 z5
  go_wp2_with fail
  refine (fr_any (1) (1000000) _).mono ?_
  rintro e w7 ⟨rfl, hb7⟩
  have hw7 : Below w.heap.size w w7 := stepH (by (repeat (first | exact Below.refl _ _ | assumption | refine Below.drew ?_ | refine below_drewN ?_ _ | refine Below.setCell ?_ (by first | omega | (simp; done) | (simp; omega)) _ | refine Below.alloc ?_ (by first | omega | (simp; done) | (simp; omega)) _))) hb7
  have z7 := hw7.size
  have A1 := keepH hb7 (blk_old A1.out)
  have A2 := keepH hb7 (blk_old A2.out)
  have A3 := keepH hb7 (blk_old A3.out)
  have A4 := keepH hb7 (blk_new (n := w6.heap.size) rfl)
  clear hb7 hw6 z6
  go_wp2_with fail
  refine (fr_any (1) (999999) _).mono ?_
  rintro e w8 ⟨rfl, hb8⟩
  have hw8 : Below w.heap.size w w8 := stepH (by (repeat (first | exact Below.refl _ _ | assumption | refine Below.drew ?_ | refine below_drewN ?_ _ | refine Below.setCell ?_ (by first | omega | (simp; done) | (simp; omega)) _ | refine Below.alloc ?_ (by first | omega | (simp; done) | (simp; omega)) _))) hb8
  have z8 := hw8.size
  have A1 := keepH hb8 A1.out
  have A2 := keepH hb8 A2.out
  have A3 := keepH hb8 A3.out
  have A4 := keepH hb8 A4.out
  clear hb8 hw7 z7
  go_wp2_with fail
  refine (add_any 1 1000000 1 999999 E _ (by omega) (by omega) (by omega) (by omega) (by omega) (by omega) (by omega) (by omega) (HE.out.below (by (repeat (first | exact Below.refl _ _ | assumption | refine Below.drew ?_ | refine below_drewN ?_ _ | refine Below.setCell ?_ (by first | omega | (simp; done) | (simp; omega)) _ | refine Below.alloc ?_ (by first | omega | (simp; done) | (simp; omega)) _))))).mono ?_
  rintro e w9 ⟨⟨n, d, err, rfl, hr⟩, hb9⟩
  obtain ⟨rfl, rfl, rfl⟩ := resF_err hr ex5
  clear hr
  have hw9 : Below w.heap.size w w9 := stepH (by (repeat (first | exact Below.refl _ _ | assumption | refine Below.drew ?_ | refine below_drewN ?_ _ | refine Below.setCell ?_ (by first | omega | (simp; done) | (simp; omega)) _ | refine Below.alloc ?_ (by first | omega | (simp; done) | (simp; omega)) _))) hb9
  have z9 := hw9.size
  have A1 := keepH hb9 A1.out
  have A2 := keepH hb9 A2.out
  have A3 := keepH hb9 A3.out
  have A4 := keepH hb9 A4.out
  clear hb9 hw8 z8
  go_wp2_with fail
  refine (fr_any (1) (2) _).mono ?_
  rintro e w10 ⟨rfl, hb10⟩
  have hw10 : Below w.heap.size w w10 := stepH (by (repeat (first | exact Below.refl _ _ | assumption | refine Below.drew ?_ | refine below_drewN ?_ _ | refine Below.setCell ?_ (by first | omega | (simp; done) | (simp; omega)) _ | refine Below.alloc ?_ (by first | omega | (simp; done) | (simp; omega)) _))) hb10
  have z10 := hw10.size
  have A1 := keepH hb10 (blk_old A1.out)
  have A2 := keepH hb10 (blk_old A2.out)
  have A3 := keepH hb10 (blk_old A3.out)
  have A4 := keepH hb10 (blk_old A4.out)
  have A5 := keepH hb10 (blk_new (n := w9.heap.size) rfl)
  clear hb10 hw9 z9
  go_wp2_with fail
  refine (fr_any (-3) (4) _).mono ?_
  rintro e w11 ⟨rfl, hb11⟩
  have hw11 : Below w.heap.size w w11 := stepH (by (repeat (first | exact Below.refl _ _ | assumption | refine Below.drew ?_ | refine below_drewN ?_ _ | refine Below.setCell ?_ (by first | omega | (simp; done) | (simp; omega)) _ | refine Below.alloc ?_ (by first | omega | (simp; done) | (simp; omega)) _))) hb11
  have z11 := hw11.size
  have A1 := keepH hb11 A1.out
  have A2 := keepH hb11 A2.out
  have A3 := keepH hb11 A3.out
  have A4 := keepH hb11 A4.out
  have A5 := keepH hb11 A5.out
  clear hb11 hw10 z10
  go_wp2_with fail
  refine (div_any 1 2 (-3) 4 E _ (by omega) (by omega) (by omega) (by omega) (by omega) (by omega) (by omega) (by omega) (HE.out.below (by (repeat (first | exact Below.refl _ _ | assumption | refine Below.drew ?_ | refine below_drewN ?_ _ | refine Below.setCell ?_ (by first | omega | (simp; done) | (simp; omega)) _ | refine Below.alloc ?_ (by first | omega | (simp; done) | (simp; omega)) _))))).mono ?_
  rintro e w12 ⟨⟨n, d, err, rfl, hr⟩, hb12⟩
  obtain ⟨rfl, rfl, rfl⟩ := resF_ok (a := -2) (b := 3) hr ex6 (by decide +kernel) (by decide +kernel)
  clear hr
  have hw12 : Below w.heap.size w w12 := stepH (by (repeat (first | exact Below.refl _ _ | assumption | refine Below.drew ?_ | refine below_drewN ?_ _ | refine Below.setCell ?_ (by first | omega | (simp; done) | (simp; omega)) _ | refine Below.alloc ?_ (by first | omega | (simp; done) | (simp; omega)) _))) hb12
  have z12 := hw12.size
  have A1 := keepH hb12 A1.out
  have A2 := keepH hb12 A2.out
  have A3 := keepH hb12 A3.out
  have A4 := keepH hb12 A4.out
  have A5 := keepH hb12 A5.out
  clear hb12 hw11 z11
  go_wp2_with fail
  have B1 : Hid ((w12.alloc (.cells #[.int .i64 (-2), .int .i64 3] 23)).heap[w1.heap.size]? = _) := blk_old A1.out
  have B2 : Hid ((w12.alloc (.cells #[.int .i64 (-2), .int .i64 3] 23)).heap[w2.heap.size]? = _) := blk_old A2.out
  have B4 : Hid ((w12.alloc (.cells #[.int .i64 (-2), .int .i64 3] 23)).heap[w6.heap.size]? = _) := blk_old A4.out
  have B6 : Hid ((w12.alloc (.cells #[.int .i64 (-2), .int .i64 3] 23)).heap[w12.heap.size]? = _) := blk_new rfl
  have hwa : Below w.heap.size w (w12.alloc (.cells #[.int .i64 (-2), .int .i64 3] 23)) := by (repeat (first | exact Below.refl _ _ | assumption | refine Below.drew ?_ | refine below_drewN ?_ _ | refine Below.setCell ?_ (by first | omega | (simp; done) | (simp; omega)) _ | refine Below.alloc ?_ (by first | omega | (simp; done) | (simp; omega)) _))
  clear A1 A2 A3 A4 A5 hw12
  generalize w12.alloc (.cells #[.int .i64 (-2), .int .i64 3] 23) = wa at *
  have he := fun w => eql_err (E 0) w
  have he' := fun w => eql_err (E 1) w
  have z := hwa.size
  have hS : wa.cell? ⟨w1.heap.size, 0, none⟩ = some (.int .i64 (-3)) ∧ wa.cell? ⟨w1.heap.size, 1, none⟩ = some (.int .i64 2) ∧ wa.cell? ⟨w2.heap.size, 0, none⟩ = some (.int .i64 1) ∧ wa.cell? ⟨w2.heap.size, 1, none⟩ = some (.int .i64 1) ∧ wa.cell? ⟨w6.heap.size, 0, none⟩ = some (.int .i64 5) ∧ wa.cell? ⟨w6.heap.size, 1, none⟩ = some (.int .i64 6) ∧ wa.cell? ⟨w12.heap.size, 0, none⟩ = some (.int .i64 (-2)) ∧ wa.cell? ⟨w12.heap.size, 1, none⟩ = some (.int .i64 3) ∧ wa.cell? ⟨0, 0, none⟩ = some (.iface 62 (.pointer (some (E 0)))) ∧ wa.cell? ⟨1, 0, none⟩ = some (.iface 62 (.pointer (some (E 1)))) :=
    ⟨cellH B1 0, cellH B1 1, cellH B2 0, cellH B2 1, cellH B4 0, cellH B4 1, cellH B6 0, cellH B6 1, (HE.out.below hwa).cell _ (by decide), (HE.out.below hwa).cell _ (by decide)⟩
  clear hS he he'
  have he := fun w => eql_err (E 0) w
  go_region_held3 (fun w' => w'.cell? ⟨w1.heap.size, 0, none⟩ = some (.int .i64 (-3)) ∧ w'.cell? ⟨w1.heap.size, 1, none⟩ = some (.int .i64 2) ∧ w'.cell? ⟨w2.heap.size, 0, none⟩ = some (.int .i64 1) ∧ w'.cell? ⟨w2.heap.size, 1, none⟩ = some (.int .i64 1) ∧ w'.cell? ⟨w6.heap.size, 0, none⟩ = some (.int .i64 5) ∧ w'.cell? ⟨w6.heap.size, 1, none⟩ = some (.int .i64 6) ∧ w'.cell? ⟨w12.heap.size, 0, none⟩ = some (.int .i64 (-2)) ∧ w'.cell? ⟨w12.heap.size, 1, none⟩ = some (.int .i64 3) ∧ w'.cell? ⟨0, 0, none⟩ = some (.iface 62 (.pointer (some (E 0)))) ∧ w'.cell? ⟨1, 0, none⟩ = some (.iface 62 (.pointer (some (E 1))))) (first | exact ⟨cellH B1 0, cellH B1 1, cellH B2 0, cellH B2 1, cellH B4 0, cellH B4 1, cellH B6 0, cellH B6 1, (HE.out.below hwa).cell _ (by decide), (HE.out.below hwa).cell _ (by decide)⟩ | go_keep)
    (first | (go_at_call 28; refine (fr_any _ _ _).mono ?_; rintro e w' ⟨rfl, hb⟩; have hwa : Below w.heap.size w w' := stepH (by (repeat (first | exact Below.refl _ _ | assumption | refine Below.drew ?_ | refine below_drewN ?_ _ | refine Below.setCell ?_ (by first | omega | (simp; done) | (simp; omega)) _ | refine Below.alloc ?_ (by first | omega | (simp; done) | (simp; omega)) _))) hb; have B1 := keepH hb B1.out; have B2 := keepH hb B2.out; have B4 := keepH hb B4.out; have B6 := keepH hb B6.out) | (go_at_call 11; refine (first_same _ _ _).mono ?_; rintro e w' ⟨rfl, hb⟩; have hwa : Below w.heap.size w w' := stepH (by (repeat (first | exact Below.refl _ _ | assumption | refine Below.drew ?_ | refine below_drewN ?_ _ | refine Below.setCell ?_ (by first | omega | (simp; done) | (simp; omega)) _ | refine Below.alloc ?_ (by first | omega | (simp; done) | (simp; omega)) _))) hb; have B1 := keepH hb B1.out; have B2 := keepH hb B2.out; have B4 := keepH hb B4.out; have B6 := keepH hb B6.out))
  clear he
  go_wp2_with fail
  have he := fun w => eql_err (E 1) w
  go_region_held3 (fun w' => w'.cell? ⟨w1.heap.size, 0, none⟩ = some (.int .i64 (-3)) ∧ w'.cell? ⟨w1.heap.size, 1, none⟩ = some (.int .i64 2) ∧ w'.cell? ⟨w2.heap.size, 0, none⟩ = some (.int .i64 1) ∧ w'.cell? ⟨w2.heap.size, 1, none⟩ = some (.int .i64 1) ∧ w'.cell? ⟨w6.heap.size, 0, none⟩ = some (.int .i64 5) ∧ w'.cell? ⟨w6.heap.size, 1, none⟩ = some (.int .i64 6) ∧ w'.cell? ⟨w12.heap.size, 0, none⟩ = some (.int .i64 (-2)) ∧ w'.cell? ⟨w12.heap.size, 1, none⟩ = some (.int .i64 3) ∧ w'.cell? ⟨0, 0, none⟩ = some (.iface 62 (.pointer (some (E 0)))) ∧ w'.cell? ⟨1, 0, none⟩ = some (.iface 62 (.pointer (some (E 1))))) (first | exact ⟨cellH B1 0, cellH B1 1, cellH B2 0, cellH B2 1, cellH B4 0, cellH B4 1, cellH B6 0, cellH B6 1, (HE.out.below hwa).cell _ (by decide), (HE.out.below hwa).cell _ (by decide)⟩ | go_keep)
    (first | (go_at_call 28; refine (fr_any _ _ _).mono ?_; rintro e w' ⟨rfl, hb⟩; have hwa : Below w.heap.size w w' := stepH (by (repeat (first | exact Below.refl _ _ | assumption | refine Below.drew ?_ | refine below_drewN ?_ _ | refine Below.setCell ?_ (by first | omega | (simp; done) | (simp; omega)) _ | refine Below.alloc ?_ (by first | omega | (simp; done) | (simp; omega)) _))) hb; have B1 := keepH hb B1.out; have B2 := keepH hb B2.out; have B4 := keepH hb B4.out; have B6 := keepH hb B6.out) | (go_at_call 11; refine (first_same _ _ _).mono ?_; rintro e w' ⟨rfl, hb⟩; have hwa : Below w.heap.size w w' := stepH (by (repeat (first | exact Below.refl _ _ | assumption | refine Below.drew ?_ | refine below_drewN ?_ _ | refine Below.setCell ?_ (by first | omega | (simp; done) | (simp; omega)) _ | refine Below.alloc ?_ (by first | omega | (simp; done) | (simp; omega)) _))) hb; have B1 := keepH hb B1.out; have B2 := keepH hb B2.out; have B4 := keepH hb B4.out; have B6 := keepH hb B6.out))
  clear he
  go_wp2_with fail
  clear B1 B2 B4 B6
  refine (fr_any _ _ _).mono ?_
  rintro e v0 ⟨rfl, hb⟩
  have hwa : Below w.heap.size w v0 := stepH (by (repeat (first | exact Below.refl _ _ | assumption | refine Below.drew ?_ | refine below_drewN ?_ _ | refine Below.setCell ?_ (by first | omega | (simp; done) | (simp; omega)) _ | refine Below.alloc ?_ (by first | omega | (simp; done) | (simp; omega)) _))) hb
  go_wp2_with fail
  refine (floor_any (-3) 2 _ (by omega) (by omega) (by omega) (by omega)).mono ?_
  rintro e v1 ⟨rfl, hb⟩
  have hwa : Below w.heap.size w v1 := stepH (by (repeat (first | exact Below.refl _ _ | assumption | refine Below.drew ?_ | refine below_drewN ?_ _ | refine Below.setCell ?_ (by first | omega | (simp; done) | (simp; omega)) _ | refine Below.alloc ?_ (by first | omega | (simp; done) | (simp; omega)) _))) hb
  go_wp2_with fail
  refine (fr_any _ _ _).mono ?_
  rintro e v2 ⟨rfl, hb⟩
  have hwa : Below w.heap.size w v2 := stepH (by (repeat (first | exact Below.refl _ _ | assumption | refine Below.drew ?_ | refine below_drewN ?_ _ | refine Below.setCell ?_ (by first | omega | (simp; done) | (simp; omega)) _ | refine Below.alloc ?_ (by first | omega | (simp; done) | (simp; omega)) _))) hb
  go_wp2_with fail
  refine (fr_any _ _ _).mono ?_
  rintro e v3 ⟨rfl, hb⟩
  have hwa : Below w.heap.size w v3 := stepH (by (repeat (first | exact Below.refl _ _ | assumption | refine Below.drew ?_ | refine below_drewN ?_ _ | refine Below.setCell ?_ (by first | omega | (simp; done) | (simp; omega)) _ | refine Below.alloc ?_ (by first | omega | (simp; done) | (simp; omega)) _))) hb
  go_wp2_with fail
  refine (first_cmp _).mono ?_
  rintro e v4 ⟨rfl, hb⟩
  have hwa : Below w.heap.size w v4 := stepH (by (repeat (first | exact Below.refl _ _ | assumption | refine Below.drew ?_ | refine below_drewN ?_ _ | refine Below.setCell ?_ (by first | omega | (simp; done) | (simp; omega)) _ | refine Below.alloc ?_ (by first | omega | (simp; done) | (simp; omega)) _))) hb
  go_wp2_with fail
  refine (fr_any _ _ _).mono ?_
  rintro e v5 ⟨rfl, hb⟩
  have hwa : Below w.heap.size w v5 := stepH (by (repeat (first | exact Below.refl _ _ | assumption | refine Below.drew ?_ | refine below_drewN ?_ _ | refine Below.setCell ?_ (by first | omega | (simp; done) | (simp; omega)) _ | refine Below.alloc ?_ (by first | omega | (simp; done) | (simp; omega)) _))) hb
  go_wp2_with fail
  refine (first_valid _).mono ?_
  rintro e v6 ⟨rfl, hb⟩
  have hwa : Below w.heap.size w v6 := stepH (by (repeat (first | exact Below.refl _ _ | assumption | refine Below.drew ?_ | refine below_drewN ?_ _ | refine Below.setCell ?_ (by first | omega | (simp; done) | (simp; omega)) _ | refine Below.alloc ?_ (by first | omega | (simp; done) | (simp; omega)) _))) hb
  go_wp2_with fail
  go_ret
  exact ⟨rfl, hwa⟩
end Go.Proofs.YtbmkbhclkaopaaaDoor
