/- The walk of the chapter's examples (tithelaw16.first): it answers true. -/
import Derived.Test.YtcbglkkmblmbnaaDoorIndexV
namespace Go.Proofs.YtcbglkkmblmbnaaDoor
open Go.RowKit

set_option maxRecDepth 100000 in
set_option maxHeartbeats 8000000 in
theorem first16_any (E : Nat → Addr) (w : World) (hE : Env LI E w) :
    Calls Tryd.prog 26 #[] w fun e w' => e = .returned (.bool true) ∧ Below w.heap.size w w' := by
  have HE := Lib.hid hE
  clear hE
  go_enter Tryd.func26, Tryd.ntmps26
  go_wp2_with fail
  refine (fr16_any 128 125 _).mono ?_
  rintro e w1 ⟨rfl, hb1⟩
  have hw1 : Below w.heap.size w w1 := stepH (by (repeat' (first | with_reducible exact Below.refl _ _ | with_reducible assumption | with_reducible refine Below.drew ?_ | with_reducible refine below_drewN ?_ _ | with_reducible refine Below.setCell ?_ ?_ _ | with_reducible refine Below.alloc ?_ ?_ _ | omega | (simp; done) | (simp; omega)))) hb1
  have z1 := hw1.size
  clear hb1
  go_wp2_with fail
  refine (grow_any 4000 128 125 50 5 E _ ⟨by omega, by omega⟩ ⟨by omega, by omega⟩ ⟨by omega, by omega⟩ ⟨by omega, by omega⟩ ⟨by omega, by omega⟩ (HE.out.below (by (repeat' (first | with_reducible exact Below.refl _ _ | with_reducible assumption | with_reducible refine Below.drew ?_ | with_reducible refine below_drewN ?_ _ | with_reducible refine Below.setCell ?_ ?_ _ | with_reducible refine Below.alloc ?_ ?_ _ | omega | (simp; done) | (simp; omega)))))).mono ?_
  rintro e w2 ⟨⟨n, err, rfl, hr⟩, hb2⟩
  have hw2 : Below w.heap.size w w2 := stepH (by (repeat' (first | with_reducible exact Below.refl _ _ | with_reducible assumption | with_reducible refine Below.drew ?_ | with_reducible refine below_drewN ?_ _ | with_reducible refine Below.setCell ?_ ?_ _ | with_reducible refine Below.alloc ?_ ?_ _ | omega | (simp; done) | (simp; omega)))) hb2
  obtain ⟨rfl, rfl⟩ := resN_ok hr v1
  clear hr
  have z2 := hw2.size
  clear hb2 hw1 z1
  go_wp2_with fail
  refine (fr16_any 1061 1024 _).mono ?_
  rintro e w3 ⟨rfl, hb3⟩
  have hw3 : Below w.heap.size w w3 := stepH (by (repeat' (first | with_reducible exact Below.refl _ _ | with_reducible assumption | with_reducible refine Below.drew ?_ | with_reducible refine below_drewN ?_ _ | with_reducible refine Below.setCell ?_ ?_ _ | with_reducible refine Below.alloc ?_ ?_ _ | omega | (simp; done) | (simp; omega)))) hb3
  have z3 := hw3.size
  clear hb3 hw2 z2
  go_wp2_with fail
  refine (grow_any 60000 1061 1024 1000 6 E _ ⟨by omega, by omega⟩ ⟨by omega, by omega⟩ ⟨by omega, by omega⟩ ⟨by omega, by omega⟩ ⟨by omega, by omega⟩ (HE.out.below (by (repeat' (first | with_reducible exact Below.refl _ _ | with_reducible assumption | with_reducible refine Below.drew ?_ | with_reducible refine below_drewN ?_ _ | with_reducible refine Below.setCell ?_ ?_ _ | with_reducible refine Below.alloc ?_ ?_ _ | omega | (simp; done) | (simp; omega)))))).mono ?_
  rintro e w4 ⟨⟨n, err, rfl, hr⟩, hb4⟩
  have hw4 : Below w.heap.size w w4 := stepH (by (repeat' (first | with_reducible exact Below.refl _ _ | with_reducible assumption | with_reducible refine Below.drew ?_ | with_reducible refine below_drewN ?_ _ | with_reducible refine Below.setCell ?_ ?_ _ | with_reducible refine Below.alloc ?_ ?_ _ | omega | (simp; done) | (simp; omega)))) hb4
  obtain ⟨rfl, rfl⟩ := resN_ok hr v2
  clear hr
  have z4 := hw4.size
  clear hb4 hw3 z3
  go_wp2_with fail
  refine (fr16_any 1 2 _).mono ?_
  rintro e w5 ⟨rfl, hb5⟩
  have hw5 : Below w.heap.size w w5 := stepH (by (repeat' (first | with_reducible exact Below.refl _ _ | with_reducible assumption | with_reducible refine Below.drew ?_ | with_reducible refine below_drewN ?_ _ | with_reducible refine Below.setCell ?_ ?_ _ | with_reducible refine Below.alloc ?_ ?_ _ | omega | (simp; done) | (simp; omega)))) hb5
  have z5 := hw5.size
  clear hb5 hw4 z4
  go_wp2_with fail
  refine (grow_any 1 1 2 0 2 E _ ⟨by omega, by omega⟩ ⟨by omega, by omega⟩ ⟨by omega, by omega⟩ ⟨by omega, by omega⟩ ⟨by omega, by omega⟩ (HE.out.below (by (repeat' (first | with_reducible exact Below.refl _ _ | with_reducible assumption | with_reducible refine Below.drew ?_ | with_reducible refine below_drewN ?_ _ | with_reducible refine Below.setCell ?_ ?_ _ | with_reducible refine Below.alloc ?_ ?_ _ | omega | (simp; done) | (simp; omega)))))).mono ?_
  rintro e w6 ⟨⟨n, err, rfl, hr⟩, hb6⟩
  have hw6 : Below w.heap.size w w6 := stepH (by (repeat' (first | with_reducible exact Below.refl _ _ | with_reducible assumption | with_reducible refine Below.drew ?_ | with_reducible refine below_drewN ?_ _ | with_reducible refine Below.setCell ?_ ?_ _ | with_reducible refine Below.alloc ?_ ?_ _ | omega | (simp; done) | (simp; omega)))) hb6
  obtain ⟨rfl, rfl⟩ := resN_err hr v3
  clear hr
  have z6 := hw6.size
  clear hb6 hw5 z5
  go_wp2_with fail
  refine (part_any 1050 900 1050 (-1) 4 E _ ⟨by omega, by omega⟩ ⟨by omega, by omega⟩ ⟨by omega, by omega⟩ ⟨by omega, by omega⟩ ⟨by omega, by omega⟩ (HE.out.below (by (repeat' (first | with_reducible exact Below.refl _ _ | with_reducible assumption | with_reducible refine Below.drew ?_ | with_reducible refine below_drewN ?_ _ | with_reducible refine Below.setCell ?_ ?_ _ | with_reducible refine Below.alloc ?_ ?_ _ | omega | (simp; done) | (simp; omega)))))).mono ?_
  rintro e w7 ⟨⟨n, err, rfl, hr⟩, hb7⟩
  have hw7 : Below w.heap.size w w7 := stepH (by (repeat' (first | with_reducible exact Below.refl _ _ | with_reducible assumption | with_reducible refine Below.drew ?_ | with_reducible refine below_drewN ?_ _ | with_reducible refine Below.setCell ?_ ?_ _ | with_reducible refine Below.alloc ?_ ?_ _ | omega | (simp; done) | (simp; omega)))) hb7
  obtain ⟨rfl, rfl⟩ := resN_ok hr v4
  clear hr
  have z7 := hw7.size
  clear hb7 hw6 z6
  go_wp2_with fail
  have hw8 : Below w.heap.size w (w7.alloc (.cells #[.int .i64 1000, .int .i64 1024, .int .i64 1061] 3)) := by (repeat' (first | with_reducible exact Below.refl _ _ | with_reducible assumption | with_reducible refine Below.drew ?_ | with_reducible refine below_drewN ?_ _ | with_reducible refine Below.setCell ?_ ?_ _ | with_reducible refine Below.alloc ?_ ?_ _ | omega | (simp; done) | (simp; omega)))
  have L3 : Hid ((w7.alloc (.cells #[.int .i64 1000, .int .i64 1024, .int .i64 1061] 3)).heap[w7.heap.size]? = some (.cells #[.int .i64 1000, .int .i64 1024, .int .i64 1061] 3 (0, 0))) := (blk_new rfl)
  generalize (w7.alloc (.cells #[.int .i64 1000, .int .i64 1024, .int .i64 1061] 3)) = w8 at *
  have z8 := hw8.size
  have cL3 := cellH L3
  obtain ⟨lL3, lL31, lL32⟩ := ltH L3
  clear cL3 lL3 lL31 lL32
  refine (through_any 10000 [1000, 1024, 1061] (some ⟨w7.heap.size, 0, none⟩) 3 100 1 E _ ⟨by omega, by omega⟩ (by decide) (row3 _ 1000 1024 1061 _ _ L3) (fun x hx => by simp only [List.mem_cons, List.not_mem_nil, or_false] at hx; unfold InI; omega) ⟨by omega, by omega⟩ ⟨by omega, by omega⟩ (HE.out.below (by (repeat' (first | with_reducible exact Below.refl _ _ | with_reducible assumption | with_reducible refine Below.drew ?_ | with_reducible refine below_drewN ?_ _ | with_reducible refine Below.setCell ?_ ?_ _ | with_reducible refine Below.alloc ?_ ?_ _ | omega | (simp; done) | (simp; omega)))))).mono ?_
  rintro e w9 ⟨hret, hb9⟩
  have hw9 : Below w.heap.size w w9 := stepH (by (repeat' (first | with_reducible exact Below.refl _ _ | with_reducible assumption | with_reducible refine Below.drew ?_ | with_reducible refine below_drewN ?_ _ | with_reducible refine Below.setCell ?_ ?_ _ | with_reducible refine Below.alloc ?_ ?_ _ | omega | (simp; done) | (simp; omega)))) hb9
  rw [v5] at hret
  obtain ⟨vd, rfl, od⟩ := hret
  obtain ⟨A2, c2, hv, _, _, hr2⟩ := Own.rows (enc := encI) (size := 1) (fun _ _ => rfl) od
  subst hv
  have HR := Lib.hid hr2
  clear hr2 od
  replace L3 := keepH hb9 L3.out
  have z9 := hw9.size
  clear hb9 hw8 z8
  clear L3
  have hD : Below w9.heap.size w9 w9 := Below.refl _ _
  go_wp2_with fail
  replace hD : Below w9.heap.size w9 ((w9.alloc (.cells #[.int .i64 10000, .int .i64 40000] 3)).alloc (.cells #[.int .i64 1000, .int .i64 1500, .int .i64 2800] 3)) := by (repeat' (first | with_reducible exact Below.refl _ _ | with_reducible assumption | with_reducible refine Below.drew ?_ | with_reducible refine below_drewN ?_ _ | with_reducible refine Below.setCell ?_ ?_ _ | with_reducible refine Below.alloc ?_ ?_ _ | omega | (simp; done) | (simp; omega)))
  have hw10 : Below w.heap.size w ((w9.alloc (.cells #[.int .i64 10000, .int .i64 40000] 3)).alloc (.cells #[.int .i64 1000, .int .i64 1500, .int .i64 2800] 3)) := by (repeat' (first | with_reducible exact Below.refl _ _ | with_reducible assumption | with_reducible refine Below.drew ?_ | with_reducible refine below_drewN ?_ _ | with_reducible refine Below.setCell ?_ ?_ _ | with_reducible refine Below.alloc ?_ ?_ _ | omega | (simp; done) | (simp; omega)))
  have T2 : Hid (((w9.alloc (.cells #[.int .i64 10000, .int .i64 40000] 3)).alloc (.cells #[.int .i64 1000, .int .i64 1500, .int .i64 2800] 3)).heap[w9.heap.size]? = some (.cells #[.int .i64 10000, .int .i64 40000] 3 (0, 0))) := (blk_old (blk_new rfl))
  have R3 : Hid (((w9.alloc (.cells #[.int .i64 10000, .int .i64 40000] 3)).alloc (.cells #[.int .i64 1000, .int .i64 1500, .int .i64 2800] 3)).heap[w9.heap.size + 1]? = some (.cells #[.int .i64 1000, .int .i64 1500, .int .i64 2800] 3 (0, 0))) := (blk_new (by simp))
  generalize ((w9.alloc (.cells #[.int .i64 10000, .int .i64 40000] 3)).alloc (.cells #[.int .i64 1000, .int .i64 1500, .int .i64 2800] 3)) = w10 at *
  have z10 := hw10.size
  have cT2 := cellH T2
  obtain ⟨lT2, lT21, lT22⟩ := ltH T2
  have cR3 := cellH R3
  obtain ⟨lR3, lR31, lR32⟩ := ltH R3
  clear cT2 lT2 lT21 lT22 cR3 lR3 lR31 lR32
  refine (scale_any [10000, 40000] [1000, 1500, 2800] 10000 (some ⟨w9.heap.size, 0, none⟩) (some ⟨w9.heap.size + 1, 0, none⟩) 2 3 E _ (by decide) (by decide) (row2 _ 10000 40000 _ _ T2) (row3 _ 1000 1500 2800 _ _ R3) (fun x hx => by simp only [List.mem_cons, List.not_mem_nil, or_false] at hx; unfold InI; omega) (fun x hx => by simp only [List.mem_cons, List.not_mem_nil, or_false] at hx; unfold InI; omega) (by omega) (by omega) (HE.out.below (by (repeat' (first | with_reducible exact Below.refl _ _ | with_reducible assumption | with_reducible refine Below.drew ?_ | with_reducible refine below_drewN ?_ _ | with_reducible refine Below.setCell ?_ ?_ _ | with_reducible refine Below.alloc ?_ ?_ _ | omega | (simp; done) | (simp; omega)))))).mono ?_
  rintro e w11 ⟨hret, hb11⟩
  have hw11 : Below w.heap.size w w11 := stepH (by (repeat' (first | with_reducible exact Below.refl _ _ | with_reducible assumption | with_reducible refine Below.drew ?_ | with_reducible refine below_drewN ?_ _ | with_reducible refine Below.setCell ?_ ?_ _ | with_reducible refine Below.alloc ?_ ?_ _ | omega | (simp; done) | (simp; omega)))) hb11
  rw [v6] at hret
  obtain ⟨vs, rfl, os, _⟩ := hret
  obtain ⟨A3, c3, hv, _, _, hr3⟩ := Own.rows (enc := encB) (size := 4) (fun _ _ => rfl) os
  subst hv
  rw [show s3.length = 3 from rfl]
  have HS := Lib.hid hr3
  clear hr3 os
  replace hD : Below w9.heap.size w9 w11 := stepH (by (repeat' (first | with_reducible exact Below.refl _ _ | with_reducible assumption | with_reducible refine Below.drew ?_ | with_reducible refine below_drewN ?_ _ | with_reducible refine Below.setCell ?_ ?_ _ | with_reducible refine Below.alloc ?_ ?_ _ | omega | (simp; done) | (simp; omega)))) hb11
  replace T2 := keepH hb11 T2.out
  replace R3 := keepH hb11 R3.out
  have z11 := hw11.size
  clear hb11 hw10 z10
  clear T2 R3
  have hS : Below w11.heap.size w11 w11 := Below.refl _ _
  go_wp2_with fail
  refine (steps_down _).mono ?_
  rintro e w12 ⟨⟨gs, rfl, G⟩, hb12⟩
  have hw12 : Below w.heap.size w w12 := stepH (by (repeat' (first | with_reducible exact Below.refl _ _ | with_reducible assumption | with_reducible refine Below.drew ?_ | with_reducible refine below_drewN ?_ _ | with_reducible refine Below.setCell ?_ ?_ _ | with_reducible refine Below.alloc ?_ ?_ _ | omega | (simp; done) | (simp; omega)))) hb12
  replace hD : Below w9.heap.size w9 w12 := stepH (by (repeat' (first | with_reducible exact Below.refl _ _ | with_reducible assumption | with_reducible refine Below.drew ?_ | with_reducible refine below_drewN ?_ _ | with_reducible refine Below.setCell ?_ ?_ _ | with_reducible refine Below.alloc ?_ ?_ _ | omega | (simp; done) | (simp; omega)))) hb12
  replace hS : Below w11.heap.size w11 w12 := stepH (by (repeat' (first | with_reducible exact Below.refl _ _ | with_reducible assumption | with_reducible refine Below.drew ?_ | with_reducible refine below_drewN ?_ _ | with_reducible refine Below.setCell ?_ ?_ _ | with_reducible refine Below.alloc ?_ ?_ _ | omega | (simp; done) | (simp; omega)))) hb12
  have z12 := hw12.size
  clear hb12 hw11 z11
  have cG := cellH G
  obtain ⟨lG, lG1, lG2⟩ := ltH G
  have fe := func_eql
  have fn := func_neq
  go_wp2_with fail
  refine (steps_no _).mono ?_
  rintro e w13 ⟨rfl, hb13⟩
  have hw13 : Below w.heap.size w w13 := stepH (by (repeat' (first | with_reducible exact Below.refl _ _ | with_reducible assumption | with_reducible refine Below.drew ?_ | with_reducible refine below_drewN ?_ _ | with_reducible refine Below.setCell ?_ ?_ _ | with_reducible refine Below.alloc ?_ ?_ _ | omega | (simp; done) | (simp; omega)))) hb13
  replace hD : Below w9.heap.size w9 w13 := stepH (by (repeat' (first | with_reducible exact Below.refl _ _ | with_reducible assumption | with_reducible refine Below.drew ?_ | with_reducible refine below_drewN ?_ _ | with_reducible refine Below.setCell ?_ ?_ _ | with_reducible refine Below.alloc ?_ ?_ _ | omega | (simp; done) | (simp; omega)))) hb13
  replace hS : Below w11.heap.size w11 w13 := stepH (by (repeat' (first | with_reducible exact Below.refl _ _ | with_reducible assumption | with_reducible refine Below.drew ?_ | with_reducible refine below_drewN ?_ _ | with_reducible refine Below.setCell ?_ ?_ _ | with_reducible refine Below.alloc ?_ ?_ _ | omega | (simp; done) | (simp; omega)))) hb13
  replace G := keepH hb13 G.out
  have z13 := hw13.size
  clear hb13 hw12 z12
  clear cG lG lG1 lG2
  have cG := cellH G
  obtain ⟨lG, lG1, lG2⟩ := ltH G
  go_wp2_with fail
  refine (fr16_any 1 2 _).mono ?_
  rintro e w14 ⟨rfl, hb14⟩
  have hw14 : Below w.heap.size w w14 := stepH (by (repeat' (first | with_reducible exact Below.refl _ _ | with_reducible assumption | with_reducible refine Below.drew ?_ | with_reducible refine below_drewN ?_ _ | with_reducible refine Below.setCell ?_ ?_ _ | with_reducible refine Below.alloc ?_ ?_ _ | omega | (simp; done) | (simp; omega)))) hb14
  replace hD : Below w9.heap.size w9 w14 := stepH (by (repeat' (first | with_reducible exact Below.refl _ _ | with_reducible assumption | with_reducible refine Below.drew ?_ | with_reducible refine below_drewN ?_ _ | with_reducible refine Below.setCell ?_ ?_ _ | with_reducible refine Below.alloc ?_ ?_ _ | omega | (simp; done) | (simp; omega)))) hb14
  replace hS : Below w11.heap.size w11 w14 := stepH (by (repeat' (first | with_reducible exact Below.refl _ _ | with_reducible assumption | with_reducible refine Below.drew ?_ | with_reducible refine below_drewN ?_ _ | with_reducible refine Below.setCell ?_ ?_ _ | with_reducible refine Below.alloc ?_ ?_ _ | omega | (simp; done) | (simp; omega)))) hb14
  replace G := keepH hb14 G.out
  have z14 := hw14.size
  clear hb14 hw13 z13
  clear cG lG lG1 lG2
  have cG := cellH G
  obtain ⟨lG, lG1, lG2⟩ := ltH G
  go_wp2_with fail
  refine (step16_any 7 1 2 1 1 gs E _ G ⟨by omega, by omega⟩ ⟨by omega, by omega⟩ ⟨by omega, by omega⟩ ⟨by omega, by omega⟩ ⟨by omega, by omega⟩ (HE.out.below (by (repeat' (first | with_reducible exact Below.refl _ _ | with_reducible assumption | with_reducible refine Below.drew ?_ | with_reducible refine below_drewN ?_ _ | with_reducible refine Below.setCell ?_ ?_ _ | with_reducible refine Below.alloc ?_ ?_ _ | omega | (simp; done) | (simp; omega)))))).mono ?_
  rintro e w15 ⟨⟨n, err, rfl, hr⟩, hb15⟩
  have hw15 : Below w.heap.size w w15 := stepH (by (repeat' (first | with_reducible exact Below.refl _ _ | with_reducible assumption | with_reducible refine Below.drew ?_ | with_reducible refine below_drewN ?_ _ | with_reducible refine Below.setCell ?_ ?_ _ | with_reducible refine Below.alloc ?_ ?_ _ | omega | (simp; done) | (simp; omega)))) hb15
  obtain ⟨rfl, rfl⟩ := resN_ok hr v7
  clear hr
  replace hD : Below w9.heap.size w9 w15 := stepH (by (repeat' (first | with_reducible exact Below.refl _ _ | with_reducible assumption | with_reducible refine Below.drew ?_ | with_reducible refine below_drewN ?_ _ | with_reducible refine Below.setCell ?_ ?_ _ | with_reducible refine Below.alloc ?_ ?_ _ | omega | (simp; done) | (simp; omega)))) hb15
  replace hS : Below w11.heap.size w11 w15 := stepH (by (repeat' (first | with_reducible exact Below.refl _ _ | with_reducible assumption | with_reducible refine Below.drew ?_ | with_reducible refine below_drewN ?_ _ | with_reducible refine Below.setCell ?_ ?_ _ | with_reducible refine Below.alloc ?_ ?_ _ | omega | (simp; done) | (simp; omega)))) hb15
  replace G := keepH hb15 G.out
  have z15 := hw15.size
  clear hb15 hw14 z14
  clear cG lG lG1 lG2
  have cG := cellH G
  obtain ⟨lG, lG1, lG2⟩ := ltH G
  have zD := hD.size
  have zS := hS.size
  have e1 := fun w => eql_err (E 4) w
  have g1 := (HE.out.below hw15).cell 4 (by decide)
  go_wp2_with fail
  refine (sameInts_yes [10200, 10500] 2 _ _ _ _ _ rfl (by omega) ((HR.out.below (by (repeat' (first | with_reducible exact Below.refl _ _ | with_reducible assumption | with_reducible refine Below.drew ?_ | with_reducible refine below_drewN ?_ _ | with_reducible refine Below.setCell ?_ ?_ _ | with_reducible refine Below.alloc ?_ ?_ _ | omega | (simp; done) | (simp; omega)))) (Nat.le_refl _)).more (by have := hD.size; simp; omega)) (row2 _ 10200 10500 _ _ (blk_new rfl))).mono ?_
  rintro e w16 ⟨rfl, hb16⟩
  have hw16 : Below w.heap.size w w16 := stepH (by (repeat' (first | with_reducible exact Below.refl _ _ | with_reducible assumption | with_reducible refine Below.drew ?_ | with_reducible refine below_drewN ?_ _ | with_reducible refine Below.setCell ?_ ?_ _ | with_reducible refine Below.alloc ?_ ?_ _ | omega | (simp; done) | (simp; omega)))) hb16
  replace hD : Below w9.heap.size w9 w16 := stepH (by (repeat' (first | with_reducible exact Below.refl _ _ | with_reducible assumption | with_reducible refine Below.drew ?_ | with_reducible refine below_drewN ?_ _ | with_reducible refine Below.setCell ?_ ?_ _ | with_reducible refine Below.alloc ?_ ?_ _ | omega | (simp; done) | (simp; omega)))) hb16
  replace hS : Below w11.heap.size w11 w16 := stepH (by (repeat' (first | with_reducible exact Below.refl _ _ | with_reducible assumption | with_reducible refine Below.drew ?_ | with_reducible refine below_drewN ?_ _ | with_reducible refine Below.setCell ?_ ?_ _ | with_reducible refine Below.alloc ?_ ?_ _ | omega | (simp; done) | (simp; omega)))) hb16
  replace G := keepH hb16 (blk_old G.out)
  have Q2 := keepH hb16 (g := w15.heap.size) (blk_new rfl)
  have z16 := hw16.size
  clear hb16 hw15 z15
  clear cG lG lG1 lG2
  have cG := cellH G
  obtain ⟨lG, lG1, lG2⟩ := ltH G
  have cQ2 := cellH Q2
  obtain ⟨lQ2, lQ21, lQ22⟩ := ltH Q2
  clear e1 fe fn
  go_wp2_with fail
  clear cG lG lG1 lG2 cQ2 lQ2 lQ21 lQ22
  clear G Q2
  obtain ⟨b, off, rfl, hbB, hcell⟩ := HS.out 1 _ rfl
  have HC2 := Lib.hid (hcell 2 _ s3_cells.1)
  have HC3 := Lib.hid (hcell 3 _ s3_cells.2)
  clear hcell
  have k2 : w16.cell? ⟨b, off + 4 + 2, none⟩ = some (.int .i64 3) := (hS.cell (p := ⟨b, _, none⟩) hbB).trans HC2.out
  have k3 : w16.cell? ⟨b, off + 4 + 2 + 1, none⟩ = some (.int .i64 20) := (hS.cell (p := ⟨b, _, none⟩) hbB).trans HC3.out
  go_region_held3 (fun w' => w'.cell? ⟨b, off + 4 + 2, none⟩ = some (.int .i64 3) ∧ w'.cell? ⟨b, off + 4 + 2 + 1, none⟩ = some (.int .i64 20)) (first | with_reducible exact ⟨k2, k3⟩ | go_keep)
    (first | (go_at_call 28; refine (fr16_any _ _ _).mono ?_; rintro e w17 ⟨rfl, hb17⟩; have hw17 : Below w.heap.size w w17 := stepH (by (repeat' (first | with_reducible exact Below.refl _ _ | with_reducible assumption | with_reducible refine Below.drew ?_ | with_reducible refine below_drewN ?_ _ | with_reducible refine Below.setCell ?_ ?_ _ | with_reducible refine Below.alloc ?_ ?_ _ | omega | (simp; done) | (simp; omega)))) hb17; replace hS : Below w11.heap.size w11 w17 := stepH (by (repeat' (first | with_reducible exact Below.refl _ _ | with_reducible assumption | with_reducible refine Below.drew ?_ | with_reducible refine below_drewN ?_ _ | with_reducible refine Below.setCell ?_ ?_ _ | with_reducible refine Below.alloc ?_ ?_ _ | omega | (simp; done) | (simp; omega)))) hb17; have k2 : w17.cell? ⟨b, off + 4 + 2, none⟩ = some (.int .i64 3) := (hS.cell (p := ⟨b, _, none⟩) hbB).trans HC2.out; have k3 : w17.cell? ⟨b, off + 4 + 2 + 1, none⟩ = some (.int .i64 20) := (hS.cell (p := ⟨b, _, none⟩) hbB).trans HC3.out) | (go_at_call 17; refine (first_same _ _ _).mono ?_; rintro e w17 ⟨rfl, hb17⟩; have hw17 : Below w.heap.size w w17 := stepH (by (repeat' (first | with_reducible exact Below.refl _ _ | with_reducible assumption | with_reducible refine Below.drew ?_ | with_reducible refine below_drewN ?_ _ | with_reducible refine Below.setCell ?_ ?_ _ | with_reducible refine Below.alloc ?_ ?_ _ | omega | (simp; done) | (simp; omega)))) hb17; replace hS : Below w11.heap.size w11 w17 := stepH (by (repeat' (first | with_reducible exact Below.refl _ _ | with_reducible assumption | with_reducible refine Below.drew ?_ | with_reducible refine below_drewN ?_ _ | with_reducible refine Below.setCell ?_ ?_ _ | with_reducible refine Below.alloc ?_ ?_ _ | omega | (simp; done) | (simp; omega)))) hb17; have k2 : w17.cell? ⟨b, off + 4 + 2, none⟩ = some (.int .i64 3) := (hS.cell (p := ⟨b, _, none⟩) hbB).trans HC2.out; have k3 : w17.cell? ⟨b, off + 4 + 2 + 1, none⟩ = some (.int .i64 20) := (hS.cell (p := ⟨b, _, none⟩) hbB).trans HC3.out))
  all_goals go_wp2_with fail
  all_goals go_ret
  all_goals exact ⟨rfl, by (repeat' (first | with_reducible exact Below.refl _ _ | with_reducible assumption | with_reducible refine Below.drew ?_ | with_reducible refine below_drewN ?_ _ | with_reducible refine Below.setCell ?_ ?_ _ | with_reducible refine Below.alloc ?_ ?_ _ | omega | (simp; done) | (simp; omega)))⟩

end Go.Proofs.YtcbglkkmblmbnaaDoor
