/- The walks of Multiple and of the law's unit. -/
import Derived.Test.YtcbglkkmblmbnaaDoorOrder2
import Derived.Test.YtcbglkkmblmbnaaDoorSums
namespace Go.Proofs.YtcbglkkmblmbnaaDoor
open Go.RowKit

set_option maxRecDepth 10000 in
set_option maxHeartbeats 2000000 in
theorem unit_any (mode un ud : Int) (w : World) :
    Calls Tryd.prog 18 #[.agg #[.int .i64 mode, .int .i64 un, .int .i64 ud]] w fun e w' => e = .returned (.tuple #[.agg #[.int .i64 un, .int .i64 ud], .bool (mode != 0)]) ∧ Below w.heap.size w w' := by
  cases h : (mode != 0)
  all_goals
    go_enter Tryd.func18, Tryd.ntmps18
    go_wp2_with fail
    go_region
    all_goals go_wp2_with fail
    refine bodyPost_ret (v := .tuple #[.agg #[.int .i64 un, .int .i64 ud], .bool (mode != 0)]) (by simp [results, Tryd.results18, go_sem, h]) rfl ⟨by rw [h], by (repeat' (first | with_reducible exact Below.refl _ _ | with_reducible assumption | with_reducible refine Below.drew ?_ | with_reducible refine below_drewN ?_ _ | with_reducible refine Below.setCell ?_ ?_ _ | with_reducible refine Below.alloc ?_ ?_ _ | omega | (simp; done) | (simp; omega)))⟩

/-- a multiple is told, where both are fractions and the unit is above 0 -/
theorem exact_units {a u : Rat} {k : Int} (hu : 0 < u.num) (h : a = (k : Rat) * u) : (a.num * (u.den : Int)) % ((a.den : Int) * u.num) = 0 := by
  have hD := nd_pos (q := a) hu
  have hT := quot_mul a u hu
  have h0 : u ≠ 0 := fun e => by have := num_pos hu; rw [e] at this; exact absurd this (by decide)
  have hq : a / u = (k : Rat) := by
    have h1 := Rat.div_mul_cancel (a := a) h0
    have h2 : (a / u - (k : Rat)) * u = 0 := by grind
    rcases Rat.mul_eq_zero.1 h2 with h | h
    · grind
    · exact absurd h h0
  rw [hq, ← Rat.intCast_mul] at hT
  have := Rat.intCast_inj.1 hT
  rw [← this, Int.mul_emod_left]
theorem kQ_int {mode : Int} {k : Int} : kQ mode (k : Rat) k = k := by unfold kQ; rw [if_pos rfl]
theorem roundQ_again {mode : Int} {u : Rat} (hu : 0 < u.num) (k : Int) : roundQ mode u ((k : Rat) * u) = (k : Rat) * u := by
  have h0 : u ≠ 0 := fun e => by have := num_pos hu; rw [e] at this; exact absurd this (by decide)
  have hq : (k : Rat) * u / u = (k : Rat) := by
    have h1 := Rat.div_mul_cancel (a := (k : Rat) * u) h0
    have h2 : ((k : Rat) * u / u - (k : Rat)) * u = 0 := by grind
    rcases Rat.mul_eq_zero.1 h2 with h | h
    · grind
    · exact absurd h h0
  unfold roundQ
  rw [hq, Rat.floor_intCast, kQ_int]

set_option maxRecDepth 10000 in
set_option maxHeartbeats 2000000 in
theorem multiple_yes (a u : Rat) (k : Int) (w : World) (ha : Good a) (hu : Good u) (h0 : 0 < u.num) (h : a = (k : Rat) * u) :
    Calls Tryd.prog 19 #[.agg #[.int .i64 a.num, .int .i64 a.den], .agg #[.int .i64 u.num, .int .i64 u.den]] w fun e w' => e = .returned (.tuple #[.bool true, .nilIface]) ∧ Below w.heap.size w w' := by
  have V1 := fracValid_any a.num a.den
  have V2 := fracValid_any u.num u.den
  unfold pv at V1 V2
  rw [valid_num ha] at V1
  rw [valid_num hu] at V2
  have BA := bds ha
  have BU := bds hu
  obtain ⟨x1, x2, x3, x4⟩ := num_le ha
  obtain ⟨y1, y2, y3, y4⟩ := num_le hu
  obtain ⟨un, hun⟩ := Int.eq_ofNat_of_zero_le (show 0 ≤ u.num by omega)
  have HL := locate_told a.num a.den un u.den
  have hex := exact_units h0 h
  have HEX := Lib.hid hex
  have HV1 := Lib.hid V1
  have HV2 := Lib.hid V2
  have HLL := Lib.hid HL
  clear V1 V2 HL hex h
  generalize u.num = z at *
  subst hun
  have hfd : ∀ (x0 x1 x2 x3 x4 : Value) (w : World), (Instr.field 76 (.agg #[x0, x1, x2, x3, x4]) 4).run Tryd.prog w = .ok x4 w := fun _ _ _ _ _ _ => by kernel_rfl
  go_enter Tryd.func19, Tryd.ntmps19
  go_wp2_with fail
  refine (HV1.out _ (by omega) (by omega) (by omega) (by omega)).mono ?_
  rintro e w1 ⟨rfl, hb1⟩
  have hw1 : Below w.heap.size w w1 := stepH (by (repeat' (first | with_reducible exact Below.refl _ _ | with_reducible assumption | with_reducible refine Below.drew ?_ | with_reducible refine below_drewN ?_ _ | with_reducible refine Below.setCell ?_ ?_ _ | with_reducible refine Below.alloc ?_ ?_ _ | omega | (simp; done) | (simp; omega)))) hb1
  have X := keepH hb1 (g := w.heap.size) (blk_old (blk_new rfl))
  have U := keepH hb1 (g := w.heap.size + 1) (blk_new (by simp))
  have z1 := hw1.size
  clear hb1
  have cX := cellH X
  obtain ⟨lX, lX1, lX2⟩ := ltH X
  have cU := cellH U
  obtain ⟨lU, lU1, lU2⟩ := ltH U
  go_wp2_with fail
  refine (HV2.out _ (by omega) (by omega) (by omega) (by omega)).mono ?_
  rintro e w2 ⟨rfl, hb2⟩
  have hw2 : Below w.heap.size w w2 := stepH (by (repeat' (first | with_reducible exact Below.refl _ _ | with_reducible assumption | with_reducible refine Below.drew ?_ | with_reducible refine below_drewN ?_ _ | with_reducible refine Below.setCell ?_ ?_ _ | with_reducible refine Below.alloc ?_ ?_ _ | omega | (simp; done) | (simp; omega)))) hb2
  replace X := keepH hb2 X.out
  replace U := keepH hb2 U.out
  have z2 := hw2.size
  clear hb2 hw1 z1
  clear cX lX lX1 lX2 cU lU lU1 lU2
  have cX := cellH X
  obtain ⟨lX, lX1, lX2⟩ := ltH X
  have cU := cellH U
  obtain ⟨lU, lU1, lU2⟩ := ltH U
  go_wp2_with fail
  refine (HLL.out _ (by omega) (by omega) (by omega) (by omega) (by omega) (by omega) (by omega) (by omega)).mono ?_
  rintro e w3 ⟨⟨U1, P1, D1, ex, rfl, hl, _, _, _, _, _⟩, hb3⟩
  have hw3 : Below w.heap.size w w3 := stepH (by (repeat' (first | with_reducible exact Below.refl _ _ | with_reducible assumption | with_reducible refine Below.drew ?_ | with_reducible refine below_drewN ?_ _ | with_reducible refine Below.setCell ?_ ?_ _ | with_reducible refine Below.alloc ?_ ?_ _ | omega | (simp; done) | (simp; omega)))) hb3
  obtain ⟨_, _, _, hx⟩ := hl.out
  rw [HEX.out] at hx
  obtain rfl : ex = true := by rw [hx]; rfl
  clear hx hl
  replace X := keepH hb3 X.out
  replace U := keepH hb3 U.out
  have z3 := hw3.size
  clear hb3 hw2 z2
  clear cX lX lX1 lX2 cU lU lU1 lU2
  have cX := cellH X
  obtain ⟨lX, lX1, lX2⟩ := ltH X
  have cU := cellH U
  obtain ⟨lU, lU1, lU2⟩ := ltH U
  go_wp2_with fail
  go_ret2
  exact ⟨rfl, hw3⟩

end Go.Proofs.YtcbglkkmblmbnaaDoor
