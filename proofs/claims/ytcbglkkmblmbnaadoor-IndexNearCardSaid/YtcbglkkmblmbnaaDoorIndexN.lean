/- The walk of IndexNear. -/
import Derived.Test.YtcbglkkmblmbnaaDoorIndexG
import Derived.Test.YtcbglkkmblmbnaaDoorIndexLaw
namespace Go.Proofs.YtcbglkkmblmbnaaDoor
open Go.RowKit

theorem near_prods {n N D U mode : Int} (h : NearI n N D U mode) (n1 : -1000000000000 ≤ n) (n2 : n ≤ 1000000000000) (d1 : 1 ≤ D) (d2 : D ≤ 1000000) (u1 : 1 ≤ U) (u2 : U ≤ 1000000) :
    -1000000000000000000 ≤ n * D ∧ n * D ≤ 1000000000000000000 ∧ 1 ≤ U * D ∧ U * D ≤ 1000000000000 ∧ n.tmod U = 0 ∧ (mode = 6 → (2 * (n * D - N) = U * D ∨ 2 * (N - n * D) = U * D) → (n.tdiv U).tmod 2 = 0) := by
  obtain ⟨⟨k, rfl, hk⟩, _⟩ := h
  have h1 := Nat.mul_le_mul (show (k * U).natAbs ≤ 1000000000000 by omega) (show D.natAbs ≤ 1000000 by omega)
  rw [← Int.natAbs_mul] at h1
  have h2 := Nat.mul_le_mul (show U.natAbs ≤ 1000000 by omega) (show D.natAbs ≤ 1000000 by omega)
  rw [← Int.natAbs_mul] at h2
  have h3 : 0 < U * D := Int.mul_pos (by omega) (by omega)
  refine ⟨by omega, by omega, by omega, by omega, Int.mul_tmod_left .., fun hm hh => ?_⟩
  rw [Int.mul_tdiv_cancel _ (by omega)]
  have := hk hm hh
  exact Int.tmod_eq_zero_of_dvd (Int.dvd_of_emod_eq_zero this)

theorem max_neg_le {x : Int} (h : 0 ≤ x) : max x (-x) = x := by omega

theorem max_neg_ge {x : Int} (h : x ≤ 0) : max x (-x) = -x := by omega

theorem mul_known {E : Nat → Addr} {x : Rat} {n d : Int} {err : Value} (h : ResF E (goodR x) n d err) (hx : Good x) : Good x ∧ n = x.num ∧ d = x.den ∧ err = .nilIface := by
  rcases resF_two h with ⟨h1, h2, h3, h4⟩ | ⟨h1, _⟩
  · exact ⟨h1, h2, h3, h4⟩
  · exact absurd hx h1

set_option maxRecDepth 100000 in
set_option maxHeartbeats 16000000 in
theorem indexNear_walk (a fn fd unit mode : Int) (E : Nat → Addr) (w : World) (Ba : -9223372036854775808 ≤ a ∧ a ≤ 9223372036854775807) (Bfn : -9223372036854775808 ≤ fn ∧ fn ≤ 9223372036854775807) (Bfd : -9223372036854775808 ≤ fd ∧ fd ≤ 9223372036854775807) (Bunit : -9223372036854775808 ≤ unit ∧ unit ≤ 9223372036854775807) (Bmode : -9223372036854775808 ≤ mode ∧ mode ≤ 9223372036854775807) (hE : Env LI E w) :
    Calls Tryd.prog 7 #[.int .i64 a, .agg #[.int .i64 fn, .int .i64 fd], .int .i64 unit, .int .i64 mode] w fun e w' => e = .returned (.bool true) ∧ Below w.heap.size w w' := by
  obtain ⟨Ba1, Ba2⟩ := Ba
  obtain ⟨Bfn1, Bfn2⟩ := Bfn
  obtain ⟨Bfd1, Bfd2⟩ := Bfd
  obtain ⟨Bunit1, Bunit2⟩ := Bunit
  obtain ⟨Bmode1, Bmode2⟩ := Bmode
  have HE := Lib.hid hE
  clear hE
  cases hg : growI a fn fd unit mode
  · rename_i g
    have HG := Lib.hid hg
    clear hg
    go_enter Tryd.func7, Tryd.ntmps7
    go_wp2_with fail
    refine (first16_any E _ (HE.out.below (by (repeat' (first | with_reducible exact Below.refl _ _ | with_reducible assumption | with_reducible refine Below.drew ?_ | with_reducible refine below_drewN ?_ _ | with_reducible refine Below.setCell ?_ ?_ _ | with_reducible refine Below.alloc ?_ ?_ _ | omega | (simp; done) | (simp; omega)))))).mono ?_
    rintro e w1 ⟨rfl, hb1⟩
    have hw1 : Below w.heap.size w w1 := stepH (by (repeat' (first | with_reducible exact Below.refl _ _ | with_reducible assumption | with_reducible refine Below.drew ?_ | with_reducible refine below_drewN ?_ _ | with_reducible refine Below.setCell ?_ ?_ _ | with_reducible refine Below.alloc ?_ ?_ _ | omega | (simp; done) | (simp; omega)))) hb1
    have F := keepH hb1 (g := w.heap.size) (blk_new rfl)
    have z1 := hw1.size
    clear hb1
    have cF := cellH F
    obtain ⟨lF, lF1, lF2⟩ := ltH F
    go_wp2_with fail
    refine (grow_any a fn fd unit mode E _ ⟨Ba1, Ba2⟩ ⟨by omega, by omega⟩ ⟨by omega, by omega⟩ ⟨Bunit1, Bunit2⟩ ⟨Bmode1, Bmode2⟩ (HE.out.below (by (repeat' (first | with_reducible exact Below.refl _ _ | with_reducible assumption | with_reducible refine Below.drew ?_ | with_reducible refine below_drewN ?_ _ | with_reducible refine Below.setCell ?_ ?_ _ | with_reducible refine Below.alloc ?_ ?_ _ | omega | (simp; done) | (simp; omega)))))).mono ?_
    rintro e w2 ⟨⟨n, err, rfl, hr⟩, hb2⟩
    have hw2 : Below w.heap.size w w2 := stepH (by (repeat' (first | with_reducible exact Below.refl _ _ | with_reducible assumption | with_reducible refine Below.drew ?_ | with_reducible refine below_drewN ?_ _ | with_reducible refine Below.setCell ?_ ?_ _ | with_reducible refine Below.alloc ?_ ?_ _ | omega | (simp; done) | (simp; omega)))) hb2
    rw [HG.out] at hr
    obtain ⟨rfl, rfl⟩ := hr
    replace F := keepH hb2 F.out
    have z2 := hw2.size
    clear hb2 hw1 z1
    clear cF lF lF1 lF2
    have cF := cellH F
    obtain ⟨lF, lF1, lF2⟩ := ltH F
    have hen := fun w => eql_nil (E g) w
    go_wp2_with fail
    go_ret
    exact ⟨rfl, by (repeat' (first | with_reducible exact Below.refl _ _ | with_reducible assumption | with_reducible refine Below.drew ?_ | with_reducible refine below_drewN ?_ _ | with_reducible refine Below.setCell ?_ ?_ _ | with_reducible refine Below.alloc ?_ ?_ _ | omega | (simp; done) | (simp; omega)))⟩
  · rename_i n
    obtain ⟨f, hf, rfl, rfl, m1, m2, u1, u2, a1, a2, gx, hn, gn⟩ := grow_ok hg
    have HG := Lib.hid hg
    have HF := Lib.hid hf
    have HX := Lib.hid gx
    have BF := bds hf
    have NF := num_le hf
    have HGA := Lib.hid (good_int a1 a2)
    obtain ⟨n1, n2, _⟩ := gn
    rw [Rat.num_intCast] at n1 n2
    clear hg hf
    by_cases hu : unit ≤ 1000000
    rotate_left
    · clear hn gx
      go_enter Tryd.func7, Tryd.ntmps7
      go_wp2_with fail
      refine (first16_any E _ (HE.out.below (by (repeat' (first | with_reducible exact Below.refl _ _ | with_reducible assumption | with_reducible refine Below.drew ?_ | with_reducible refine below_drewN ?_ _ | with_reducible refine Below.setCell ?_ ?_ _ | with_reducible refine Below.alloc ?_ ?_ _ | omega | (simp; done) | (simp; omega)))))).mono ?_
      rintro e w3 ⟨rfl, hb3⟩
      have hw3 : Below w.heap.size w w3 := stepH (by (repeat' (first | with_reducible exact Below.refl _ _ | with_reducible assumption | with_reducible refine Below.drew ?_ | with_reducible refine below_drewN ?_ _ | with_reducible refine Below.setCell ?_ ?_ _ | with_reducible refine Below.alloc ?_ ?_ _ | omega | (simp; done) | (simp; omega)))) hb3
      have F := keepH hb3 (g := w.heap.size) (blk_new rfl)
      have z3 := hw3.size
      clear hb3
      have cF := cellH F
      obtain ⟨lF, lF1, lF2⟩ := ltH F
      go_wp2_with fail
      refine (grow_any a f.num f.den unit mode E _ ⟨Ba1, Ba2⟩ ⟨by omega, by omega⟩ ⟨by omega, by omega⟩ ⟨Bunit1, Bunit2⟩ ⟨Bmode1, Bmode2⟩ (HE.out.below (by (repeat' (first | with_reducible exact Below.refl _ _ | with_reducible assumption | with_reducible refine Below.drew ?_ | with_reducible refine below_drewN ?_ _ | with_reducible refine Below.setCell ?_ ?_ _ | with_reducible refine Below.alloc ?_ ?_ _ | omega | (simp; done) | (simp; omega)))))).mono ?_
      rintro e w4 ⟨⟨n, err, rfl, hr⟩, hb4⟩
      have hw4 : Below w.heap.size w w4 := stepH (by (repeat' (first | with_reducible exact Below.refl _ _ | with_reducible assumption | with_reducible refine Below.drew ?_ | with_reducible refine below_drewN ?_ _ | with_reducible refine Below.setCell ?_ ?_ _ | with_reducible refine Below.alloc ?_ ?_ _ | omega | (simp; done) | (simp; omega)))) hb4
      rw [HG.out] at hr
      obtain ⟨rfl, rfl⟩ := hr
      replace F := keepH hb4 F.out
      have z4 := hw4.size
      clear hb4 hw3 z3
      clear cF lF lF1 lF2
      have cF := cellH F
      obtain ⟨lF, lF1, lF2⟩ := ltH F
      go_wp2_with fail
      go_ret
      exact ⟨rfl, by (repeat' (first | with_reducible exact Below.refl _ _ | with_reducible assumption | with_reducible refine Below.drew ?_ | with_reducible refine below_drewN ?_ _ | with_reducible refine Below.setCell ?_ ?_ _ | with_reducible refine Below.alloc ?_ ?_ _ | omega | (simp; done) | (simp; omega)))⟩
    have NX := num_le gx
    have hni := near_ints u1 m1 m2 hn
    generalize hxx : (a : Rat) * f = x at *
    have HXX := Lib.hid hxx
    clear hxx hn gx
    obtain ⟨x1, x2, x3, x4⟩ := NX
    obtain ⟨p1, p2, p3, p4, p5, p6⟩ := near_prods hni n1 n2 (by omega) (by omega) u1 hu
    obtain ⟨_, q1, q2, q3, q4, q5, q6, q7, q8⟩ := hni
    have ht : (n.tmod unit != 0) = false := by rw [p5]; rfl
    have ht2 : (n % unit != 0) = false := by rw [Int.emod_eq_zero_of_dvd (Int.dvd_of_tmod_eq_zero p5)]; rfl
    have HQ : Hid ((mode = 3 → n * (x.den : Int) - x.num ≤ 0) ∧ (mode = 4 → 0 ≤ n * (x.den : Int) - x.num) ∧ (mode = 1 → (0 ≤ x.num → n * (x.den : Int) - x.num ≤ 0 ∧ 0 ≤ n) ∧ (x.num < 0 → 0 ≤ n * (x.den : Int) - x.num ∧ n ≤ 0)) ∧ (mode = 2 → (0 ≤ x.num → 0 ≤ n * (x.den : Int) - x.num) ∧ (x.num < 0 → n * (x.den : Int) - x.num ≤ 0)) ∧ (5 ≤ mode → 2 * (n * (x.den : Int) - x.num) ≤ unit * (x.den : Int) ∧ 2 * (x.num - n * (x.den : Int)) ≤ unit * (x.den : Int)) ∧ (mode = 5 → (2 * (n * (x.den : Int) - x.num) = unit * (x.den : Int) ∨ 2 * (x.num - n * (x.den : Int)) = unit * (x.den : Int)) → (0 ≤ x.num → 0 < n * (x.den : Int) - x.num) ∧ (x.num < 0 → n * (x.den : Int) - x.num < 0)) ∧ (mode = 6 → (2 * (n * (x.den : Int) - x.num) = unit * (x.den : Int) ∨ 2 * (x.num - n * (x.den : Int)) = unit * (x.den : Int)) → (n.tdiv unit).tmod 2 = 0)) := ⟨q3, q4, q5, q6, q7, q8, p6⟩
    clear q3 q4 q5 q6 q7 q8 p5 p6
    go_enter Tryd.func7, Tryd.ntmps7
    go_wp2_with fail
    refine (first16_any E _ (HE.out.below (by (repeat' (first | with_reducible exact Below.refl _ _ | with_reducible assumption | with_reducible refine Below.drew ?_ | with_reducible refine below_drewN ?_ _ | with_reducible refine Below.setCell ?_ ?_ _ | with_reducible refine Below.alloc ?_ ?_ _ | omega | (simp; done) | (simp; omega)))))).mono ?_
    rintro e w5 ⟨rfl, hb5⟩
    have hw5 : Below w.heap.size w w5 := stepH (by (repeat' (first | with_reducible exact Below.refl _ _ | with_reducible assumption | with_reducible refine Below.drew ?_ | with_reducible refine below_drewN ?_ _ | with_reducible refine Below.setCell ?_ ?_ _ | with_reducible refine Below.alloc ?_ ?_ _ | omega | (simp; done) | (simp; omega)))) hb5
    have F := keepH hb5 (g := w.heap.size) (blk_new rfl)
    have z5 := hw5.size
    clear hb5
    have cF := cellH F
    obtain ⟨lF, lF1, lF2⟩ := ltH F
    go_wp2_with fail
    refine (grow_any a f.num f.den unit mode E _ ⟨Ba1, Ba2⟩ ⟨by omega, by omega⟩ ⟨by omega, by omega⟩ ⟨Bunit1, Bunit2⟩ ⟨Bmode1, Bmode2⟩ (HE.out.below (by (repeat' (first | with_reducible exact Below.refl _ _ | with_reducible assumption | with_reducible refine Below.drew ?_ | with_reducible refine below_drewN ?_ _ | with_reducible refine Below.setCell ?_ ?_ _ | with_reducible refine Below.alloc ?_ ?_ _ | omega | (simp; done) | (simp; omega)))))).mono ?_
    rintro e w6 ⟨⟨n, err, rfl, hr⟩, hb6⟩
    have hw6 : Below w.heap.size w w6 := stepH (by (repeat' (first | with_reducible exact Below.refl _ _ | with_reducible assumption | with_reducible refine Below.drew ?_ | with_reducible refine below_drewN ?_ _ | with_reducible refine Below.setCell ?_ ?_ _ | with_reducible refine Below.alloc ?_ ?_ _ | omega | (simp; done) | (simp; omega)))) hb6
    rw [HG.out] at hr
    obtain ⟨rfl, rfl⟩ := hr
    replace F := keepH hb6 F.out
    have z6 := hw6.size
    clear hb6 hw5 z5
    clear cF lF lF1 lF2
    have cF := cellH F
    obtain ⟨lF, lF1, lF2⟩ := ltH F
    go_upto_region 5 with fail
    go_cut [12, 13] (fun s12 s13 wx => ∃ g : Nat, s12 = .pointer (some ⟨g, 0, none⟩) ∧ s13 = .nilIface ∧ Below w.heap.size w wx ∧ Hid (wx.heap[w.heap.size]? = some (.cells #[.int .i64 f.num, .int .i64 f.den] 30 (0, 0))) ∧ Hid (wx.heap[g]? = some (.cells #[.int .i64 x.num, .int .i64 x.den] 30 (0, 0))))
    case first =>
      as_aux_lemma =>
        clear cF lF lF1 lF2
        have kF0 : w6.cell? ⟨w.heap.size, 0, none⟩ = some (.int .i64 f.num) := cellH F 0
        have kF1 : w6.cell? ⟨w.heap.size, 1, none⟩ = some (.int .i64 f.den) := cellH F 1
        have lF := lt_of_H F
        have nF : w.heap.size ≠ w6.heap.size := Nat.ne_of_lt lF
        go_region_held3 (fun w' => w'.cell? ⟨w.heap.size, 0, none⟩ = some (.int .i64 f.num) ∧ w'.cell? ⟨w.heap.size, 1, none⟩ = some (.int .i64 f.den)) (first | with_reducible exact ⟨kF0, kF1⟩ | with_reducible exact ⟨cell_set (cell_set kF0 (by first | assumption | (dsimp only; assumption) | (dsimp only; omega))) (by first | assumption | (dsimp only; assumption) | (dsimp only; omega)), cell_set (cell_set kF1 (by first | assumption | (dsimp only; assumption) | (dsimp only; omega))) (by first | assumption | (dsimp only; assumption) | (dsimp only; omega))⟩ | go_keep)
          (first | (go_at_call 28; refine (fr16_any _ _ _).mono ?_; rintro e w7 ⟨rfl, hb7⟩; have hw7 : Below w.heap.size w w7 := stepH (by (repeat' (first | with_reducible exact Below.refl _ _ | with_reducible assumption | with_reducible refine Below.drew ?_ | with_reducible refine below_drewN ?_ _ | with_reducible refine Below.setCell ?_ ?_ _ | with_reducible refine Below.alloc ?_ ?_ _ | omega | (simp; done) | (simp; omega)))) hb7; have zw7 := hw7.size; (try (have NB := keepH hb7 (by with_reducible first | exact blk_new rfl | exact drew_old (blk_new rfl) | exact NB.out | exact drew_old NB.out); have cNB := cellH NB; have fNB := frozH NB)); replace F := keepH hb7 (by first | with_reducible exact F.out | with_reducible exact blk_old F.out | with_reducible exact drew_old F.out | with_reducible exact drew_old (blk_old F.out)); have kF0 : w7.cell? ⟨w.heap.size, 0, none⟩ = some (.int .i64 f.num) := cellH F 0; have kF1 : w7.cell? ⟨w.heap.size, 1, none⟩ = some (.int .i64 f.den) := cellH F 1; have lF := lt_of_H F; have nF : w.heap.size ≠ w7.heap.size := Nat.ne_of_lt lF) | (go_at_call 25; refine (mul_int a f E _ HGA.out HF.out ((HE.out.below (by (repeat' (first | with_reducible exact Below.refl _ _ | with_reducible assumption | with_reducible refine Below.drew ?_ | with_reducible refine below_drewN ?_ _ | with_reducible refine Below.setCell ?_ ?_ _ | with_reducible refine Below.alloc ?_ ?_ _ | omega | (simp; done) | (simp; omega))))).sub (by decide))).mono ?_; rintro e w7 ⟨⟨n', d', err, rfl, hr⟩, hb7⟩; rw [HXX.out] at hr; obtain ⟨_, rfl, rfl, rfl⟩ : Good x ∧ n' = x.num ∧ d' = x.den ∧ err = .nilIface := mul_known hr HX.out; have hw7 : Below w.heap.size w w7 := stepH (by (repeat' (first | with_reducible exact Below.refl _ _ | with_reducible assumption | with_reducible refine Below.drew ?_ | with_reducible refine below_drewN ?_ _ | with_reducible refine Below.setCell ?_ ?_ _ | with_reducible refine Below.alloc ?_ ?_ _ | omega | (simp; done) | (simp; omega)))) hb7; have zw7 := hw7.size; (try (have NB := keepH hb7 (by with_reducible first | exact blk_new rfl | exact drew_old (blk_new rfl) | exact NB.out | exact drew_old NB.out); have cNB := cellH NB; have fNB := frozH NB)); replace F := keepH hb7 (by first | with_reducible exact F.out | with_reducible exact blk_old F.out | with_reducible exact drew_old F.out | with_reducible exact drew_old (blk_old F.out)); have kF0 : w7.cell? ⟨w.heap.size, 0, none⟩ = some (.int .i64 f.num) := cellH F 0; have kF1 : w7.cell? ⟨w.heap.size, 1, none⟩ = some (.int .i64 f.den) := cellH F 1; have lF := lt_of_H F; have nF : w.heap.size ≠ w7.heap.size := Nat.ne_of_lt lF))
        all_goals go_wp2_with fail
        all_goals go_meet
        all_goals exact ⟨_, rfl, rfl, (by (repeat' (first | with_reducible exact Below.refl _ _ | with_reducible assumption | with_reducible refine Below.drew ?_ | with_reducible refine below_drewN ?_ _ | with_reducible refine Below.setCell ?_ ?_ _ | with_reducible refine Below.alloc ?_ ?_ _ | omega | (simp; done) | (simp; omega)))), (by with_reducible first | exact F | exact setH2o F (by assumption) | exact Lib.hid (blk_old F.out)), (by first | with_reducible exact setH2 NB.out | exact blk_new rfl)⟩
    case rest =>
      as_aux_lemma =>
        clear F
        obtain ⟨gX, rfl, rfl, hw8, F, X⟩ := hcut
        obtain ⟨w8, rfl⟩ : ∃ x : World, x = wc := ⟨_, rfl⟩
        have z8 := hw8.size
        have cF := cellH F
        obtain ⟨lF, lF1, lF2⟩ := ltH F
        have cX := cellH X
        obtain ⟨lX, lX1, lX2⟩ := ltH X
        generalize x.num = N at *
        generalize (x.den : Int) = D at *
        clear HXX HX HG HF HGA
        have hx0 : n * D - N < 0 ∨ 0 ≤ n * D - N := by omega
        have hN : N < 0 ∨ 0 ≤ N := by omega
        obtain ⟨q3, q4, q5, q6, q7, q8, q9⟩ := HQ.out
        clear HQ
        have six : mode = 1 ∨ mode = 2 ∨ mode = 3 ∨ mode = 4 ∨ mode = 5 ∨ mode = 6 := by omega
        generalize hXX : n * D - N = X at *
        have hYY : N - n * D = -X := by omega
        rw [hYY] at *
        clear hYY
        rcases six with rfl | rfl | rfl | rfl | rfl | rfl
        · rcases hN with hN | hN
          · have h := (q5 rfl).2 hN
            obtain ⟨k1, k2⟩ := h
            clear q3 q4 q5 q6 q7 q8 q9
            rcases hx0 with hx0 | hx0
            · omega
            · have hmx := max_neg_le (x := X) hx0
              go_wp2_with fail
              all_goals go_ret
              all_goals exact ⟨rfl, by (repeat' (first | with_reducible exact Below.refl _ _ | with_reducible assumption | with_reducible refine Below.drew ?_ | with_reducible refine below_drewN ?_ _ | with_reducible refine Below.setCell ?_ ?_ _ | with_reducible refine Below.alloc ?_ ?_ _ | omega | (simp; done) | (simp; omega)))⟩
          · have h := (q5 rfl).1 hN
            obtain ⟨k1, k2⟩ := h
            clear q3 q4 q5 q6 q7 q8 q9
            rcases hx0 with hx0 | hx0
            · have hmx := max_neg_ge (x := X) (Int.le_of_lt hx0)
              go_wp2_with fail
              all_goals go_ret
              all_goals exact ⟨rfl, by (repeat' (first | with_reducible exact Below.refl _ _ | with_reducible assumption | with_reducible refine Below.drew ?_ | with_reducible refine below_drewN ?_ _ | with_reducible refine Below.setCell ?_ ?_ _ | with_reducible refine Below.alloc ?_ ?_ _ | omega | (simp; done) | (simp; omega)))⟩
            · have hmx := max_neg_le (x := X) hx0
              go_wp2_with fail
              all_goals go_ret
              all_goals exact ⟨rfl, by (repeat' (first | with_reducible exact Below.refl _ _ | with_reducible assumption | with_reducible refine Below.drew ?_ | with_reducible refine below_drewN ?_ _ | with_reducible refine Below.setCell ?_ ?_ _ | with_reducible refine Below.alloc ?_ ?_ _ | omega | (simp; done) | (simp; omega)))⟩
        · rcases hN with hN | hN
          · have h := (q6 rfl).2 hN
            clear q3 q4 q5 q6 q7 q8 q9
            rcases hx0 with hx0 | hx0
            · have hmx := max_neg_ge (x := X) (Int.le_of_lt hx0)
              go_wp2_with fail
              all_goals go_ret
              all_goals exact ⟨rfl, by (repeat' (first | with_reducible exact Below.refl _ _ | with_reducible assumption | with_reducible refine Below.drew ?_ | with_reducible refine below_drewN ?_ _ | with_reducible refine Below.setCell ?_ ?_ _ | with_reducible refine Below.alloc ?_ ?_ _ | omega | (simp; done) | (simp; omega)))⟩
            · have hmx := max_neg_le (x := X) hx0
              go_wp2_with fail
              all_goals go_ret
              all_goals exact ⟨rfl, by (repeat' (first | with_reducible exact Below.refl _ _ | with_reducible assumption | with_reducible refine Below.drew ?_ | with_reducible refine below_drewN ?_ _ | with_reducible refine Below.setCell ?_ ?_ _ | with_reducible refine Below.alloc ?_ ?_ _ | omega | (simp; done) | (simp; omega)))⟩
          · have h := (q6 rfl).1 hN
            clear q3 q4 q5 q6 q7 q8 q9
            rcases hx0 with hx0 | hx0
            · omega
            · have hmx := max_neg_le (x := X) hx0
              go_wp2_with fail
              all_goals go_ret
              all_goals exact ⟨rfl, by (repeat' (first | with_reducible exact Below.refl _ _ | with_reducible assumption | with_reducible refine Below.drew ?_ | with_reducible refine below_drewN ?_ _ | with_reducible refine Below.setCell ?_ ?_ _ | with_reducible refine Below.alloc ?_ ?_ _ | omega | (simp; done) | (simp; omega)))⟩
        · have h := q3 rfl
          clear q3 q4 q5 q6 q7 q8 q9
          rcases hx0 with hx0 | hx0
          · have hmx := max_neg_ge (x := X) (Int.le_of_lt hx0)
            go_wp2_with fail
            all_goals go_ret
            all_goals exact ⟨rfl, by (repeat' (first | with_reducible exact Below.refl _ _ | with_reducible assumption | with_reducible refine Below.drew ?_ | with_reducible refine below_drewN ?_ _ | with_reducible refine Below.setCell ?_ ?_ _ | with_reducible refine Below.alloc ?_ ?_ _ | omega | (simp; done) | (simp; omega)))⟩
          · have hmx := max_neg_le (x := X) hx0
            go_wp2_with fail
            all_goals go_ret
            all_goals exact ⟨rfl, by (repeat' (first | with_reducible exact Below.refl _ _ | with_reducible assumption | with_reducible refine Below.drew ?_ | with_reducible refine below_drewN ?_ _ | with_reducible refine Below.setCell ?_ ?_ _ | with_reducible refine Below.alloc ?_ ?_ _ | omega | (simp; done) | (simp; omega)))⟩
        · have h := q4 rfl
          clear q3 q4 q5 q6 q7 q8 q9
          rcases hx0 with hx0 | hx0
          · omega
          · have hmx := max_neg_le (x := X) hx0
            go_wp2_with fail
            all_goals go_ret
            all_goals exact ⟨rfl, by (repeat' (first | with_reducible exact Below.refl _ _ | with_reducible assumption | with_reducible refine Below.drew ?_ | with_reducible refine below_drewN ?_ _ | with_reducible refine Below.setCell ?_ ?_ _ | with_reducible refine Below.alloc ?_ ?_ _ | omega | (simp; done) | (simp; omega)))⟩
        · obtain ⟨k1, k2⟩ := q7 (by omega)
          rcases hx0 with hx0 | hx0
          · have hmx := max_neg_ge (x := X) (Int.le_of_lt hx0)
            rcases Int.lt_or_eq_of_le (show 2 * (-X) ≤ unit * D by omega) with hlt | heq
            · clear q3 q4 q5 q6 q7 q8 q9
              have hne : (2 * (-X) == unit * D) = false := by rw [beq_eq_false_iff_ne]; omega
              have hdl : decide (2 * (-X) < unit * D) = true := decide_eq_true hlt
              rcases hN with hN | hN
              · go_wp2_with fail
                all_goals go_ret
                all_goals exact ⟨rfl, by (repeat' (first | with_reducible exact Below.refl _ _ | with_reducible assumption | with_reducible refine Below.drew ?_ | with_reducible refine below_drewN ?_ _ | with_reducible refine Below.setCell ?_ ?_ _ | with_reducible refine Below.alloc ?_ ?_ _ | omega | (simp; done) | (simp; omega)))⟩
              · go_wp2_with fail
                all_goals go_ret
                all_goals exact ⟨rfl, by (repeat' (first | with_reducible exact Below.refl _ _ | with_reducible assumption | with_reducible refine Below.drew ?_ | with_reducible refine below_drewN ?_ _ | with_reducible refine Below.setCell ?_ ?_ _ | with_reducible refine Below.alloc ?_ ?_ _ | omega | (simp; done) | (simp; omega)))⟩
            · have h := q8 rfl (by omega)
              clear q3 q4 q5 q6 q7 q8 q9
              rcases hN with hN | hN
              · have h := h.2 hN
                have hnl : decide (2 * (-X) < unit * D) = false := decide_eq_false (by omega)
                have hle : decide (2 * (-X) ≤ unit * D) = true := decide_eq_true (by omega)
                clear heq
                go_wp2_with fail
                all_goals go_ret
                all_goals exact ⟨rfl, by (repeat' (first | with_reducible exact Below.refl _ _ | with_reducible assumption | with_reducible refine Below.drew ?_ | with_reducible refine below_drewN ?_ _ | with_reducible refine Below.setCell ?_ ?_ _ | with_reducible refine Below.alloc ?_ ?_ _ | omega | (simp; done) | (simp; omega)))⟩
              · have h := h.1 hN
                omega
          · have hmx := max_neg_le (x := X) hx0
            rcases Int.lt_or_eq_of_le (show 2 * (X) ≤ unit * D by omega) with hlt | heq
            · clear q3 q4 q5 q6 q7 q8 q9
              have hne : (2 * (X) == unit * D) = false := by rw [beq_eq_false_iff_ne]; omega
              have hdl : decide (2 * (X) < unit * D) = true := decide_eq_true hlt
              rcases hN with hN | hN
              · go_wp2_with fail
                all_goals go_ret
                all_goals exact ⟨rfl, by (repeat' (first | with_reducible exact Below.refl _ _ | with_reducible assumption | with_reducible refine Below.drew ?_ | with_reducible refine below_drewN ?_ _ | with_reducible refine Below.setCell ?_ ?_ _ | with_reducible refine Below.alloc ?_ ?_ _ | omega | (simp; done) | (simp; omega)))⟩
              · go_wp2_with fail
                all_goals go_ret
                all_goals exact ⟨rfl, by (repeat' (first | with_reducible exact Below.refl _ _ | with_reducible assumption | with_reducible refine Below.drew ?_ | with_reducible refine below_drewN ?_ _ | with_reducible refine Below.setCell ?_ ?_ _ | with_reducible refine Below.alloc ?_ ?_ _ | omega | (simp; done) | (simp; omega)))⟩
            · have h := q8 rfl (by omega)
              clear q3 q4 q5 q6 q7 q8 q9
              rcases hN with hN | hN
              · have h := h.2 hN
                omega
              · have h := h.1 hN
                have hnl : decide (2 * (X) < unit * D) = false := decide_eq_false (by omega)
                have hle : decide (2 * (X) ≤ unit * D) = true := decide_eq_true (by omega)
                clear heq
                go_wp2_with fail
                all_goals go_ret
                all_goals exact ⟨rfl, by (repeat' (first | with_reducible exact Below.refl _ _ | with_reducible assumption | with_reducible refine Below.drew ?_ | with_reducible refine below_drewN ?_ _ | with_reducible refine Below.setCell ?_ ?_ _ | with_reducible refine Below.alloc ?_ ?_ _ | omega | (simp; done) | (simp; omega)))⟩
        · obtain ⟨k1, k2⟩ := q7 (by omega)
          rcases hx0 with hx0 | hx0
          · have hmx := max_neg_ge (x := X) (Int.le_of_lt hx0)
            rcases Int.lt_or_eq_of_le (show 2 * (-X) ≤ unit * D by omega) with hlt | heq
            · clear q3 q4 q5 q6 q7 q8 q9
              have hne : (2 * (-X) == unit * D) = false := by rw [beq_eq_false_iff_ne]; omega
              have hdl : decide (2 * (-X) < unit * D) = true := decide_eq_true hlt
              go_wp2_with fail
              all_goals go_ret
              all_goals exact ⟨rfl, by (repeat' (first | with_reducible exact Below.refl _ _ | with_reducible assumption | with_reducible refine Below.drew ?_ | with_reducible refine below_drewN ?_ _ | with_reducible refine Below.setCell ?_ ?_ _ | with_reducible refine Below.alloc ?_ ?_ _ | omega | (simp; done) | (simp; omega)))⟩
            · have h := q9 rfl (by omega)
              clear q3 q4 q5 q6 q7 q8 q9
              have hb : (2 * (-X) == unit * D) = true := by rw [beq_iff_eq]; exact heq
              have hnl : decide (2 * (-X) < unit * D) = false := decide_eq_false (by omega)
              have hb2 : ((n.tdiv unit).tmod 2 == 0) = true := by rw [beq_iff_eq]; exact h
              clear heq h
              go_wp2_with fail
              all_goals go_ret
              all_goals exact ⟨rfl, by (repeat' (first | with_reducible exact Below.refl _ _ | with_reducible assumption | with_reducible refine Below.drew ?_ | with_reducible refine below_drewN ?_ _ | with_reducible refine Below.setCell ?_ ?_ _ | with_reducible refine Below.alloc ?_ ?_ _ | omega | (simp; done) | (simp; omega)))⟩
          · have hmx := max_neg_le (x := X) hx0
            rcases Int.lt_or_eq_of_le (show 2 * (X) ≤ unit * D by omega) with hlt | heq
            · clear q3 q4 q5 q6 q7 q8 q9
              have hne : (2 * (X) == unit * D) = false := by rw [beq_eq_false_iff_ne]; omega
              have hdl : decide (2 * (X) < unit * D) = true := decide_eq_true hlt
              go_wp2_with fail
              all_goals go_ret
              all_goals exact ⟨rfl, by (repeat' (first | with_reducible exact Below.refl _ _ | with_reducible assumption | with_reducible refine Below.drew ?_ | with_reducible refine below_drewN ?_ _ | with_reducible refine Below.setCell ?_ ?_ _ | with_reducible refine Below.alloc ?_ ?_ _ | omega | (simp; done) | (simp; omega)))⟩
            · have h := q9 rfl (by omega)
              clear q3 q4 q5 q6 q7 q8 q9
              have hb : (2 * (X) == unit * D) = true := by rw [beq_iff_eq]; exact heq
              have hnl : decide (2 * (X) < unit * D) = false := decide_eq_false (by omega)
              have hb2 : ((n.tdiv unit).tmod 2 == 0) = true := by rw [beq_iff_eq]; exact h
              clear heq h
              go_wp2_with fail
              all_goals go_ret
              all_goals exact ⟨rfl, by (repeat' (first | with_reducible exact Below.refl _ _ | with_reducible assumption | with_reducible refine Below.drew ?_ | with_reducible refine below_drewN ?_ _ | with_reducible refine Below.setCell ?_ ?_ _ | with_reducible refine Below.alloc ?_ ?_ _ | omega | (simp; done) | (simp; omega)))⟩

end Go.Proofs.YtcbglkkmblmbnaaDoor
