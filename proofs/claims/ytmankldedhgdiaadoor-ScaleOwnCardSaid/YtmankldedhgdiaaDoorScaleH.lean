/- SameFracs; the examples of chapter 15: walks. -/
import Derived.Test.YtmankldedhgdiaaDoorScaleE
import Derived.Test.YtmankldedhgdiaaDoorScaleG
namespace Go.Proofs.YtmankldedhgdiaaDoor
open Go.RowKit

theorem rowBlk {α : Type} {enc : α → List Value} {size : Nat} {w : World} {l : List α} {g : Nat} {cs : Array Value} {t : TypeId} (hs : ∀ x ∈ l, (enc x).length = size) (h : Hid (w.heap[g]? = some (.cells cs t (0, 0)))) (hc : cs = (l.flatMap enc).toArray) : RowAt enc size w w.heap.size (some ⟨g, 0, none⟩) l := by
  intro k x hx
  refine ⟨g, 0, rfl, lt_of_H h, fun j u hj => ?_⟩
  have hf := flat_at hs hx hj
  rw [Nat.zero_add, cellH h, hc, ← hf]
  simp

theorem eq_of_takes {α : Type} {l m : List α} (hn : l.length = m.length) (h : l.take l.length = m.take l.length) : l = m := by
  rw [List.take_length] at h
  rw [h, hn, List.take_length]

theorem take_ne {α : Type} [DecidableEq α] {l m : List α} {k : Nat} {x y : α} (hx : l[k]? = some x) (hy : m[k]? = some y) (hne : x ≠ y) : decide (l = m) = false := by
  refine decide_eq_false fun e => hne ?_
  rw [e, hy] at hx
  exact (Option.some.inj hx).symm

theorem pair_eq {n d a b : Int} : (n == a && d == b) = decide ((n, d) = (a, b)) := by
  rw [Bool.eq_iff_iff]
  simp

theorem sameB_is (n1 d1 n2 d2 : Int) (b : Bool) (w : World) (h : (n1 == n2 && d1 == d2) = b) : Calls Tryd.prog 23 #[.agg #[.int .i64 n1, .int .i64 d1], .agg #[.int .i64 n2, .int .i64 d2]] w fun e w' => e = .returned (.bool b) ∧ Below w.heap.size w w' := by
  subst h; exact same_any n1 d1 n2 d2 w

set_option maxRecDepth 10000 in
set_option maxHeartbeats 4000000 in
theorem sameFracs_any (l m : List (Int × Int)) (A B : Option Addr) (c d : Nat) (w : World) (hl : RowAt encF 2 w w.heap.size A l) (hm : RowAt encF 2 w w.heap.size B m) (h1 : l.length ≤ 1000000) :
    Calls Tryd.prog 18 #[.slice A l.length c, .slice B m.length d] w fun e w' => e = .returned (.bool (decide (l = m))) ∧ Below w.heap.size w w' := by
  have HL := Lib.hid hl
  have HM := Lib.hid hm
  clear hl hm
  by_cases hn : l.length = m.length
  · have HN := Lib.hid hn
    have hne : (((l.length : Int)) != (m.length : Int)) = false := by rw [hn]; simp
    clear hn
    go_enter Tryd.func18, Tryd.ntmps18
    go_wp2_with fail
    go_loopw [5] (fun i wr => ∃ k : Nat, k ≤ l.length ∧ i = .int .i64 k ∧ Hid (l.take k = m.take k) ∧ Below w.heap.size w wr) (fun i _ => l.length - (intOf i).toNat)
    case atStart => exact ⟨0, Nat.zero_le _, rfl, rfl, by (repeat' (first | with_reducible exact Below.refl _ _ | with_reducible assumption | with_reducible refine Below.drew ?_ | with_reducible refine below_drewN ?_ _ | with_reducible refine Below.setCell ?_ ?_ _ | with_reducible refine Below.alloc ?_ ?_ _ | omega | (simp; done) | (simp; omega)))⟩
    case round =>
      obtain ⟨k, hk, rfl, ht, hw0⟩ := hrel
      have z0 := hw0.size
      by_cases hlt : k < l.length
      · obtain ⟨⟨n1, d1⟩, hx⟩ : ∃ x, l[k]? = some x := ⟨l[k], List.getElem?_eq_getElem hlt⟩
        have hlt2 : k < m.length := by rw [← HN.out]; exact hlt
        obtain ⟨⟨n2, d2⟩, hy⟩ : ∃ x, m[k]? = some x := ⟨m[k], List.getElem?_eq_getElem hlt2⟩
        obtain ⟨g, off, rfl, hg, hc⟩ := (HL.out.below hw0 (Nat.le_refl _)) k _ hx
        have k0 : wr.cell? ⟨g, off + k * 2, none⟩ = some (.int .i64 n1) := hc 0 _ rfl
        have k1 : wr.cell? ⟨g, off + k * 2 + 1, none⟩ = some (.int .i64 d1) := hc 1 _ rfl
        clear hc
        obtain ⟨g2, off2, rfl, hg2, hc⟩ := (HM.out.below hw0 (Nat.le_refl _)) k _ hy
        have j0 : wr.cell? ⟨g2, off2 + k * 2, none⟩ = some (.int .i64 n2) := hc 0 _ rfl
        have j1 : wr.cell? ⟨g2, off2 + k * 2 + 1, none⟩ = some (.int .i64 d2) := hc 1 _ rfl
        clear hc
        have HX := Lib.hid hx
        have HY := Lib.hid hy
        clear hx hy
        obtain ⟨b, hb⟩ : ∃ b, (n1 == n2 && d1 == d2) = b := ⟨_, rfl⟩
        have HB := Lib.hid hb
        clear hb
        have i1 : (k : Int) < (l.length : Int) := by omega
        have i2 : (k : Int) < (m.length : Int) := by omega
        go_wp2_with fail
        go_region_held3 (fun w' => w'.cell? ⟨g, off + k * 2, none⟩ = some (.int .i64 n1) ∧ w'.cell? ⟨g, off + k * 2 + 1, none⟩ = some (.int .i64 d1) ∧ w'.cell? ⟨g2, off2 + k * 2, none⟩ = some (.int .i64 n2) ∧ w'.cell? ⟨g2, off2 + k * 2 + 1, none⟩ = some (.int .i64 d2)) (first | with_reducible exact ⟨k0, k1, j0, j1⟩ | go_keep)
          (first | (go_at_call 23; refine (sameB_is _ _ _ _ b _ HB.out).mono ?_; rintro e w9 ⟨rfl, hb9⟩; have hw9 : Below w.heap.size w w9 := stepH (by (repeat' (first | with_reducible exact Below.refl _ _ | with_reducible assumption | with_reducible refine Below.drew ?_ | with_reducible refine below_drewN ?_ _ | with_reducible refine Below.setCell ?_ ?_ _ | with_reducible refine Below.alloc ?_ ?_ _ | omega | (simp; done) | (simp; omega)))) hb9; have k0 := cellOf hb9 (by first | exact k0 | exact cell_drew k0); have k1 := cellOf hb9 (by first | exact k1 | exact cell_drew k1); have j0 := cellOf hb9 (by first | exact j0 | exact cell_drew j0); have j1 := cellOf hb9 (by first | exact j1 | exact cell_drew j1)))
        cases b
        · have HF : Hid (decide (l = m) = false) := by
            refine Lib.hid (take_ne HX.out HY.out fun e => ?_)
            have h := HB.out
            rw [pair_eq, decide_eq_false_iff_not] at h
            exact h e
          go_wp2_with fail
          go_ret
          exact ⟨ret_bool HF.out.symm, by (repeat' (first | with_reducible exact Below.refl _ _ | with_reducible assumption | with_reducible refine Below.drew ?_ | with_reducible refine below_drewN ?_ _ | with_reducible refine Below.setCell ?_ ?_ _ | with_reducible refine Below.alloc ?_ ?_ _ | omega | (simp; done) | (simp; omega)))⟩
        · have HT : Hid (l.take (k + 1) = m.take (k + 1)) := by
            have h := HB.out
            rw [pair_eq, decide_eq_true_eq] at h
            show _ = _
            rw [take_snoc HX.out, take_snoc HY.out, ht.out, h]
          go_wp2_with fail
          go_roundw
          case rel => exact ⟨k + 1, by omega, by go_num, HT, by (repeat' (first | with_reducible exact Below.refl _ _ | with_reducible assumption | with_reducible refine Below.drew ?_ | with_reducible refine below_drewN ?_ _ | with_reducible refine Below.setCell ?_ ?_ _ | with_reducible refine Below.alloc ?_ ?_ _ | omega | (simp; done) | (simp; omega)))⟩
          case measure => simp [intOf]; omega
      · obtain rfl : k = l.length := by omega
        have HF : Hid (decide (l = m) = true) := Lib.hid (decide_eq_true (eq_of_takes HN.out ht.out))
        go_wp2_with fail
        go_ret
        exact ⟨ret_bool HF.out.symm, by (repeat' (first | with_reducible exact Below.refl _ _ | with_reducible assumption | with_reducible refine Below.drew ?_ | with_reducible refine below_drewN ?_ _ | with_reducible refine Below.setCell ?_ ?_ _ | with_reducible refine Below.alloc ?_ ?_ _ | omega | (simp; done) | (simp; omega)))⟩
  · have hne : (((l.length : Int)) != (m.length : Int)) = true := by simp; omega
    have HF : Hid (decide (l = m) = false) := Lib.hid (decide_eq_false fun e => hn (by rw [e]))
    clear hn
    go_enter Tryd.func18, Tryd.ntmps18
    go_wp2_with fail
    go_ret
    exact ⟨ret_bool HF.out.symm, by (repeat' (first | with_reducible exact Below.refl _ _ | with_reducible assumption | with_reducible refine Below.drew ?_ | with_reducible refine below_drewN ?_ _ | with_reducible refine Below.setCell ?_ ?_ _ | with_reducible refine Below.alloc ?_ ?_ _ | omega | (simp; done) | (simp; omega)))⟩

theorem f15_any (n d : Int) (w : World) : Calls Tryd.prog 8 #[.int .i64 n, .int .i64 d] w fun e w' => e = .returned (.agg #[.int .i64 n, .int .i64 d]) ∧ Below w.heap.size w w' := by
  go_enter Tryd.func8, Tryd.ntmps8
  go_wp2
  refine bodyPost_ret (v := .agg #[.int .i64 n, .int .i64 d]) (by simp [results, Tryd.results8, go_sem]) rfl ⟨rfl, by (repeat' (first | with_reducible exact Below.refl _ _ | with_reducible assumption | with_reducible refine Below.drew ?_ | with_reducible refine below_drewN ?_ _ | with_reducible refine Below.setCell ?_ ?_ _ | with_reducible refine Below.alloc ?_ ?_ _ | omega | (simp; done) | (simp; omega)))⟩

theorem validNil_any (E : Nat → Addr) (w : World) (hE : Env LC E w) : Calls Tryd.prog 24 #[.slice none 0 0] w fun e w' => e = .returned (.iface 122 (.pointer (some (E 1)))) ∧ Below w.heap.size w w' :=
  valid15_any [] none 0 E w RowAt.nil (by decide) (fun b hb => by cases hb) hE

def s15 : List BI := [(0, 1, 1, 10), (100, 1, 1, 5), (200, 1, 0, 1)]

theorem ex15a : atI s15 150 1 = .ok 20 := by kernel_rfl
theorem ex15b : partsI s15 1000 1 = .ok [10, 20, 0] := by kernel_rfl
theorem ex15c : rateI s15 101 1 = .ok (Rat.divInt 1 5) := by kernel_rfl
theorem ex15d : findI s15 20 1 = .ok 150 := by kernel_rfl
theorem ex15e : findI s15 31 1 = .error 0 := by kernel_rfl
theorem in15 : ∀ b ∈ s15, In4 b := by
  intro b hb
  simp only [s15, List.mem_cons, List.not_mem_nil, or_false] at hb
  rcases hb with rfl | rfl | rfl <;> (unfold In4; dsimp only; omega)

set_option maxRecDepth 100000 in
set_option maxHeartbeats 16000000 in
theorem first15_any (E : Nat → Addr) (w : World) (hE : Env LC E w) :
    Calls Tryd.prog 4 #[] w fun e w' => e = .returned (.bool true) ∧ Below w.heap.size w w' := by
  have HE := Lib.hid hE
  clear hE
  go_enter Tryd.func4, Tryd.ntmps4
  go_wp2_with fail
  refine (f15_any 0 1 _).mono ?_
  rintro e w1 ⟨rfl, hb1⟩
  have hw1 : Below w.heap.size w w1 := stepH (by (repeat' (first | with_reducible exact Below.refl _ _ | with_reducible assumption | with_reducible refine Below.drew ?_ | with_reducible refine below_drewN ?_ _ | with_reducible refine Below.setCell ?_ ?_ _ | with_reducible refine Below.alloc ?_ ?_ _ | omega | (simp; done) | (simp; omega)))) hb1
  have z1 := hw1.size
  clear hb1
  go_wp2_with fail
  refine (f15_any 1 10 _).mono ?_
  rintro e w2 ⟨rfl, hb2⟩
  have hw2 : Below w.heap.size w w2 := stepH (by (repeat' (first | with_reducible exact Below.refl _ _ | with_reducible assumption | with_reducible refine Below.drew ?_ | with_reducible refine below_drewN ?_ _ | with_reducible refine Below.setCell ?_ ?_ _ | with_reducible refine Below.alloc ?_ ?_ _ | omega | (simp; done) | (simp; omega)))) hb2
  have z2 := hw2.size
  clear hb2 hw1 z1
  go_wp2_with fail
  refine (f15_any 100 1 _).mono ?_
  rintro e w3 ⟨rfl, hb3⟩
  have hw3 : Below w.heap.size w w3 := stepH (by (repeat' (first | with_reducible exact Below.refl _ _ | with_reducible assumption | with_reducible refine Below.drew ?_ | with_reducible refine below_drewN ?_ _ | with_reducible refine Below.setCell ?_ ?_ _ | with_reducible refine Below.alloc ?_ ?_ _ | omega | (simp; done) | (simp; omega)))) hb3
  have z3 := hw3.size
  clear hb3 hw2 z2
  go_wp2_with fail
  refine (f15_any 1 5 _).mono ?_
  rintro e w4 ⟨rfl, hb4⟩
  have hw4 : Below w.heap.size w w4 := stepH (by (repeat' (first | with_reducible exact Below.refl _ _ | with_reducible assumption | with_reducible refine Below.drew ?_ | with_reducible refine below_drewN ?_ _ | with_reducible refine Below.setCell ?_ ?_ _ | with_reducible refine Below.alloc ?_ ?_ _ | omega | (simp; done) | (simp; omega)))) hb4
  have z4 := hw4.size
  clear hb4 hw3 z3
  go_wp2_with fail
  refine (f15_any 200 1 _).mono ?_
  rintro e w5 ⟨rfl, hb5⟩
  have hw5 : Below w.heap.size w w5 := stepH (by (repeat' (first | with_reducible exact Below.refl _ _ | with_reducible assumption | with_reducible refine Below.drew ?_ | with_reducible refine below_drewN ?_ _ | with_reducible refine Below.setCell ?_ ?_ _ | with_reducible refine Below.alloc ?_ ?_ _ | omega | (simp; done) | (simp; omega)))) hb5
  have z5 := hw5.size
  clear hb5 hw4 z4
  go_wp2_with fail
  refine (f15_any 0 1 _).mono ?_
  rintro e w6 ⟨rfl, hb6⟩
  have hw6 : Below w.heap.size w w6 := stepH (by (repeat' (first | with_reducible exact Below.refl _ _ | with_reducible assumption | with_reducible refine Below.drew ?_ | with_reducible refine below_drewN ?_ _ | with_reducible refine Below.setCell ?_ ?_ _ | with_reducible refine Below.alloc ?_ ?_ _ | omega | (simp; done) | (simp; omega)))) hb6
  have z6 := hw6.size
  clear hb6 hw5 z5
  go_wp2_with fail
  refine (f15_any 150 1 _).mono ?_
  rintro e w7 ⟨rfl, hb7⟩
  have hw7 : Below w.heap.size w w7 := stepH (by (repeat' (first | with_reducible exact Below.refl _ _ | with_reducible assumption | with_reducible refine Below.drew ?_ | with_reducible refine below_drewN ?_ _ | with_reducible refine Below.setCell ?_ ?_ _ | with_reducible refine Below.alloc ?_ ?_ _ | omega | (simp; done) | (simp; omega)))) hb7
  have Br := keepH hb7 (g := w6.heap.size) (blk_new rfl)
  have z7 := hw7.size
  clear hb7 hw6 z6
  have cBr := cellH Br
  obtain ⟨lBr, lBr1, lBr2⟩ := ltH Br
  go_wp2_with fail
  refine (at15_any s15 (some ⟨w6.heap.size, 0, none⟩) 3 150 1 E _ ((rowBlk (l := s15) (fun x _ => encR_len x) Br rfl)) (by decide) in15 ⟨by omega, by omega⟩ ⟨by omega, by omega⟩ (HE.out.below (by (repeat' (first | with_reducible exact Below.refl _ _ | with_reducible assumption | with_reducible refine Below.drew ?_ | with_reducible refine below_drewN ?_ _ | with_reducible refine Below.setCell ?_ ?_ _ | with_reducible refine Below.alloc ?_ ?_ _ | omega | (simp; done) | (simp; omega)))))).mono ?_
  rintro e w8 ⟨⟨n', d', err, rfl, hr⟩, hb8⟩
  have hw8 : Below w.heap.size w w8 := stepH (by (repeat' (first | with_reducible exact Below.refl _ _ | with_reducible assumption | with_reducible refine Below.drew ?_ | with_reducible refine below_drewN ?_ _ | with_reducible refine Below.setCell ?_ ?_ _ | with_reducible refine Below.alloc ?_ ?_ _ | omega | (simp; done) | (simp; omega)))) hb8
  replace Br := keepH hb8 Br.out
  have z8 := hw8.size
  clear hb8 hw7 z7
  clear cBr lBr lBr1 lBr2
  have cBr := cellH Br
  obtain ⟨lBr, lBr1, lBr2⟩ := ltH Br
  obtain ⟨rfl, rfl, rfl⟩ := resF_ok (a := 20) (b := 1) hr ex15a (by decide +kernel) (by decide +kernel)
  clear hr
  go_wp2_with fail
  refine (f15_any 1000 1 _).mono ?_
  rintro e w9 ⟨rfl, hb9⟩
  have hw9 : Below w.heap.size w w9 := stepH (by (repeat' (first | with_reducible exact Below.refl _ _ | with_reducible assumption | with_reducible refine Below.drew ?_ | with_reducible refine below_drewN ?_ _ | with_reducible refine Below.setCell ?_ ?_ _ | with_reducible refine Below.alloc ?_ ?_ _ | omega | (simp; done) | (simp; omega)))) hb9
  replace Br := keepH hb9 (blk_old Br.out)
  have R2 := keepH hb9 (g := w8.heap.size) (blk_new rfl)
  have z9 := hw9.size
  clear hb9 hw8 z8
  clear cBr lBr lBr1 lBr2
  have cBr := cellH Br
  obtain ⟨lBr, lBr1, lBr2⟩ := ltH Br
  have cR2 := cellH R2
  obtain ⟨lR2, lR21, lR22⟩ := ltH R2
  go_wp2_with fail
  refine (parts15_any s15 (some ⟨w6.heap.size, 0, none⟩) 3 1000 1 E _ ((rowBlk (l := s15) (fun x _ => encR_len x) Br rfl)) (by decide) in15 ⟨by omega, by omega⟩ ⟨by omega, by omega⟩ (HE.out.below (by (repeat' (first | with_reducible exact Below.refl _ _ | with_reducible assumption | with_reducible refine Below.drew ?_ | with_reducible refine below_drewN ?_ _ | with_reducible refine Below.setCell ?_ ?_ _ | with_reducible refine Below.alloc ?_ ?_ _ | omega | (simp; done) | (simp; omega)))))).mono ?_
  rintro e w10 ⟨⟨v, err, rfl, hr⟩, hb10⟩
  have hw10 : Below w.heap.size w w10 := stepH (by (repeat' (first | with_reducible exact Below.refl _ _ | with_reducible assumption | with_reducible refine Below.drew ?_ | with_reducible refine below_drewN ?_ _ | with_reducible refine Below.setCell ?_ ?_ _ | with_reducible refine Below.alloc ?_ ?_ _ | omega | (simp; done) | (simp; omega)))) hb10
  replace Br := keepH hb10 Br.out
  replace R2 := keepH hb10 R2.out
  have z10 := hw10.size
  clear hb10 hw9 z9
  clear cBr lBr lBr1 lBr2 cR2 lR2 lR21 lR22
  have cBr := cellH Br
  obtain ⟨lBr, lBr1, lBr2⟩ := ltH Br
  have cR2 := cellH R2
  obtain ⟨lR2, lR21, lR22⟩ := ltH R2
  rw [ex15b] at hr
  obtain ⟨hown, rfl⟩ := hr
  obtain ⟨A2, c2, hv, _, _, hrow⟩ := Own.rows (fun x _ => encF_len x) hown
  have HROW := Lib.hid hrow
  have HWP := Lib.hid (Below.refl w10.heap.size w10)
  subst hv
  clear hown hrow
  have ho10 : OnlyL [] w10 w10 := OnlyL.refl _ _
  go_wp2_with fail
  refine (f15_any 101 1 _).mono ?_
  rintro e w11 ⟨rfl, hb11⟩
  have hw11 : Below w.heap.size w w11 := stepH (by (repeat' (first | with_reducible exact Below.refl _ _ | with_reducible assumption | with_reducible refine Below.drew ?_ | with_reducible refine below_drewN ?_ _ | with_reducible refine Below.setCell ?_ ?_ _ | with_reducible refine Below.alloc ?_ ?_ _ | omega | (simp; done) | (simp; omega)))) hb11
  have ho11 : OnlyL [] w10 w11 := OnlyL.step (by (repeat' (first | with_reducible exact OnlyL.refl _ _ | with_reducible assumption | with_reducible refine OnlyL.drew ?_ | with_reducible refine OnlyL.drewN ?_ _ | with_reducible refine OnlyL.setCell ?_ ?_ _ | with_reducible refine OnlyL.alloc ?_ _ | omega | (simp; done) | (simp; omega)))) hb11
  replace Br := keepH hb11 Br.out
  replace R2 := keepH hb11 R2.out
  have z11 := hw11.size
  clear hb11 hw10 z10
  clear cBr lBr lBr1 lBr2 cR2 lR2 lR21 lR22
  have cBr := cellH Br
  obtain ⟨lBr, lBr1, lBr2⟩ := ltH Br
  have cR2 := cellH R2
  obtain ⟨lR2, lR21, lR22⟩ := ltH R2
  go_wp2_with fail
  refine (rate15_any s15 (some ⟨w6.heap.size, 0, none⟩) 3 101 1 E _ ((rowBlk (l := s15) (fun x _ => encR_len x) Br rfl)) (by decide) in15 ⟨by omega, by omega⟩ ⟨by omega, by omega⟩ (HE.out.below (by (repeat' (first | with_reducible exact Below.refl _ _ | with_reducible assumption | with_reducible refine Below.drew ?_ | with_reducible refine below_drewN ?_ _ | with_reducible refine Below.setCell ?_ ?_ _ | with_reducible refine Below.alloc ?_ ?_ _ | omega | (simp; done) | (simp; omega)))))).mono ?_
  rintro e w12 ⟨⟨n', d', err, rfl, hr⟩, hb12⟩
  have hw12 : Below w.heap.size w w12 := stepH (by (repeat' (first | with_reducible exact Below.refl _ _ | with_reducible assumption | with_reducible refine Below.drew ?_ | with_reducible refine below_drewN ?_ _ | with_reducible refine Below.setCell ?_ ?_ _ | with_reducible refine Below.alloc ?_ ?_ _ | omega | (simp; done) | (simp; omega)))) hb12
  have ho12 : OnlyL [] w10 w12 := OnlyL.step (by (repeat' (first | with_reducible exact OnlyL.refl _ _ | with_reducible assumption | with_reducible refine OnlyL.drew ?_ | with_reducible refine OnlyL.drewN ?_ _ | with_reducible refine OnlyL.setCell ?_ ?_ _ | with_reducible refine OnlyL.alloc ?_ _ | omega | (simp; done) | (simp; omega)))) hb12
  replace Br := keepH hb12 Br.out
  replace R2 := keepH hb12 R2.out
  have z12 := hw12.size
  clear hb12 hw11 z11
  clear cBr lBr lBr1 lBr2 cR2 lR2 lR21 lR22
  have cBr := cellH Br
  obtain ⟨lBr, lBr1, lBr2⟩ := ltH Br
  have cR2 := cellH R2
  obtain ⟨lR2, lR21, lR22⟩ := ltH R2
  obtain ⟨rfl, rfl, rfl⟩ := resF_ok (a := 1) (b := 5) hr ex15c (by decide +kernel) (by decide +kernel)
  clear hr
  go_wp2_with fail
  refine (f15_any 20 1 _).mono ?_
  rintro e w13 ⟨rfl, hb13⟩
  have hw13 : Below w.heap.size w w13 := stepH (by (repeat' (first | with_reducible exact Below.refl _ _ | with_reducible assumption | with_reducible refine Below.drew ?_ | with_reducible refine below_drewN ?_ _ | with_reducible refine Below.setCell ?_ ?_ _ | with_reducible refine Below.alloc ?_ ?_ _ | omega | (simp; done) | (simp; omega)))) hb13
  have ho13 : OnlyL [] w10 w13 := OnlyL.step (by (repeat' (first | with_reducible exact OnlyL.refl _ _ | with_reducible assumption | with_reducible refine OnlyL.drew ?_ | with_reducible refine OnlyL.drewN ?_ _ | with_reducible refine OnlyL.setCell ?_ ?_ _ | with_reducible refine OnlyL.alloc ?_ _ | omega | (simp; done) | (simp; omega)))) hb13
  replace Br := keepH hb13 (blk_old Br.out)
  replace R2 := keepH hb13 (blk_old R2.out)
  have R6 := keepH hb13 (g := w12.heap.size) (blk_new rfl)
  have z13 := hw13.size
  clear hb13 hw12 z12
  clear cBr lBr lBr1 lBr2 cR2 lR2 lR21 lR22
  have cBr := cellH Br
  obtain ⟨lBr, lBr1, lBr2⟩ := ltH Br
  have cR2 := cellH R2
  obtain ⟨lR2, lR21, lR22⟩ := ltH R2
  have cR6 := cellH R6
  obtain ⟨lR6, lR61, lR62⟩ := ltH R6
  go_wp2_with fail
  refine (find15_any s15 (some ⟨w6.heap.size, 0, none⟩) 3 20 1 E _ ((rowBlk (l := s15) (fun x _ => encR_len x) Br rfl)) (by decide) in15 ⟨by omega, by omega⟩ ⟨by omega, by omega⟩ (HE.out.below (by (repeat' (first | with_reducible exact Below.refl _ _ | with_reducible assumption | with_reducible refine Below.drew ?_ | with_reducible refine below_drewN ?_ _ | with_reducible refine Below.setCell ?_ ?_ _ | with_reducible refine Below.alloc ?_ ?_ _ | omega | (simp; done) | (simp; omega)))))).mono ?_
  rintro e w14 ⟨⟨n', d', err, rfl, hr⟩, hb14⟩
  have hw14 : Below w.heap.size w w14 := stepH (by (repeat' (first | with_reducible exact Below.refl _ _ | with_reducible assumption | with_reducible refine Below.drew ?_ | with_reducible refine below_drewN ?_ _ | with_reducible refine Below.setCell ?_ ?_ _ | with_reducible refine Below.alloc ?_ ?_ _ | omega | (simp; done) | (simp; omega)))) hb14
  have ho14 : OnlyL [] w10 w14 := OnlyL.step (by (repeat' (first | with_reducible exact OnlyL.refl _ _ | with_reducible assumption | with_reducible refine OnlyL.drew ?_ | with_reducible refine OnlyL.drewN ?_ _ | with_reducible refine OnlyL.setCell ?_ ?_ _ | with_reducible refine OnlyL.alloc ?_ _ | omega | (simp; done) | (simp; omega)))) hb14
  replace Br := keepH hb14 Br.out
  replace R2 := keepH hb14 R2.out
  replace R6 := keepH hb14 R6.out
  have z14 := hw14.size
  clear hb14 hw13 z13
  clear cBr lBr lBr1 lBr2 cR2 lR2 lR21 lR22 cR6 lR6 lR61 lR62
  have cBr := cellH Br
  obtain ⟨lBr, lBr1, lBr2⟩ := ltH Br
  have cR2 := cellH R2
  obtain ⟨lR2, lR21, lR22⟩ := ltH R2
  have cR6 := cellH R6
  obtain ⟨lR6, lR61, lR62⟩ := ltH R6
  obtain ⟨rfl, rfl, rfl⟩ := resF_ok (a := 150) (b := 1) hr ex15d (by decide +kernel) (by decide +kernel)
  clear hr
  go_wp2_with fail
  refine (f15_any 31 1 _).mono ?_
  rintro e w15 ⟨rfl, hb15⟩
  have hw15 : Below w.heap.size w w15 := stepH (by (repeat' (first | with_reducible exact Below.refl _ _ | with_reducible assumption | with_reducible refine Below.drew ?_ | with_reducible refine below_drewN ?_ _ | with_reducible refine Below.setCell ?_ ?_ _ | with_reducible refine Below.alloc ?_ ?_ _ | omega | (simp; done) | (simp; omega)))) hb15
  have ho15 : OnlyL [] w10 w15 := OnlyL.step (by (repeat' (first | with_reducible exact OnlyL.refl _ _ | with_reducible assumption | with_reducible refine OnlyL.drew ?_ | with_reducible refine OnlyL.drewN ?_ _ | with_reducible refine OnlyL.setCell ?_ ?_ _ | with_reducible refine OnlyL.alloc ?_ _ | omega | (simp; done) | (simp; omega)))) hb15
  replace Br := keepH hb15 (blk_old Br.out)
  replace R2 := keepH hb15 (blk_old R2.out)
  replace R6 := keepH hb15 (blk_old R6.out)
  have R8 := keepH hb15 (g := w14.heap.size) (blk_new rfl)
  have z15 := hw15.size
  clear hb15 hw14 z14
  clear cBr lBr lBr1 lBr2 cR2 lR2 lR21 lR22 cR6 lR6 lR61 lR62
  have cBr := cellH Br
  obtain ⟨lBr, lBr1, lBr2⟩ := ltH Br
  have cR2 := cellH R2
  obtain ⟨lR2, lR21, lR22⟩ := ltH R2
  have cR6 := cellH R6
  obtain ⟨lR6, lR61, lR62⟩ := ltH R6
  have cR8 := cellH R8
  obtain ⟨lR8, lR81, lR82⟩ := ltH R8
  go_wp2_with fail
  refine (find15_any s15 (some ⟨w6.heap.size, 0, none⟩) 3 31 1 E _ ((rowBlk (l := s15) (fun x _ => encR_len x) Br rfl)) (by decide) in15 ⟨by omega, by omega⟩ ⟨by omega, by omega⟩ (HE.out.below (by (repeat' (first | with_reducible exact Below.refl _ _ | with_reducible assumption | with_reducible refine Below.drew ?_ | with_reducible refine below_drewN ?_ _ | with_reducible refine Below.setCell ?_ ?_ _ | with_reducible refine Below.alloc ?_ ?_ _ | omega | (simp; done) | (simp; omega)))))).mono ?_
  rintro e w16 ⟨⟨n', d', err, rfl, hr⟩, hb16⟩
  have hw16 : Below w.heap.size w w16 := stepH (by (repeat' (first | with_reducible exact Below.refl _ _ | with_reducible assumption | with_reducible refine Below.drew ?_ | with_reducible refine below_drewN ?_ _ | with_reducible refine Below.setCell ?_ ?_ _ | with_reducible refine Below.alloc ?_ ?_ _ | omega | (simp; done) | (simp; omega)))) hb16
  have ho16 : OnlyL [] w10 w16 := OnlyL.step (by (repeat' (first | with_reducible exact OnlyL.refl _ _ | with_reducible assumption | with_reducible refine OnlyL.drew ?_ | with_reducible refine OnlyL.drewN ?_ _ | with_reducible refine OnlyL.setCell ?_ ?_ _ | with_reducible refine OnlyL.alloc ?_ _ | omega | (simp; done) | (simp; omega)))) hb16
  replace Br := keepH hb16 Br.out
  replace R2 := keepH hb16 R2.out
  replace R6 := keepH hb16 R6.out
  replace R8 := keepH hb16 R8.out
  have z16 := hw16.size
  clear hb16 hw15 z15
  clear cBr lBr lBr1 lBr2 cR2 lR2 lR21 lR22 cR6 lR6 lR61 lR62 cR8 lR8 lR81 lR82
  have cBr := cellH Br
  obtain ⟨lBr, lBr1, lBr2⟩ := ltH Br
  have cR2 := cellH R2
  obtain ⟨lR2, lR21, lR22⟩ := ltH R2
  have cR6 := cellH R6
  obtain ⟨lR6, lR61, lR62⟩ := ltH R6
  have cR8 := cellH R8
  obtain ⟨lR8, lR81, lR82⟩ := ltH R8
  obtain ⟨rfl, rfl, rfl⟩ := resF_err hr ex15e
  clear hr
  go_wp2_with fail
  refine (f15_any 10 1 _).mono ?_
  rintro e w17 ⟨rfl, hb17⟩
  have hw17 : Below w.heap.size w w17 := stepH (by (repeat' (first | with_reducible exact Below.refl _ _ | with_reducible assumption | with_reducible refine Below.drew ?_ | with_reducible refine below_drewN ?_ _ | with_reducible refine Below.setCell ?_ ?_ _ | with_reducible refine Below.alloc ?_ ?_ _ | omega | (simp; done) | (simp; omega)))) hb17
  have ho17 : OnlyL [] w10 w17 := OnlyL.step (by (repeat' (first | with_reducible exact OnlyL.refl _ _ | with_reducible assumption | with_reducible refine OnlyL.drew ?_ | with_reducible refine OnlyL.drewN ?_ _ | with_reducible refine OnlyL.setCell ?_ ?_ _ | with_reducible refine OnlyL.alloc ?_ _ | omega | (simp; done) | (simp; omega)))) hb17
  replace Br := keepH hb17 (blk_old Br.out)
  replace R2 := keepH hb17 (blk_old R2.out)
  replace R6 := keepH hb17 (blk_old R6.out)
  replace R8 := keepH hb17 (blk_old R8.out)
  have R10 := keepH hb17 (g := w16.heap.size) (blk_new rfl)
  have z17 := hw17.size
  clear hb17 hw16 z16
  clear cBr lBr lBr1 lBr2 cR2 lR2 lR21 lR22 cR6 lR6 lR61 lR62 cR8 lR8 lR81 lR82
  have cBr := cellH Br
  obtain ⟨lBr, lBr1, lBr2⟩ := ltH Br
  have cR2 := cellH R2
  obtain ⟨lR2, lR21, lR22⟩ := ltH R2
  have cR6 := cellH R6
  obtain ⟨lR6, lR61, lR62⟩ := ltH R6
  have cR8 := cellH R8
  obtain ⟨lR8, lR81, lR82⟩ := ltH R8
  have cR10 := cellH R10
  obtain ⟨lR10, lR101, lR102⟩ := ltH R10
  go_wp2_with fail
  refine (f15_any 20 1 _).mono ?_
  rintro e w18 ⟨rfl, hb18⟩
  have hw18 : Below w.heap.size w w18 := stepH (by (repeat' (first | with_reducible exact Below.refl _ _ | with_reducible assumption | with_reducible refine Below.drew ?_ | with_reducible refine below_drewN ?_ _ | with_reducible refine Below.setCell ?_ ?_ _ | with_reducible refine Below.alloc ?_ ?_ _ | omega | (simp; done) | (simp; omega)))) hb18
  have ho18 : OnlyL [] w10 w18 := OnlyL.step (by (repeat' (first | with_reducible exact OnlyL.refl _ _ | with_reducible assumption | with_reducible refine OnlyL.drew ?_ | with_reducible refine OnlyL.drewN ?_ _ | with_reducible refine OnlyL.setCell ?_ ?_ _ | with_reducible refine OnlyL.alloc ?_ _ | omega | (simp; done) | (simp; omega)))) hb18
  replace Br := keepH hb18 Br.out
  replace R2 := keepH hb18 R2.out
  replace R6 := keepH hb18 R6.out
  replace R8 := keepH hb18 R8.out
  replace R10 := keepH hb18 R10.out
  have z18 := hw18.size
  clear hb18 hw17 z17
  clear cBr lBr lBr1 lBr2 cR2 lR2 lR21 lR22 cR6 lR6 lR61 lR62 cR8 lR8 lR81 lR82 cR10 lR10 lR101 lR102
  have cBr := cellH Br
  obtain ⟨lBr, lBr1, lBr2⟩ := ltH Br
  have cR2 := cellH R2
  obtain ⟨lR2, lR21, lR22⟩ := ltH R2
  have cR6 := cellH R6
  obtain ⟨lR6, lR61, lR62⟩ := ltH R6
  have cR8 := cellH R8
  obtain ⟨lR8, lR81, lR82⟩ := ltH R8
  have cR10 := cellH R10
  obtain ⟨lR10, lR101, lR102⟩ := ltH R10
  go_wp2_with fail
  refine (f15_any 0 1 _).mono ?_
  rintro e w19 ⟨rfl, hb19⟩
  have hw19 : Below w.heap.size w w19 := stepH (by (repeat' (first | with_reducible exact Below.refl _ _ | with_reducible assumption | with_reducible refine Below.drew ?_ | with_reducible refine below_drewN ?_ _ | with_reducible refine Below.setCell ?_ ?_ _ | with_reducible refine Below.alloc ?_ ?_ _ | omega | (simp; done) | (simp; omega)))) hb19
  have ho19 : OnlyL [] w10 w19 := OnlyL.step (by (repeat' (first | with_reducible exact OnlyL.refl _ _ | with_reducible assumption | with_reducible refine OnlyL.drew ?_ | with_reducible refine OnlyL.drewN ?_ _ | with_reducible refine OnlyL.setCell ?_ ?_ _ | with_reducible refine OnlyL.alloc ?_ _ | omega | (simp; done) | (simp; omega)))) hb19
  replace Br := keepH hb19 Br.out
  replace R2 := keepH hb19 R2.out
  replace R6 := keepH hb19 R6.out
  replace R8 := keepH hb19 R8.out
  replace R10 := keepH hb19 R10.out
  have z19 := hw19.size
  clear hb19 hw18 z18
  clear cBr lBr lBr1 lBr2 cR2 lR2 lR21 lR22 cR6 lR6 lR61 lR62 cR8 lR8 lR81 lR82 cR10 lR10 lR101 lR102
  have cBr := cellH Br
  obtain ⟨lBr, lBr1, lBr2⟩ := ltH Br
  have cR2 := cellH R2
  obtain ⟨lR2, lR21, lR22⟩ := ltH R2
  have cR6 := cellH R6
  obtain ⟨lR6, lR61, lR62⟩ := ltH R6
  have cR8 := cellH R8
  obtain ⟨lR8, lR81, lR82⟩ := ltH R8
  have cR10 := cellH R10
  obtain ⟨lR10, lR101, lR102⟩ := ltH R10
  go_wp2_with fail
  have hw20 : Below w.heap.size w (w19.alloc (.cells #[.int .i64 10, .int .i64 1, .int .i64 20, .int .i64 1, .int .i64 0, .int .i64 1] 24)) := by (repeat' (first | with_reducible exact Below.refl _ _ | with_reducible assumption | with_reducible refine Below.drew ?_ | with_reducible refine below_drewN ?_ _ | with_reducible refine Below.setCell ?_ ?_ _ | with_reducible refine Below.alloc ?_ ?_ _ | omega | (simp; done) | (simp; omega)))
  have ho20 : OnlyL [] w10 (w19.alloc (.cells #[.int .i64 10, .int .i64 1, .int .i64 20, .int .i64 1, .int .i64 0, .int .i64 1] 24)) := by (repeat' (first | with_reducible exact OnlyL.refl _ _ | with_reducible assumption | with_reducible refine OnlyL.drew ?_ | with_reducible refine OnlyL.drewN ?_ _ | with_reducible refine OnlyL.setCell ?_ ?_ _ | with_reducible refine OnlyL.alloc ?_ _ | omega | (simp; done) | (simp; omega)))
  replace Br : Hid ((w19.alloc (.cells #[.int .i64 10, .int .i64 1, .int .i64 20, .int .i64 1, .int .i64 0, .int .i64 1] 24)).heap[w6.heap.size]? = some (.cells #[.int .i64 0, .int .i64 1, .int .i64 1, .int .i64 10, .int .i64 100, .int .i64 1, .int .i64 1, .int .i64 5, .int .i64 200, .int .i64 1, .int .i64 0, .int .i64 1] 31 (0, 0))) := (blk_old Br.out)
  replace R2 : Hid ((w19.alloc (.cells #[.int .i64 10, .int .i64 1, .int .i64 20, .int .i64 1, .int .i64 0, .int .i64 1] 24)).heap[w8.heap.size]? = some (.cells #[.int .i64 20, .int .i64 1] 24 (0, 0))) := (blk_old R2.out)
  replace R6 : Hid ((w19.alloc (.cells #[.int .i64 10, .int .i64 1, .int .i64 20, .int .i64 1, .int .i64 0, .int .i64 1] 24)).heap[w12.heap.size]? = some (.cells #[.int .i64 1, .int .i64 5] 24 (0, 0))) := (blk_old R6.out)
  replace R8 : Hid ((w19.alloc (.cells #[.int .i64 10, .int .i64 1, .int .i64 20, .int .i64 1, .int .i64 0, .int .i64 1] 24)).heap[w14.heap.size]? = some (.cells #[.int .i64 150, .int .i64 1] 24 (0, 0))) := (blk_old R8.out)
  replace R10 : Hid ((w19.alloc (.cells #[.int .i64 10, .int .i64 1, .int .i64 20, .int .i64 1, .int .i64 0, .int .i64 1] 24)).heap[w16.heap.size]? = some (.cells #[.int .i64 0, .int .i64 0] 24 (0, 0))) := (blk_old R10.out)
  have Pq : Hid ((w19.alloc (.cells #[.int .i64 10, .int .i64 1, .int .i64 20, .int .i64 1, .int .i64 0, .int .i64 1] 24)).heap[w19.heap.size]? = some (.cells #[.int .i64 10, .int .i64 1, .int .i64 20, .int .i64 1, .int .i64 0, .int .i64 1] 24 (0, 0))) := (blk_new rfl)
  clear cBr lBr lBr1 lBr2 cR2 lR2 lR21 lR22 cR6 lR6 lR61 lR62 cR8 lR8 lR81 lR82 cR10 lR10 lR101 lR102
  generalize (w19.alloc (.cells #[.int .i64 10, .int .i64 1, .int .i64 20, .int .i64 1, .int .i64 0, .int .i64 1] 24)) = w20 at *
  have z20 := hw20.size
  have cBr := cellH Br
  obtain ⟨lBr, lBr1, lBr2⟩ := ltH Br
  have cR2 := cellH R2
  obtain ⟨lR2, lR21, lR22⟩ := ltH R2
  have cR6 := cellH R6
  obtain ⟨lR6, lR61, lR62⟩ := ltH R6
  have cR8 := cellH R8
  obtain ⟨lR8, lR81, lR82⟩ := ltH R8
  have cR10 := cellH R10
  obtain ⟨lR10, lR101, lR102⟩ := ltH R10
  have cPq := cellH Pq
  obtain ⟨lPq, lPq1, lPq2⟩ := ltH Pq
  clear cBr lBr lBr1 lBr2 cR2 lR2 lR21 lR22 cR6 lR6 lR61 lR62 cR8 lR8 lR81 lR82 cR10 lR10 lR101 lR102 cPq lPq lPq1 lPq2
  refine ((sameFracs_any ([10, 20, 0].map fq) [(10, 1), (20, 1), (0, 1)] A2 (some ⟨w19.heap.size, 0, none⟩) c2 3 _ ((HROW.out.below (OnlyL.all (by (repeat' (first | with_reducible exact OnlyL.refl _ _ | with_reducible assumption | with_reducible refine OnlyL.drew ?_ | with_reducible refine OnlyL.drewN ?_ _ | with_reducible refine OnlyL.setCell ?_ ?_ _ | with_reducible refine OnlyL.alloc ?_ _ | omega | (simp; done) | (simp; omega))))) (Nat.le_refl _)).more (OnlyL.size (L := []) (by (repeat' (first | with_reducible exact OnlyL.refl _ _ | with_reducible assumption | with_reducible refine OnlyL.drew ?_ | with_reducible refine OnlyL.drewN ?_ _ | with_reducible refine OnlyL.setCell ?_ ?_ _ | with_reducible refine OnlyL.alloc ?_ _ | omega | (simp; done) | (simp; omega)))))) (rowBlk (fun x _ => encF_len x) Pq rfl) (by decide))).mono ?_
  rintro e w21 ⟨rfl, hb21⟩
  have hw21 : Below w.heap.size w w21 := stepH (by (repeat' (first | with_reducible exact Below.refl _ _ | with_reducible assumption | with_reducible refine Below.drew ?_ | with_reducible refine below_drewN ?_ _ | with_reducible refine Below.setCell ?_ ?_ _ | with_reducible refine Below.alloc ?_ ?_ _ | omega | (simp; done) | (simp; omega)))) hb21
  have ho21 : OnlyL [] w10 w21 := OnlyL.step (by (repeat' (first | with_reducible exact OnlyL.refl _ _ | with_reducible assumption | with_reducible refine OnlyL.drew ?_ | with_reducible refine OnlyL.drewN ?_ _ | with_reducible refine OnlyL.setCell ?_ ?_ _ | with_reducible refine OnlyL.alloc ?_ _ | omega | (simp; done) | (simp; omega)))) hb21
  replace Br := keepH hb21 Br.out
  replace R2 := keepH hb21 R2.out
  replace R6 := keepH hb21 R6.out
  replace R8 := keepH hb21 R8.out
  replace R10 := keepH hb21 R10.out
  replace Pq := keepH hb21 Pq.out
  have z21 := hw21.size
  clear hb21 hw20 z20
  have cBr := cellH Br
  obtain ⟨lBr, lBr1, lBr2⟩ := ltH Br
  have cR2 := cellH R2
  obtain ⟨lR2, lR21, lR22⟩ := ltH R2
  have cR6 := cellH R6
  obtain ⟨lR6, lR61, lR62⟩ := ltH R6
  have cR8 := cellH R8
  obtain ⟨lR8, lR81, lR82⟩ := ltH R8
  have cR10 := cellH R10
  obtain ⟨lR10, lR101, lR102⟩ := ltH R10
  have cPq := cellH Pq
  obtain ⟨lPq, lPq1, lPq2⟩ := ltH Pq
  rw [show decide (([10, 20, 0] : List Rat).map fq = [((10 : Int), (1 : Int)), (20, 1), (0, 1)]) = true by decide +kernel]
  have e1 := fun w => eql_err (E 0) w
  have e2 := fun w => eql_err (E 1) w
  go_wp2_with fail
  have hw22 := hw21
  go_region_held3 (fun w' => w'.cell? ⟨w8.heap.size, 0, none⟩ = some (.int .i64 20) ∧ w'.cell? ⟨w8.heap.size, 1, none⟩ = some (.int .i64 1) ∧ w'.cell? ⟨w12.heap.size, 0, none⟩ = some (.int .i64 1) ∧ w'.cell? ⟨w12.heap.size, 1, none⟩ = some (.int .i64 5) ∧ w'.cell? ⟨w14.heap.size, 0, none⟩ = some (.int .i64 150) ∧ w'.cell? ⟨w14.heap.size, 1, none⟩ = some (.int .i64 1) ∧ w'.cell? ⟨0, 0, none⟩ = some (.iface 122 (.pointer (some (E 0)))) ∧ w'.cell? ⟨1, 0, none⟩ = some (.iface 122 (.pointer (some (E 1))))) (first | exact ⟨cellH R2 0, cellH R2 1, cellH R6 0, cellH R6 1, cellH R8 0, cellH R8 1, (HE.out.below hw22).cell _ (by decide), (HE.out.below hw22).cell _ (by decide)⟩ | go_keep)
    (first | (go_at_call 8; refine (f15_any _ _ _).mono ?_; rintro e w22 ⟨rfl, hb22⟩; have hw22 : Below w.heap.size w w22 := stepH (by (repeat' (first | with_reducible exact Below.refl _ _ | with_reducible assumption | with_reducible refine Below.drew ?_ | with_reducible refine below_drewN ?_ _ | with_reducible refine Below.setCell ?_ ?_ _ | with_reducible refine Below.alloc ?_ ?_ _ | omega | (simp; done) | (simp; omega)))) hb22; replace Br := keepH hb22 Br.out; replace R2 := keepH hb22 R2.out; replace R6 := keepH hb22 R6.out; replace R8 := keepH hb22 R8.out; replace R10 := keepH hb22 R10.out; replace Pq := keepH hb22 Pq.out) | (go_at_call 23; refine (first_same _ _ _).mono ?_; rintro e w22 ⟨rfl, hb22⟩; have hw22 : Below w.heap.size w w22 := stepH (by (repeat' (first | with_reducible exact Below.refl _ _ | with_reducible assumption | with_reducible refine Below.drew ?_ | with_reducible refine below_drewN ?_ _ | with_reducible refine Below.setCell ?_ ?_ _ | with_reducible refine Below.alloc ?_ ?_ _ | omega | (simp; done) | (simp; omega)))) hb22; replace Br := keepH hb22 Br.out; replace R2 := keepH hb22 R2.out; replace R6 := keepH hb22 R6.out; replace R8 := keepH hb22 R8.out; replace R10 := keepH hb22 R10.out; replace Pq := keepH hb22 Pq.out) | (go_at_call 24; refine (validNil_any E _ (HE.out.below (by (repeat' (first | with_reducible exact Below.refl _ _ | with_reducible assumption | with_reducible refine Below.drew ?_ | with_reducible refine below_drewN ?_ _ | with_reducible refine Below.setCell ?_ ?_ _ | with_reducible refine Below.alloc ?_ ?_ _ | omega | (simp; done) | (simp; omega)))))).mono ?_; rintro e w22 ⟨rfl, hb22⟩; have hw22 : Below w.heap.size w w22 := stepH (by (repeat' (first | with_reducible exact Below.refl _ _ | with_reducible assumption | with_reducible refine Below.drew ?_ | with_reducible refine below_drewN ?_ _ | with_reducible refine Below.setCell ?_ ?_ _ | with_reducible refine Below.alloc ?_ ?_ _ | omega | (simp; done) | (simp; omega)))) hb22; replace Br := keepH hb22 Br.out; replace R2 := keepH hb22 R2.out; replace R6 := keepH hb22 R6.out; replace R8 := keepH hb22 R8.out; replace R10 := keepH hb22 R10.out; replace Pq := keepH hb22 Pq.out))
  clear cBr lBr lBr1 lBr2 cR2 lR2 lR21 lR22 cR6 lR6 lR61 lR62 cR8 lR8 lR81 lR82 cR10 lR10 lR101 lR102 cPq lPq lPq1 lPq2
  have z22 := hw22.size
  all_goals go_wp2_with fail
  all_goals go_ret
  all_goals exact ⟨rfl, by (repeat' (first | with_reducible exact Below.refl _ _ | with_reducible assumption | with_reducible refine Below.drew ?_ | with_reducible refine below_drewN ?_ _ | with_reducible refine Below.setCell ?_ ?_ _ | with_reducible refine Below.alloc ?_ ?_ _ | omega | (simp; done) | (simp; omega)))⟩

end Go.Proofs.YtmankldedhgdiaaDoor
