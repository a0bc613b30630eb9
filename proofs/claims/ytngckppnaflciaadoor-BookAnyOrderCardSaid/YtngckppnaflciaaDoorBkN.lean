/- titheref.SameValue, SameProv: walks. -/
import Derived.Test.YtngckppnaflciaaDoorBkM
namespace Go.Proofs.YtngckppnaflciaaDoor
open Go.RowKit

/-- two values alike (bs: their scales) -/
def valB (bs : Bool) (k n d : Int) (r : ByteArray) (m un ud k' n' d' : Int) (r' : ByteArray) (m' un' ud' : Int) : Bool := bs && (k == k' && (same2 n d n' d' && (r.toList == r'.toList && (m == m' && same2 un ud un' ud'))))

set_option maxRecDepth 10000 in
set_option maxHeartbeats 4000000 in
theorem value_same (k n d : Int) (A : Option Addr) (l c : Nat) (r : ByteArray) (m un ud k' n' d' : Int) (A' : Option Addr) (l' c' : Nat) (r' : ByteArray) (m' un' ud' : Int) (bs x : Bool) (w : World)
    (hs : ∀ W, Below w.heap.size w W → Calls Tryd.prog 53 #[.slice A l c, .slice A' l' c'] W fun e w' => e = .returned (.bool bs) ∧ Below W.heap.size W w')
    (hx : valB bs k n d r m un ud k' n' d' r' m' un' ud' = x) :
    Calls Tryd.prog 38 #[.agg #[.int .i64 k, .int .i64 n, .int .i64 d, .slice A l c, .string r, .int .i64 m, .int .i64 un, .int .i64 ud], .agg #[.int .i64 k', .int .i64 n', .int .i64 d', .slice A' l' c', .string r', .int .i64 m', .int .i64 un', .int .i64 ud']] w fun e w' => e = .returned (.bool x) ∧ Below w.heap.size w w' := by
  have HS := Lib.hid hs
  clear hs
  cases bs with
  | false =>
    have e1 : x = false := by rw [← hx]; unfold valB; simp
    subst e1
    clear hx
    go_enter Tryd.func38, Tryd.ntmps38
    go_wp2_with fail
    refine (HS.out _ (by (repeat' (first | with_reducible exact Below.refl _ _ | with_reducible assumption | with_reducible refine Below.drew ?_ | with_reducible refine below_drewN ?_ _ | with_reducible refine Below.setCell ?_ ?_ _ | with_reducible refine Below.alloc ?_ ?_ _ | omega | (simp; done) | (simp; omega))))).mono ?_
    rintro e w1 ⟨rfl, hb1⟩
    have hw1 : Below w.heap.size w w1 := stepH (by (repeat' (first | with_reducible exact Below.refl _ _ | with_reducible assumption | with_reducible refine Below.drew ?_ | with_reducible refine below_drewN ?_ _ | with_reducible refine Below.setCell ?_ ?_ _ | with_reducible refine Below.alloc ?_ ?_ _ | omega | (simp; done) | (simp; omega)))) hb1
    have B1 := keepH hb1 (g := w.heap.size) (blk_old (blk_new rfl))
    have B2 := keepH hb1 (g := w.heap.size + 1) (blk_new (by simp))
    have cB1 := cellH B1
    have cB2 := cellH B2
    go_wp2_with fail
    go_ret
    exact ⟨rfl, hw1⟩
  | true =>
    cases ha : (k == k') with
    | false =>
      have e1 : x = false := by rw [← hx]; unfold valB; simp [ha]
      subst e1
      clear hx
      go_enter Tryd.func38, Tryd.ntmps38
      go_wp2_with fail
      refine (HS.out _ (by (repeat' (first | with_reducible exact Below.refl _ _ | with_reducible assumption | with_reducible refine Below.drew ?_ | with_reducible refine below_drewN ?_ _ | with_reducible refine Below.setCell ?_ ?_ _ | with_reducible refine Below.alloc ?_ ?_ _ | omega | (simp; done) | (simp; omega))))).mono ?_
      rintro e w1 ⟨rfl, hb1⟩
      have hw1 : Below w.heap.size w w1 := stepH (by (repeat' (first | with_reducible exact Below.refl _ _ | with_reducible assumption | with_reducible refine Below.drew ?_ | with_reducible refine below_drewN ?_ _ | with_reducible refine Below.setCell ?_ ?_ _ | with_reducible refine Below.alloc ?_ ?_ _ | omega | (simp; done) | (simp; omega)))) hb1
      have B1 := keepH hb1 (g := w.heap.size) (blk_old (blk_new rfl))
      have B2 := keepH hb1 (g := w.heap.size + 1) (blk_new (by simp))
      have cB1 := cellH B1
      have cB2 := cellH B2
      go_wp2_with fail
      go_ret
      exact ⟨rfl, hw1⟩
    | true =>
      cases hf : same2 n d n' d' with
      | false =>
        have e1 : x = false := by rw [← hx]; unfold valB; simp [ha, hf]
        subst e1
        clear hx
        have HF := Lib.hid hf
        clear hf
        go_enter Tryd.func38, Tryd.ntmps38
        go_wp2_with fail
        refine (HS.out _ (by (repeat' (first | with_reducible exact Below.refl _ _ | with_reducible assumption | with_reducible refine Below.drew ?_ | with_reducible refine below_drewN ?_ _ | with_reducible refine Below.setCell ?_ ?_ _ | with_reducible refine Below.alloc ?_ ?_ _ | omega | (simp; done) | (simp; omega))))).mono ?_
        rintro e w1 ⟨rfl, hb1⟩
        have hw1 : Below w.heap.size w w1 := stepH (by (repeat' (first | with_reducible exact Below.refl _ _ | with_reducible assumption | with_reducible refine Below.drew ?_ | with_reducible refine below_drewN ?_ _ | with_reducible refine Below.setCell ?_ ?_ _ | with_reducible refine Below.alloc ?_ ?_ _ | omega | (simp; done) | (simp; omega)))) hb1
        have B1 := keepH hb1 (g := w.heap.size) (blk_old (blk_new rfl))
        have B2 := keepH hb1 (g := w.heap.size + 1) (blk_new (by simp))
        have cB1 := cellH B1
        have cB2 := cellH B2
        go_wp2_with fail
        refine (frac_same n d n' d' false _ HF.out).mono ?_
        rintro e w2 ⟨rfl, hb2⟩
        have hw2 : Below w.heap.size w w2 := stepH hw1 hb2
        have B1 := keepH hb2 (g := w.heap.size) B1.out
        have B2 := keepH hb2 (g := w.heap.size + 1) B2.out
        have cB1 := cellH B1
        have cB2 := cellH B2
        go_wp2_with fail
        go_ret
        exact ⟨rfl, hw2⟩
      | true =>
        cases hr : (r.toList == r'.toList) with
        | false =>
          have e1 : x = false := by rw [← hx]; unfold valB; simp [ha, hf, hr]
          subst e1
          clear hx
          have HF := Lib.hid hf
          clear hf
          go_enter Tryd.func38, Tryd.ntmps38
          go_wp2_with fail
          refine (HS.out _ (by (repeat' (first | with_reducible exact Below.refl _ _ | with_reducible assumption | with_reducible refine Below.drew ?_ | with_reducible refine below_drewN ?_ _ | with_reducible refine Below.setCell ?_ ?_ _ | with_reducible refine Below.alloc ?_ ?_ _ | omega | (simp; done) | (simp; omega))))).mono ?_
          rintro e w1 ⟨rfl, hb1⟩
          have hw1 : Below w.heap.size w w1 := stepH (by (repeat' (first | with_reducible exact Below.refl _ _ | with_reducible assumption | with_reducible refine Below.drew ?_ | with_reducible refine below_drewN ?_ _ | with_reducible refine Below.setCell ?_ ?_ _ | with_reducible refine Below.alloc ?_ ?_ _ | omega | (simp; done) | (simp; omega)))) hb1
          have B1 := keepH hb1 (g := w.heap.size) (blk_old (blk_new rfl))
          have B2 := keepH hb1 (g := w.heap.size + 1) (blk_new (by simp))
          have cB1 := cellH B1
          have cB2 := cellH B2
          go_wp2_with fail
          refine (frac_same n d n' d' true _ HF.out).mono ?_
          rintro e w2 ⟨rfl, hb2⟩
          have hw2 : Below w.heap.size w w2 := stepH hw1 hb2
          have B1 := keepH hb2 (g := w.heap.size) B1.out
          have B2 := keepH hb2 (g := w.heap.size + 1) B2.out
          have cB1 := cellH B1
          have cB2 := cellH B2
          go_wp2_with fail
          go_ret
          exact ⟨rfl, hw2⟩
        | true =>
          cases hm : (m == m' && same2 un ud un' ud') with
          | false =>
            have e1 : x = false := by rw [← hx]; unfold valB; simp [ha, hf, hr, hm]
            subst e1
            clear hx
            have HF := Lib.hid hf
            clear hf
            have HM := Lib.hid hm
            clear hm
            go_enter Tryd.func38, Tryd.ntmps38
            go_wp2_with fail
            refine (HS.out _ (by (repeat' (first | with_reducible exact Below.refl _ _ | with_reducible assumption | with_reducible refine Below.drew ?_ | with_reducible refine below_drewN ?_ _ | with_reducible refine Below.setCell ?_ ?_ _ | with_reducible refine Below.alloc ?_ ?_ _ | omega | (simp; done) | (simp; omega))))).mono ?_
            rintro e w1 ⟨rfl, hb1⟩
            have hw1 : Below w.heap.size w w1 := stepH (by (repeat' (first | with_reducible exact Below.refl _ _ | with_reducible assumption | with_reducible refine Below.drew ?_ | with_reducible refine below_drewN ?_ _ | with_reducible refine Below.setCell ?_ ?_ _ | with_reducible refine Below.alloc ?_ ?_ _ | omega | (simp; done) | (simp; omega)))) hb1
            have B1 := keepH hb1 (g := w.heap.size) (blk_old (blk_new rfl))
            have B2 := keepH hb1 (g := w.heap.size + 1) (blk_new (by simp))
            have cB1 := cellH B1
            have cB2 := cellH B2
            go_wp2_with fail
            refine (frac_same n d n' d' true _ HF.out).mono ?_
            rintro e w2 ⟨rfl, hb2⟩
            have hw2 : Below w.heap.size w w2 := stepH hw1 hb2
            have B1 := keepH hb2 (g := w.heap.size) B1.out
            have B2 := keepH hb2 (g := w.heap.size + 1) B2.out
            have cB1 := cellH B1
            have cB2 := cellH B2
            go_wp2_with fail
            refine (rounding_same m un ud m' un' ud' false _ HM.out).mono ?_
            rintro e w3 ⟨rfl, hb3⟩
            have hw3 : Below w.heap.size w w3 := stepH hw2 hb3
            have B1 := keepH hb3 (g := w.heap.size) B1.out
            have B2 := keepH hb3 (g := w.heap.size + 1) B2.out
            have cB1 := cellH B1
            have cB2 := cellH B2
            go_wp2_with fail
            go_ret
            exact ⟨rfl, hw3⟩
          | true =>
            have e1 : x = true := by rw [← hx]; unfold valB; simp [ha, hf, hr, hm]
            subst e1
            clear hx
            have HF := Lib.hid hf
            clear hf
            have HM := Lib.hid hm
            clear hm
            go_enter Tryd.func38, Tryd.ntmps38
            go_wp2_with fail
            refine (HS.out _ (by (repeat' (first | with_reducible exact Below.refl _ _ | with_reducible assumption | with_reducible refine Below.drew ?_ | with_reducible refine below_drewN ?_ _ | with_reducible refine Below.setCell ?_ ?_ _ | with_reducible refine Below.alloc ?_ ?_ _ | omega | (simp; done) | (simp; omega))))).mono ?_
            rintro e w1 ⟨rfl, hb1⟩
            have hw1 : Below w.heap.size w w1 := stepH (by (repeat' (first | with_reducible exact Below.refl _ _ | with_reducible assumption | with_reducible refine Below.drew ?_ | with_reducible refine below_drewN ?_ _ | with_reducible refine Below.setCell ?_ ?_ _ | with_reducible refine Below.alloc ?_ ?_ _ | omega | (simp; done) | (simp; omega)))) hb1
            have B1 := keepH hb1 (g := w.heap.size) (blk_old (blk_new rfl))
            have B2 := keepH hb1 (g := w.heap.size + 1) (blk_new (by simp))
            have cB1 := cellH B1
            have cB2 := cellH B2
            go_wp2_with fail
            refine (frac_same n d n' d' true _ HF.out).mono ?_
            rintro e w2 ⟨rfl, hb2⟩
            have hw2 : Below w.heap.size w w2 := stepH hw1 hb2
            have B1 := keepH hb2 (g := w.heap.size) B1.out
            have B2 := keepH hb2 (g := w.heap.size + 1) B2.out
            have cB1 := cellH B1
            have cB2 := cellH B2
            go_wp2_with fail
            refine (rounding_same m un ud m' un' ud' true _ HM.out).mono ?_
            rintro e w3 ⟨rfl, hb3⟩
            have hw3 : Below w.heap.size w w3 := stepH hw2 hb3
            have B1 := keepH hb3 (g := w.heap.size) B1.out
            have B2 := keepH hb3 (g := w.heap.size + 1) B2.out
            have cB1 := cellH B1
            have cB2 := cellH B2
            go_wp2_with fail
            go_ret
            exact ⟨rfl, hw3⟩

/-- two provisions alike (bs: their values) -/
def provB (bs : Bool) (i y : ByteArray) (s t ena ra : Int) (rep i' y' : ByteArray) (s' t' ena' ra' : Int) (rep' : ByteArray) : Bool := bs && (i.toList == i'.toList && (y.toList == y'.toList && (same2 s t s' t' && (ena == ena' && (ra == ra' && rep.toList == rep'.toList)))))

set_option maxRecDepth 10000 in
set_option maxHeartbeats 4000000 in
theorem prov_same (i y : ByteArray) (s t ena ra : Int) (rep : ByteArray) (k n d : Int) (A : Option Addr) (l c : Nat) (r : ByteArray) (m un ud : Int) (i' y' : ByteArray) (s' t' ena' ra' : Int) (rep' : ByteArray) (k' n' d' : Int) (A' : Option Addr) (l' c' : Nat) (r' : ByteArray) (m' un' ud' : Int) (bs x : Bool) (w : World)
    (hs : ∀ W, Below w.heap.size w W → Calls Tryd.prog 38 #[.agg #[.int .i64 k, .int .i64 n, .int .i64 d, .slice A l c, .string r, .int .i64 m, .int .i64 un, .int .i64 ud], .agg #[.int .i64 k', .int .i64 n', .int .i64 d', .slice A' l' c', .string r', .int .i64 m', .int .i64 un', .int .i64 ud']] W fun e w' => e = .returned (.bool bs) ∧ Below W.heap.size W w')
    (hx : provB bs i y s t ena ra rep i' y' s' t' ena' ra' rep' = x) :
    Calls Tryd.prog 23 #[.agg #[.string i, .string y, .int .i64 s, .int .i64 t, .int .i64 ena, .int .i64 ra, .string rep, .int .i64 k, .int .i64 n, .int .i64 d, .slice A l c, .string r, .int .i64 m, .int .i64 un, .int .i64 ud], .agg #[.string i', .string y', .int .i64 s', .int .i64 t', .int .i64 ena', .int .i64 ra', .string rep', .int .i64 k', .int .i64 n', .int .i64 d', .slice A' l' c', .string r', .int .i64 m', .int .i64 un', .int .i64 ud']] w fun e w' => e = .returned (.bool x) ∧ Below w.heap.size w w' := by
  have HS := Lib.hid hs
  clear hs
  cases bs with
  | false =>
    have e1 : x = false := by rw [← hx]; unfold provB; simp
    subst e1
    clear hx
    go_enter Tryd.func23, Tryd.ntmps23
    go_wp2_with fail
    refine (HS.out _ (by (repeat' (first | with_reducible exact Below.refl _ _ | with_reducible assumption | with_reducible refine Below.drew ?_ | with_reducible refine below_drewN ?_ _ | with_reducible refine Below.setCell ?_ ?_ _ | with_reducible refine Below.alloc ?_ ?_ _ | omega | (simp; done) | (simp; omega))))).mono ?_
    rintro e w1 ⟨rfl, hb1⟩
    have hw1 : Below w.heap.size w w1 := stepH (by (repeat' (first | with_reducible exact Below.refl _ _ | with_reducible assumption | with_reducible refine Below.drew ?_ | with_reducible refine below_drewN ?_ _ | with_reducible refine Below.setCell ?_ ?_ _ | with_reducible refine Below.alloc ?_ ?_ _ | omega | (simp; done) | (simp; omega)))) hb1
    have B1 := keepH hb1 (g := w.heap.size) (blk_old (blk_new rfl))
    have B2 := keepH hb1 (g := w.heap.size + 1) (blk_new (by simp))
    have cB1 := cellH B1
    have cB2 := cellH B2
    go_wp2_with fail
    go_ret
    exact ⟨rfl, hw1⟩
  | true =>
    cases h1 : (i.toList == i'.toList) with
    | false =>
      have e1 : x = false := by rw [← hx]; unfold provB; simp [h1]
      subst e1
      clear hx
      go_enter Tryd.func23, Tryd.ntmps23
      go_wp2_with fail
      refine (HS.out _ (by (repeat' (first | with_reducible exact Below.refl _ _ | with_reducible assumption | with_reducible refine Below.drew ?_ | with_reducible refine below_drewN ?_ _ | with_reducible refine Below.setCell ?_ ?_ _ | with_reducible refine Below.alloc ?_ ?_ _ | omega | (simp; done) | (simp; omega))))).mono ?_
      rintro e w1 ⟨rfl, hb1⟩
      have hw1 : Below w.heap.size w w1 := stepH (by (repeat' (first | with_reducible exact Below.refl _ _ | with_reducible assumption | with_reducible refine Below.drew ?_ | with_reducible refine below_drewN ?_ _ | with_reducible refine Below.setCell ?_ ?_ _ | with_reducible refine Below.alloc ?_ ?_ _ | omega | (simp; done) | (simp; omega)))) hb1
      have B1 := keepH hb1 (g := w.heap.size) (blk_old (blk_new rfl))
      have B2 := keepH hb1 (g := w.heap.size + 1) (blk_new (by simp))
      have cB1 := cellH B1
      have cB2 := cellH B2
      go_wp2_with fail
      go_ret
      exact ⟨rfl, hw1⟩
    | true =>
      cases h2 : (y.toList == y'.toList) with
      | false =>
        have e1 : x = false := by rw [← hx]; unfold provB; simp [h1, h2]
        subst e1
        clear hx
        go_enter Tryd.func23, Tryd.ntmps23
        go_wp2_with fail
        refine (HS.out _ (by (repeat' (first | with_reducible exact Below.refl _ _ | with_reducible assumption | with_reducible refine Below.drew ?_ | with_reducible refine below_drewN ?_ _ | with_reducible refine Below.setCell ?_ ?_ _ | with_reducible refine Below.alloc ?_ ?_ _ | omega | (simp; done) | (simp; omega))))).mono ?_
        rintro e w1 ⟨rfl, hb1⟩
        have hw1 : Below w.heap.size w w1 := stepH (by (repeat' (first | with_reducible exact Below.refl _ _ | with_reducible assumption | with_reducible refine Below.drew ?_ | with_reducible refine below_drewN ?_ _ | with_reducible refine Below.setCell ?_ ?_ _ | with_reducible refine Below.alloc ?_ ?_ _ | omega | (simp; done) | (simp; omega)))) hb1
        have B1 := keepH hb1 (g := w.heap.size) (blk_old (blk_new rfl))
        have B2 := keepH hb1 (g := w.heap.size + 1) (blk_new (by simp))
        have cB1 := cellH B1
        have cB2 := cellH B2
        go_wp2_with fail
        go_ret
        exact ⟨rfl, hw1⟩
      | true =>
        cases h3 : same2 s t s' t' with
        | false =>
          have e1 : x = false := by rw [← hx]; unfold provB; simp [h1, h2, h3]
          subst e1
          clear hx
          have H3 := Lib.hid h3
          clear h3
          go_enter Tryd.func23, Tryd.ntmps23
          go_wp2_with fail
          refine (HS.out _ (by (repeat' (first | with_reducible exact Below.refl _ _ | with_reducible assumption | with_reducible refine Below.drew ?_ | with_reducible refine below_drewN ?_ _ | with_reducible refine Below.setCell ?_ ?_ _ | with_reducible refine Below.alloc ?_ ?_ _ | omega | (simp; done) | (simp; omega))))).mono ?_
          rintro e w1 ⟨rfl, hb1⟩
          have hw1 : Below w.heap.size w w1 := stepH (by (repeat' (first | with_reducible exact Below.refl _ _ | with_reducible assumption | with_reducible refine Below.drew ?_ | with_reducible refine below_drewN ?_ _ | with_reducible refine Below.setCell ?_ ?_ _ | with_reducible refine Below.alloc ?_ ?_ _ | omega | (simp; done) | (simp; omega)))) hb1
          have B1 := keepH hb1 (g := w.heap.size) (blk_old (blk_new rfl))
          have B2 := keepH hb1 (g := w.heap.size + 1) (blk_new (by simp))
          have cB1 := cellH B1
          have cB2 := cellH B2
          go_wp2_with fail
          refine (span_same s t s' t' false _ H3.out).mono ?_
          rintro e w2 ⟨rfl, hb2⟩
          have hw2 : Below w.heap.size w w2 := stepH hw1 hb2
          have B1 := keepH hb2 (g := w.heap.size) B1.out
          have B2 := keepH hb2 (g := w.heap.size + 1) B2.out
          have cB1 := cellH B1
          have cB2 := cellH B2
          go_wp2_with fail
          go_ret
          exact ⟨rfl, hw2⟩
        | true =>
          cases h4 : (ena == ena') with
          | false =>
            have e1 : x = false := by rw [← hx]; unfold provB; simp [h1, h2, h3, h4]
            subst e1
            clear hx
            have H3 := Lib.hid h3
            clear h3
            go_enter Tryd.func23, Tryd.ntmps23
            go_wp2_with fail
            refine (HS.out _ (by (repeat' (first | with_reducible exact Below.refl _ _ | with_reducible assumption | with_reducible refine Below.drew ?_ | with_reducible refine below_drewN ?_ _ | with_reducible refine Below.setCell ?_ ?_ _ | with_reducible refine Below.alloc ?_ ?_ _ | omega | (simp; done) | (simp; omega))))).mono ?_
            rintro e w1 ⟨rfl, hb1⟩
            have hw1 : Below w.heap.size w w1 := stepH (by (repeat' (first | with_reducible exact Below.refl _ _ | with_reducible assumption | with_reducible refine Below.drew ?_ | with_reducible refine below_drewN ?_ _ | with_reducible refine Below.setCell ?_ ?_ _ | with_reducible refine Below.alloc ?_ ?_ _ | omega | (simp; done) | (simp; omega)))) hb1
            have B1 := keepH hb1 (g := w.heap.size) (blk_old (blk_new rfl))
            have B2 := keepH hb1 (g := w.heap.size + 1) (blk_new (by simp))
            have cB1 := cellH B1
            have cB2 := cellH B2
            go_wp2_with fail
            refine (span_same s t s' t' true _ H3.out).mono ?_
            rintro e w2 ⟨rfl, hb2⟩
            have hw2 : Below w.heap.size w w2 := stepH hw1 hb2
            have B1 := keepH hb2 (g := w.heap.size) B1.out
            have B2 := keepH hb2 (g := w.heap.size + 1) B2.out
            have cB1 := cellH B1
            have cB2 := cellH B2
            go_wp2_with fail
            go_ret
            exact ⟨rfl, hw2⟩
          | true =>
            cases h5 : (ra == ra') with
            | false =>
              have e1 : x = false := by rw [← hx]; unfold provB; simp [h1, h2, h3, h4, h5]
              subst e1
              clear hx
              have H3 := Lib.hid h3
              clear h3
              go_enter Tryd.func23, Tryd.ntmps23
              go_wp2_with fail
              refine (HS.out _ (by (repeat' (first | with_reducible exact Below.refl _ _ | with_reducible assumption | with_reducible refine Below.drew ?_ | with_reducible refine below_drewN ?_ _ | with_reducible refine Below.setCell ?_ ?_ _ | with_reducible refine Below.alloc ?_ ?_ _ | omega | (simp; done) | (simp; omega))))).mono ?_
              rintro e w1 ⟨rfl, hb1⟩
              have hw1 : Below w.heap.size w w1 := stepH (by (repeat' (first | with_reducible exact Below.refl _ _ | with_reducible assumption | with_reducible refine Below.drew ?_ | with_reducible refine below_drewN ?_ _ | with_reducible refine Below.setCell ?_ ?_ _ | with_reducible refine Below.alloc ?_ ?_ _ | omega | (simp; done) | (simp; omega)))) hb1
              have B1 := keepH hb1 (g := w.heap.size) (blk_old (blk_new rfl))
              have B2 := keepH hb1 (g := w.heap.size + 1) (blk_new (by simp))
              have cB1 := cellH B1
              have cB2 := cellH B2
              go_wp2_with fail
              refine (span_same s t s' t' true _ H3.out).mono ?_
              rintro e w2 ⟨rfl, hb2⟩
              have hw2 : Below w.heap.size w w2 := stepH hw1 hb2
              have B1 := keepH hb2 (g := w.heap.size) B1.out
              have B2 := keepH hb2 (g := w.heap.size + 1) B2.out
              have cB1 := cellH B1
              have cB2 := cellH B2
              go_wp2_with fail
              go_ret
              exact ⟨rfl, hw2⟩
            | true =>
              cases h6 : (rep.toList == rep'.toList) with
              | false =>
                have e1 : x = false := by rw [← hx]; unfold provB; simp [h1, h2, h3, h4, h5, h6]
                subst e1
                clear hx
                have H3 := Lib.hid h3
                clear h3
                go_enter Tryd.func23, Tryd.ntmps23
                go_wp2_with fail
                refine (HS.out _ (by (repeat' (first | with_reducible exact Below.refl _ _ | with_reducible assumption | with_reducible refine Below.drew ?_ | with_reducible refine below_drewN ?_ _ | with_reducible refine Below.setCell ?_ ?_ _ | with_reducible refine Below.alloc ?_ ?_ _ | omega | (simp; done) | (simp; omega))))).mono ?_
                rintro e w1 ⟨rfl, hb1⟩
                have hw1 : Below w.heap.size w w1 := stepH (by (repeat' (first | with_reducible exact Below.refl _ _ | with_reducible assumption | with_reducible refine Below.drew ?_ | with_reducible refine below_drewN ?_ _ | with_reducible refine Below.setCell ?_ ?_ _ | with_reducible refine Below.alloc ?_ ?_ _ | omega | (simp; done) | (simp; omega)))) hb1
                have B1 := keepH hb1 (g := w.heap.size) (blk_old (blk_new rfl))
                have B2 := keepH hb1 (g := w.heap.size + 1) (blk_new (by simp))
                have cB1 := cellH B1
                have cB2 := cellH B2
                go_wp2_with fail
                refine (span_same s t s' t' true _ H3.out).mono ?_
                rintro e w2 ⟨rfl, hb2⟩
                have hw2 : Below w.heap.size w w2 := stepH hw1 hb2
                have B1 := keepH hb2 (g := w.heap.size) B1.out
                have B2 := keepH hb2 (g := w.heap.size + 1) B2.out
                have cB1 := cellH B1
                have cB2 := cellH B2
                go_wp2_with fail
                go_ret
                exact ⟨rfl, hw2⟩
              | true =>
                have e1 : x = true := by rw [← hx]; unfold provB; simp [h1, h2, h3, h4, h5, h6]
                subst e1
                clear hx
                have H3 := Lib.hid h3
                clear h3
                go_enter Tryd.func23, Tryd.ntmps23
                go_wp2_with fail
                refine (HS.out _ (by (repeat' (first | with_reducible exact Below.refl _ _ | with_reducible assumption | with_reducible refine Below.drew ?_ | with_reducible refine below_drewN ?_ _ | with_reducible refine Below.setCell ?_ ?_ _ | with_reducible refine Below.alloc ?_ ?_ _ | omega | (simp; done) | (simp; omega))))).mono ?_
                rintro e w1 ⟨rfl, hb1⟩
                have hw1 : Below w.heap.size w w1 := stepH (by (repeat' (first | with_reducible exact Below.refl _ _ | with_reducible assumption | with_reducible refine Below.drew ?_ | with_reducible refine below_drewN ?_ _ | with_reducible refine Below.setCell ?_ ?_ _ | with_reducible refine Below.alloc ?_ ?_ _ | omega | (simp; done) | (simp; omega)))) hb1
                have B1 := keepH hb1 (g := w.heap.size) (blk_old (blk_new rfl))
                have B2 := keepH hb1 (g := w.heap.size + 1) (blk_new (by simp))
                have cB1 := cellH B1
                have cB2 := cellH B2
                go_wp2_with fail
                refine (span_same s t s' t' true _ H3.out).mono ?_
                rintro e w2 ⟨rfl, hb2⟩
                have hw2 : Below w.heap.size w w2 := stepH hw1 hb2
                have B1 := keepH hb2 (g := w.heap.size) B1.out
                have B2 := keepH hb2 (g := w.heap.size + 1) B2.out
                have cB1 := cellH B1
                have cB2 := cellH B2
                go_wp2_with fail
                go_ret
                exact ⟨rfl, hw2⟩
end Go.Proofs.YtngckppnaflciaaDoor
