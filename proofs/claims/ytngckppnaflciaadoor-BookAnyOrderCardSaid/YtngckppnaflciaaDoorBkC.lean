/- prov.none, unused: walks. -/
import Derived.Test.YtngckppnaflciaaDoorBkB
namespace Go.Proofs.YtngckppnaflciaaDoor
open Go.RowKit

/-- what none tells -/
def noneB (n d : Int) : Bool := n == 0 && d == 0
/-- what unused tells -/
def unusedB (k n d : Int) (l : Nat) (r : ByteArray) (mode un ud : Int) : Bool := if (k != 1 && !noneB n d) || (k != 2 && decide (0 < l)) then false else (k == 3 || (r.toList.isEmpty && (mode == 0 && noneB un ud)))

theorem none_any (n d : Int) (w : World) : Calls Tryd.prog 62 #[.agg #[.int .i64 n, .int .i64 d]] w fun e w' => e = .returned (.bool (noneB n d)) ∧ Below w.heap.size w w' := by
  cases ha : (n == 0)
  · go_enter Tryd.func62, Tryd.ntmps62
    go_wp2_with fail
    go_ret
    exact ⟨ret_bool (by unfold noneB; simp [ha]), by (repeat' (first | with_reducible exact Below.refl _ _ | with_reducible assumption | with_reducible refine Below.drew ?_ | with_reducible refine below_drewN ?_ _ | with_reducible refine Below.setCell ?_ ?_ _ | with_reducible refine Below.alloc ?_ ?_ _ | omega | (simp; done) | (simp; omega)))⟩
  · cases hb : (d == 0)
    all_goals
      go_enter Tryd.func62, Tryd.ntmps62
      go_wp2_with fail
      go_ret
      exact ⟨ret_bool (by unfold noneB; simp [ha, hb]), by (repeat' (first | with_reducible exact Below.refl _ _ | with_reducible assumption | with_reducible refine Below.drew ?_ | with_reducible refine below_drewN ?_ _ | with_reducible refine Below.setCell ?_ ?_ _ | with_reducible refine Below.alloc ?_ ?_ _ | omega | (simp; done) | (simp; omega)))⟩

theorem none_is (n d : Int) (b : Bool) (w : World) (h : noneB n d = b) : Calls Tryd.prog 62 #[.agg #[.int .i64 n, .int .i64 d]] w fun e w' => e = .returned (.bool b) ∧ Below w.heap.size w w' := by
  subst h; exact none_any n d w

set_option maxRecDepth 10000 in
set_option maxHeartbeats 4000000 in
theorem unused_one (n d : Int) (A : Option Addr) (l c : Nat) (r : ByteArray) (mode un ud : Int) (b : Bool) (w : World)  (hb : unusedB 1 n d l r mode un ud = b) :
    Calls Tryd.prog 47 #[.agg #[.int .i64 1, .int .i64 n, .int .i64 d, .slice A l c, .string r, .int .i64 mode, .int .i64 un, .int .i64 ud]] w fun e w' => e = .returned (.bool b) ∧ Below w.heap.size w w' := by
  by_cases hl : 0 < l
  · have e1 : b = false := by rw [← hb]; unfold unusedB; simp [hl, bne]
    subst e1
    clear hb
    go_enter Tryd.func47, Tryd.ntmps47
    go_wp2_with fail
    go_ret
    exact ⟨rfl, (by (repeat' (first | with_reducible exact Below.refl _ _ | with_reducible assumption | with_reducible refine Below.drew ?_ | with_reducible refine below_drewN ?_ _ | with_reducible refine Below.setCell ?_ ?_ _ | with_reducible refine Below.alloc ?_ ?_ _ | omega | (simp; done) | (simp; omega))))⟩
  · cases hr : r.toList.isEmpty with
    | false =>
      have e1 : b = false := by rw [← hb]; unfold unusedB; simp [hl, bne, hr]
      subst e1
      clear hb
      go_enter Tryd.func47, Tryd.ntmps47
      go_wp2_with fail
      go_ret
      exact ⟨rfl, (by (repeat' (first | with_reducible exact Below.refl _ _ | with_reducible assumption | with_reducible refine Below.drew ?_ | with_reducible refine below_drewN ?_ _ | with_reducible refine Below.setCell ?_ ?_ _ | with_reducible refine Below.alloc ?_ ?_ _ | omega | (simp; done) | (simp; omega))))⟩
    | true =>
      cases hm : (mode == 0) with
      | false =>
        have e1 : b = false := by rw [← hb]; unfold unusedB; simp [hl, bne, hr, hm]
        subst e1
        clear hb
        go_enter Tryd.func47, Tryd.ntmps47
        go_wp2_with fail
        go_ret
        exact ⟨rfl, (by (repeat' (first | with_reducible exact Below.refl _ _ | with_reducible assumption | with_reducible refine Below.drew ?_ | with_reducible refine below_drewN ?_ _ | with_reducible refine Below.setCell ?_ ?_ _ | with_reducible refine Below.alloc ?_ ?_ _ | omega | (simp; done) | (simp; omega))))⟩
      | true =>
        have e1 : noneB un ud = b := by rw [← hb]; unfold unusedB; simp [hl, bne, hr, hm]
        have HU := Lib.hid e1
        clear e1 hb
        go_enter Tryd.func47, Tryd.ntmps47
        go_wp2_with fail
        refine (none_is un ud b _ HU.out).mono ?_
        rintro e w9 ⟨rfl, hb9⟩
        have h9 : Below w.heap.size w w9 := stepH (by (repeat' (first | with_reducible exact Below.refl _ _ | with_reducible assumption | with_reducible refine Below.drew ?_ | with_reducible refine below_drewN ?_ _ | with_reducible refine Below.setCell ?_ ?_ _ | with_reducible refine Below.alloc ?_ ?_ _ | omega | (simp; done) | (simp; omega)))) hb9
        go_wp2_with fail
        go_ret
        exact ⟨rfl, h9⟩

set_option maxRecDepth 10000 in
set_option maxHeartbeats 4000000 in
theorem unused_two (n d : Int) (A : Option Addr) (l c : Nat) (r : ByteArray) (mode un ud : Int) (b : Bool) (w : World)  (hb : unusedB 2 n d l r mode un ud = b) :
    Calls Tryd.prog 47 #[.agg #[.int .i64 2, .int .i64 n, .int .i64 d, .slice A l c, .string r, .int .i64 mode, .int .i64 un, .int .i64 ud]] w fun e w' => e = .returned (.bool b) ∧ Below w.heap.size w w' := by
  cases hn : noneB n d with
  | false =>
    have e1 : b = false := by rw [← hb]; unfold unusedB; simp [hn, bne]
    subst e1
    clear hb
    have HN := Lib.hid hn
    clear hn
    go_enter Tryd.func47, Tryd.ntmps47
    go_wp2_with fail
    refine (none_is n d false _ HN.out).mono ?_
    rintro e w1 ⟨rfl, hb1⟩
    have hw1 : Below w.heap.size w w1 := stepH (by (repeat' (first | with_reducible exact Below.refl _ _ | with_reducible assumption | with_reducible refine Below.drew ?_ | with_reducible refine below_drewN ?_ _ | with_reducible refine Below.setCell ?_ ?_ _ | with_reducible refine Below.alloc ?_ ?_ _ | omega | (simp; done) | (simp; omega)))) hb1
    have B1 := keepH hb1 (g := w.heap.size) (blk_new rfl)
    have cB := cellH B1
    go_wp2_with fail
    go_ret
    exact ⟨rfl, hw1⟩
  | true =>
    cases hr : r.toList.isEmpty with
    | false =>
      have e1 : b = false := by rw [← hb]; unfold unusedB; simp [hn, bne, hr]
      subst e1
      clear hb
      have HN := Lib.hid hn
      clear hn
      go_enter Tryd.func47, Tryd.ntmps47
      go_wp2_with fail
      refine (none_is n d true _ HN.out).mono ?_
      rintro e w1 ⟨rfl, hb1⟩
      have hw1 : Below w.heap.size w w1 := stepH (by (repeat' (first | with_reducible exact Below.refl _ _ | with_reducible assumption | with_reducible refine Below.drew ?_ | with_reducible refine below_drewN ?_ _ | with_reducible refine Below.setCell ?_ ?_ _ | with_reducible refine Below.alloc ?_ ?_ _ | omega | (simp; done) | (simp; omega)))) hb1
      have B1 := keepH hb1 (g := w.heap.size) (blk_new rfl)
      have cB := cellH B1
      go_wp2_with fail
      go_ret
      exact ⟨rfl, hw1⟩
    | true =>
      cases hm : (mode == 0) with
      | false =>
        have e1 : b = false := by rw [← hb]; unfold unusedB; simp [hn, bne, hr, hm]
        subst e1
        clear hb
        have HN := Lib.hid hn
        clear hn
        go_enter Tryd.func47, Tryd.ntmps47
        go_wp2_with fail
        refine (none_is n d true _ HN.out).mono ?_
        rintro e w1 ⟨rfl, hb1⟩
        have hw1 : Below w.heap.size w w1 := stepH (by (repeat' (first | with_reducible exact Below.refl _ _ | with_reducible assumption | with_reducible refine Below.drew ?_ | with_reducible refine below_drewN ?_ _ | with_reducible refine Below.setCell ?_ ?_ _ | with_reducible refine Below.alloc ?_ ?_ _ | omega | (simp; done) | (simp; omega)))) hb1
        have B1 := keepH hb1 (g := w.heap.size) (blk_new rfl)
        have cB := cellH B1
        go_wp2_with fail
        go_ret
        exact ⟨rfl, hw1⟩
      | true =>
        have e1 : noneB un ud = b := by rw [← hb]; unfold unusedB; simp [hn, bne, hr, hm]
        have HU := Lib.hid e1
        clear e1 hb
        have HN := Lib.hid hn
        clear hn
        go_enter Tryd.func47, Tryd.ntmps47
        go_wp2_with fail
        refine (none_is n d true _ HN.out).mono ?_
        rintro e w1 ⟨rfl, hb1⟩
        have hw1 : Below w.heap.size w w1 := stepH (by (repeat' (first | with_reducible exact Below.refl _ _ | with_reducible assumption | with_reducible refine Below.drew ?_ | with_reducible refine below_drewN ?_ _ | with_reducible refine Below.setCell ?_ ?_ _ | with_reducible refine Below.alloc ?_ ?_ _ | omega | (simp; done) | (simp; omega)))) hb1
        have B1 := keepH hb1 (g := w.heap.size) (blk_new rfl)
        have cB := cellH B1
        go_wp2_with fail
        refine (none_is un ud b _ HU.out).mono ?_
        rintro e w9 ⟨rfl, hb9⟩
        have h9 : Below w.heap.size w w9 := stepH hw1 hb9
        go_wp2_with fail
        go_ret
        exact ⟨rfl, h9⟩

set_option maxRecDepth 10000 in
set_option maxHeartbeats 4000000 in
theorem unused_three (n d : Int) (A : Option Addr) (l c : Nat) (r : ByteArray) (mode un ud : Int) (b : Bool) (w : World)  (hb : unusedB 3 n d l r mode un ud = b) :
    Calls Tryd.prog 47 #[.agg #[.int .i64 3, .int .i64 n, .int .i64 d, .slice A l c, .string r, .int .i64 mode, .int .i64 un, .int .i64 ud]] w fun e w' => e = .returned (.bool b) ∧ Below w.heap.size w w' := by
  cases hn : noneB n d with
  | false =>
    have e1 : b = false := by rw [← hb]; unfold unusedB; simp [hn, bne]
    subst e1
    clear hb
    have HN := Lib.hid hn
    clear hn
    go_enter Tryd.func47, Tryd.ntmps47
    go_wp2_with fail
    refine (none_is n d false _ HN.out).mono ?_
    rintro e w1 ⟨rfl, hb1⟩
    have hw1 : Below w.heap.size w w1 := stepH (by (repeat' (first | with_reducible exact Below.refl _ _ | with_reducible assumption | with_reducible refine Below.drew ?_ | with_reducible refine below_drewN ?_ _ | with_reducible refine Below.setCell ?_ ?_ _ | with_reducible refine Below.alloc ?_ ?_ _ | omega | (simp; done) | (simp; omega)))) hb1
    have B1 := keepH hb1 (g := w.heap.size) (blk_new rfl)
    have cB := cellH B1
    go_wp2_with fail
    go_ret
    exact ⟨rfl, hw1⟩
  | true =>
    by_cases hl : 0 < l
    · have e1 : b = false := by rw [← hb]; unfold unusedB; simp [hn, hl, bne]
      subst e1
      clear hb
      have HN := Lib.hid hn
      clear hn
      go_enter Tryd.func47, Tryd.ntmps47
      go_wp2_with fail
      refine (none_is n d true _ HN.out).mono ?_
      rintro e w1 ⟨rfl, hb1⟩
      have hw1 : Below w.heap.size w w1 := stepH (by (repeat' (first | with_reducible exact Below.refl _ _ | with_reducible assumption | with_reducible refine Below.drew ?_ | with_reducible refine below_drewN ?_ _ | with_reducible refine Below.setCell ?_ ?_ _ | with_reducible refine Below.alloc ?_ ?_ _ | omega | (simp; done) | (simp; omega)))) hb1
      have B1 := keepH hb1 (g := w.heap.size) (blk_new rfl)
      have cB := cellH B1
      go_wp2_with fail
      go_ret
      exact ⟨rfl, hw1⟩
    · have e1 : b = true := by rw [← hb]; unfold unusedB; simp [hn, hl, bne]
      subst e1
      clear hb
      have HN := Lib.hid hn
      clear hn
      go_enter Tryd.func47, Tryd.ntmps47
      go_wp2_with fail
      refine (none_is n d true _ HN.out).mono ?_
      rintro e w1 ⟨rfl, hb1⟩
      have hw1 : Below w.heap.size w w1 := stepH (by (repeat' (first | with_reducible exact Below.refl _ _ | with_reducible assumption | with_reducible refine Below.drew ?_ | with_reducible refine below_drewN ?_ _ | with_reducible refine Below.setCell ?_ ?_ _ | with_reducible refine Below.alloc ?_ ?_ _ | omega | (simp; done) | (simp; omega)))) hb1
      have B1 := keepH hb1 (g := w.heap.size) (blk_new rfl)
      have cB := cellH B1
      go_wp2_with fail
      go_ret
      exact ⟨rfl, hw1⟩

set_option maxRecDepth 10000 in
set_option maxHeartbeats 4000000 in
theorem unused_zero (n d : Int) (A : Option Addr) (l c : Nat) (r : ByteArray) (mode un ud : Int) (b : Bool) (w : World)  (hb : unusedB 0 n d l r mode un ud = b) :
    Calls Tryd.prog 47 #[.agg #[.int .i64 0, .int .i64 n, .int .i64 d, .slice A l c, .string r, .int .i64 mode, .int .i64 un, .int .i64 ud]] w fun e w' => e = .returned (.bool b) ∧ Below w.heap.size w w' := by
  cases hn : noneB n d with
  | false =>
    have e1 : b = false := by rw [← hb]; unfold unusedB; simp [hn, bne]
    subst e1
    clear hb
    have HN := Lib.hid hn
    clear hn
    go_enter Tryd.func47, Tryd.ntmps47
    go_wp2_with fail
    refine (none_is n d false _ HN.out).mono ?_
    rintro e w1 ⟨rfl, hb1⟩
    have hw1 : Below w.heap.size w w1 := stepH (by (repeat' (first | with_reducible exact Below.refl _ _ | with_reducible assumption | with_reducible refine Below.drew ?_ | with_reducible refine below_drewN ?_ _ | with_reducible refine Below.setCell ?_ ?_ _ | with_reducible refine Below.alloc ?_ ?_ _ | omega | (simp; done) | (simp; omega)))) hb1
    have B1 := keepH hb1 (g := w.heap.size) (blk_new rfl)
    have cB := cellH B1
    go_wp2_with fail
    go_ret
    exact ⟨rfl, hw1⟩
  | true =>
    by_cases hl : 0 < l
    · have e1 : b = false := by rw [← hb]; unfold unusedB; simp [hn, hl, bne]
      subst e1
      clear hb
      have HN := Lib.hid hn
      clear hn
      go_enter Tryd.func47, Tryd.ntmps47
      go_wp2_with fail
      refine (none_is n d true _ HN.out).mono ?_
      rintro e w1 ⟨rfl, hb1⟩
      have hw1 : Below w.heap.size w w1 := stepH (by (repeat' (first | with_reducible exact Below.refl _ _ | with_reducible assumption | with_reducible refine Below.drew ?_ | with_reducible refine below_drewN ?_ _ | with_reducible refine Below.setCell ?_ ?_ _ | with_reducible refine Below.alloc ?_ ?_ _ | omega | (simp; done) | (simp; omega)))) hb1
      have B1 := keepH hb1 (g := w.heap.size) (blk_new rfl)
      have cB := cellH B1
      go_wp2_with fail
      go_ret
      exact ⟨rfl, hw1⟩
    · cases hr : r.toList.isEmpty with
      | false =>
        have e1 : b = false := by rw [← hb]; unfold unusedB; simp [hn, hl, bne, hr]
        subst e1
        clear hb
        have HN := Lib.hid hn
        clear hn
        go_enter Tryd.func47, Tryd.ntmps47
        go_wp2_with fail
        refine (none_is n d true _ HN.out).mono ?_
        rintro e w1 ⟨rfl, hb1⟩
        have hw1 : Below w.heap.size w w1 := stepH (by (repeat' (first | with_reducible exact Below.refl _ _ | with_reducible assumption | with_reducible refine Below.drew ?_ | with_reducible refine below_drewN ?_ _ | with_reducible refine Below.setCell ?_ ?_ _ | with_reducible refine Below.alloc ?_ ?_ _ | omega | (simp; done) | (simp; omega)))) hb1
        have B1 := keepH hb1 (g := w.heap.size) (blk_new rfl)
        have cB := cellH B1
        go_wp2_with fail
        go_ret
        exact ⟨rfl, hw1⟩
      | true =>
        cases hm : (mode == 0) with
        | false =>
          have e1 : b = false := by rw [← hb]; unfold unusedB; simp [hn, hl, bne, hr, hm]
          subst e1
          clear hb
          have HN := Lib.hid hn
          clear hn
          go_enter Tryd.func47, Tryd.ntmps47
          go_wp2_with fail
          refine (none_is n d true _ HN.out).mono ?_
          rintro e w1 ⟨rfl, hb1⟩
          have hw1 : Below w.heap.size w w1 := stepH (by (repeat' (first | with_reducible exact Below.refl _ _ | with_reducible assumption | with_reducible refine Below.drew ?_ | with_reducible refine below_drewN ?_ _ | with_reducible refine Below.setCell ?_ ?_ _ | with_reducible refine Below.alloc ?_ ?_ _ | omega | (simp; done) | (simp; omega)))) hb1
          have B1 := keepH hb1 (g := w.heap.size) (blk_new rfl)
          have cB := cellH B1
          go_wp2_with fail
          go_ret
          exact ⟨rfl, hw1⟩
        | true =>
          have e1 : noneB un ud = b := by rw [← hb]; unfold unusedB; simp [hn, hl, bne, hr, hm]
          have HU := Lib.hid e1
          clear e1 hb
          have HN := Lib.hid hn
          clear hn
          go_enter Tryd.func47, Tryd.ntmps47
          go_wp2_with fail
          refine (none_is n d true _ HN.out).mono ?_
          rintro e w1 ⟨rfl, hb1⟩
          have hw1 : Below w.heap.size w w1 := stepH (by (repeat' (first | with_reducible exact Below.refl _ _ | with_reducible assumption | with_reducible refine Below.drew ?_ | with_reducible refine below_drewN ?_ _ | with_reducible refine Below.setCell ?_ ?_ _ | with_reducible refine Below.alloc ?_ ?_ _ | omega | (simp; done) | (simp; omega)))) hb1
          have B1 := keepH hb1 (g := w.heap.size) (blk_new rfl)
          have cB := cellH B1
          go_wp2_with fail
          refine (none_is un ud b _ HU.out).mono ?_
          rintro e w9 ⟨rfl, hb9⟩
          have h9 : Below w.heap.size w w9 := stepH hw1 hb9
          go_wp2_with fail
          go_ret
          exact ⟨rfl, h9⟩

theorem unused_any (k n d : Int) (A : Option Addr) (l c : Nat) (r : ByteArray) (mode un ud : Int) (w : World) (h0 : 0 ≤ k) (h3 : k ≤ 3) :
    Calls Tryd.prog 47 #[.agg #[.int .i64 k, .int .i64 n, .int .i64 d, .slice A l c, .string r, .int .i64 mode, .int .i64 un, .int .i64 ud]] w fun e w' => e = .returned (.bool (unusedB k n d l r mode un ud)) ∧ Below w.heap.size w w' := by
  rcases (show k = 0 ∨ k = 1 ∨ k = 2 ∨ k = 3 by omega) with rfl | rfl | rfl | rfl
  · exact unused_zero n d A l c r mode un ud _ w rfl
  · exact unused_one n d A l c r mode un ud _ w rfl
  · exact unused_two n d A l c r mode un ud _ w rfl
  · exact unused_three n d A l c r mode un ud _ w rfl
end Go.Proofs.YtngckppnaflciaaDoor
