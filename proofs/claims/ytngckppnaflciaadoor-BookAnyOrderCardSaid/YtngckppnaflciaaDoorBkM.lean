/- titheref.SameSpan, SameFrac, SameRounding: walks. -/
import Derived.Test.YtngckppnaflciaaDoorBkI
namespace Go.Proofs.YtngckppnaflciaaDoor
open Go.RowKit

/-- two pairs alike -/
def same2 (a b a' b' : Int) : Bool := a == a' && b == b'

theorem span_same (a b a' b' : Int) (x : Bool) (w : World) (hx : same2 a b a' b' = x) :
    Calls Tryd.prog 39 #[.agg #[.int .i64 a, .int .i64 b], .agg #[.int .i64 a', .int .i64 b']] w fun e w' => e = .returned (.bool x) ∧ Below w.heap.size w w' := by
  cases ha : (a == a')
  · have e1 : x = false := by rw [← hx]; unfold same2; simp [ha]
    subst e1
    go_enter Tryd.func39, Tryd.ntmps39
    go_wp2_with fail
    go_ret
    exact ⟨rfl, by (repeat' (first | with_reducible exact Below.refl _ _ | with_reducible assumption | with_reducible refine Below.drew ?_ | with_reducible refine below_drewN ?_ _ | with_reducible refine Below.setCell ?_ ?_ _ | with_reducible refine Below.alloc ?_ ?_ _ | omega | (simp; done) | (simp; omega)))⟩
  · cases hb : (b == b')
    · have e1 : x = false := by rw [← hx]; unfold same2; simp [ha, hb]
      subst e1
      go_enter Tryd.func39, Tryd.ntmps39
      go_wp2_with fail
      go_ret
      exact ⟨rfl, by (repeat' (first | with_reducible exact Below.refl _ _ | with_reducible assumption | with_reducible refine Below.drew ?_ | with_reducible refine below_drewN ?_ _ | with_reducible refine Below.setCell ?_ ?_ _ | with_reducible refine Below.alloc ?_ ?_ _ | omega | (simp; done) | (simp; omega)))⟩
    · have e1 : x = true := by rw [← hx]; unfold same2; simp [ha, hb]
      subst e1
      go_enter Tryd.func39, Tryd.ntmps39
      go_wp2_with fail
      go_ret
      exact ⟨rfl, by (repeat' (first | with_reducible exact Below.refl _ _ | with_reducible assumption | with_reducible refine Below.drew ?_ | with_reducible refine below_drewN ?_ _ | with_reducible refine Below.setCell ?_ ?_ _ | with_reducible refine Below.alloc ?_ ?_ _ | omega | (simp; done) | (simp; omega)))⟩

theorem frac_same (a b a' b' : Int) (x : Bool) (w : World) (hx : same2 a b a' b' = x) :
    Calls Tryd.prog 54 #[.agg #[.int .i64 a, .int .i64 b], .agg #[.int .i64 a', .int .i64 b']] w fun e w' => e = .returned (.bool x) ∧ Below w.heap.size w w' := by
  cases ha : (a == a')
  · have e1 : x = false := by rw [← hx]; unfold same2; simp [ha]
    subst e1
    go_enter Tryd.func54, Tryd.ntmps54
    go_wp2_with fail
    go_ret
    exact ⟨rfl, by (repeat' (first | with_reducible exact Below.refl _ _ | with_reducible assumption | with_reducible refine Below.drew ?_ | with_reducible refine below_drewN ?_ _ | with_reducible refine Below.setCell ?_ ?_ _ | with_reducible refine Below.alloc ?_ ?_ _ | omega | (simp; done) | (simp; omega)))⟩
  · cases hb : (b == b')
    · have e1 : x = false := by rw [← hx]; unfold same2; simp [ha, hb]
      subst e1
      go_enter Tryd.func54, Tryd.ntmps54
      go_wp2_with fail
      go_ret
      exact ⟨rfl, by (repeat' (first | with_reducible exact Below.refl _ _ | with_reducible assumption | with_reducible refine Below.drew ?_ | with_reducible refine below_drewN ?_ _ | with_reducible refine Below.setCell ?_ ?_ _ | with_reducible refine Below.alloc ?_ ?_ _ | omega | (simp; done) | (simp; omega)))⟩
    · have e1 : x = true := by rw [← hx]; unfold same2; simp [ha, hb]
      subst e1
      go_enter Tryd.func54, Tryd.ntmps54
      go_wp2_with fail
      go_ret
      exact ⟨rfl, by (repeat' (first | with_reducible exact Below.refl _ _ | with_reducible assumption | with_reducible refine Below.drew ?_ | with_reducible refine below_drewN ?_ _ | with_reducible refine Below.setCell ?_ ?_ _ | with_reducible refine Below.alloc ?_ ?_ _ | omega | (simp; done) | (simp; omega)))⟩

theorem rounding_same (m a b m' a' b' : Int) (x : Bool) (w : World) (hx : (m == m' && same2 a b a' b') = x) :
    Calls Tryd.prog 55 #[.agg #[.int .i64 m, .int .i64 a, .int .i64 b], .agg #[.int .i64 m', .int .i64 a', .int .i64 b']] w fun e w' => e = .returned (.bool x) ∧ Below w.heap.size w w' := by
  cases ha : (m == m')
  · have e1 : x = false := by rw [← hx]; simp [ha]
    subst e1
    go_enter Tryd.func55, Tryd.ntmps55
    go_wp2_with fail
    go_ret
    exact ⟨rfl, by (repeat' (first | with_reducible exact Below.refl _ _ | with_reducible assumption | with_reducible refine Below.drew ?_ | with_reducible refine below_drewN ?_ _ | with_reducible refine Below.setCell ?_ ?_ _ | with_reducible refine Below.alloc ?_ ?_ _ | omega | (simp; done) | (simp; omega)))⟩
  · have e1 : same2 a b a' b' = x := by rw [← hx]; simp [ha]
    have HU := Lib.hid e1
    clear e1 hx
    go_enter Tryd.func55, Tryd.ntmps55
    go_wp2_with fail
    refine (frac_same a b a' b' x _ HU.out).mono ?_
    rintro e w1 ⟨rfl, hb1⟩
    have hw1 : Below w.heap.size w w1 := stepH (by (repeat' (first | with_reducible exact Below.refl _ _ | with_reducible assumption | with_reducible refine Below.drew ?_ | with_reducible refine below_drewN ?_ _ | with_reducible refine Below.setCell ?_ ?_ _ | with_reducible refine Below.alloc ?_ ?_ _ | omega | (simp; done) | (simp; omega)))) hb1
    go_wp2_with fail
    go_ret
    exact ⟨rfl, hw1⟩
end Go.Proofs.YtngckppnaflciaaDoor
