/- The walk of the chapter's examples (tithelaw16.first): it answers true. -/
import Derived.Test.YtcbglkkmblmbnaaDoorIndexS
import Derived.Test.YtcbglkkmblmbnaaDoorFirst2
namespace Go.Proofs.YtcbglkkmblmbnaaDoor
open Go.RowKit

theorem resN_ok {E : Nat → Addr} {r : Except Nat Int} {n k : Int} {err : Value} (h : ResN E r n err) (hr : r = .ok k) : n = k ∧ err = .nilIface := by subst hr; exact h

theorem resN_err {E : Nat → Addr} {r : Except Nat Int} {n : Int} {g : Nat} {err : Value} (h : ResN E r n err) (hr : r = .error g) : n = 0 ∧ err = .iface 106 (.pointer (some (E g))) := by subst hr; exact h

theorem row2 (w : World) (a b : Int) (t : TypeId) (g : Nat) (h : Hid (w.heap[g]? = some (.cells #[.int .i64 a, .int .i64 b] t (0, 0)))) : RowAt encI 1 w w.heap.size (some ⟨g, 0, none⟩) [a, b] := by
  intro k x hx
  refine ⟨g, 0, rfl, lt_of_H h, fun j u hj => ?_⟩
  have hk : k < 2 := (List.getElem?_eq_some_iff.1 hx).1
  have hj0 : j = 0 := by have := (List.getElem?_eq_some_iff.1 hj).1; simp [encI] at this; omega
  subst hj0
  rw [Nat.zero_add, Nat.mul_one, Nat.add_zero, cellH h k]
  have h3 : k = 0 ∨ k = 1 := by omega
  rcases h3 with rfl | rfl <;> (simp at hx; subst hx; simpa [encI] using hj)

set_option maxHeartbeats 2000000 in
theorem step16_any (a fn fd unit m : Int) (g : Nat) (E : Nat → Addr) (w : World) (hg : Hid (w.heap[g]? = some (.cells #[.int .i64 m] 3 (0, 0)))) (Ba : -9223372036854775808 ≤ a ∧ a ≤ 9223372036854775807) (Bn : -9223372036854775808 ≤ fn ∧ fn ≤ 9223372036854775807) (Bd : -9223372036854775808 ≤ fd ∧ fd ≤ 9223372036854775807)
    (Bu : -9223372036854775808 ≤ unit ∧ unit ≤ 9223372036854775807) (Bm : -9223372036854775808 ≤ m ∧ m ≤ 9223372036854775807) (hE : Env LI E w) :
    Calls Tryd.prog 70 #[.int .i64 a, .agg #[.int .i64 fn, .int .i64 fd], .int .i64 unit, .pointer (some ⟨g, 0, none⟩)] w fun e w' => RetN E (growI a fn fd unit m) e ∧ Below w.heap.size w w' := by
  have HE := Lib.hid hE
  have hlt := lt_of_H hg
  have hne : g ≠ w.heap.size := by omega
  have c0 := cellH hg
  have HC := Lib.hid (fun w' h => grow_any a fn fd unit m E w' Ba Bn Bd Bu Bm h)
  clear hE hg Ba Bn Bd Bu Bm
  go_enter Tryd.func70, Tryd.ntmps70
  go_wp2_with fail
  refine (HC.out _ (HE.out.below (by (repeat' (first | with_reducible exact Below.refl _ _ | with_reducible assumption | with_reducible refine Below.drew ?_ | with_reducible refine below_drewN ?_ _ | with_reducible refine Below.setCell ?_ ?_ _ | with_reducible refine Below.alloc ?_ ?_ _ | omega | (simp; done) | (simp; omega)))))).mono ?_
  rintro e w1 ⟨⟨n, err, rfl, hr⟩, hb1⟩
  have hw1 : Below w.heap.size w w1 := stepH (by (repeat' (first | with_reducible exact Below.refl _ _ | with_reducible assumption | with_reducible refine Below.drew ?_ | with_reducible refine below_drewN ?_ _ | with_reducible refine Below.setCell ?_ ?_ _ | with_reducible refine Below.alloc ?_ ?_ _ | omega | (simp; done) | (simp; omega)))) hb1
  go_wp2_with fail
  go_ret2
  exact ⟨⟨_, _, rfl, hr⟩, hw1⟩

theorem v1 : growI 4000 128 125 50 5 = .ok 4100 := by kernel_rfl
theorem v2 : growI 60000 1061 1024 1000 6 = .ok 62000 := by kernel_rfl
theorem v3 : growI 1 1 2 0 2 = .error 4 := by kernel_rfl
theorem v4 : partI 1050 900 1050 (-1) 4 = .ok 1013 := by kernel_rfl
theorem v5 : throughI 10000 [1000, 1024, 1061] 100 1 = .ok [10200, 10500] := by kernel_rfl
def s3 : List (Rat × Rat) := [(0, mkRat 1 10), (10000, mkRat 3 20), (40000, mkRat 7 25)]
theorem v6 : scaleI [10000, 40000] [1000, 1500, 2800] 10000 = .ok s3 := by kernel_rfl
theorem v7 : growI 7 1 2 1 1 = .ok 3 := by kernel_rfl
theorem s3_cells : (encB ((10000 : Rat), mkRat 3 20))[2]? = some (.int .i64 3) ∧ (encB ((10000 : Rat), mkRat 3 20))[3]? = some (.int .i64 20) := ⟨by kernel_rfl, by kernel_rfl⟩

theorem func_eql (f : Fn) (c : Array Value) (w : World) : (binOp .eql 84 (.func f #[] c) .nilFunc).run Tryd.prog w = .ok (.bool false) w := by kernel_rfl
theorem func_neq (w : World) : (binOp .neq 84 .nilFunc .nilFunc).run Tryd.prog w = .ok (.bool false) w := by kernel_rfl


end Go.Proofs.YtcbglkkmblmbnaaDoor
