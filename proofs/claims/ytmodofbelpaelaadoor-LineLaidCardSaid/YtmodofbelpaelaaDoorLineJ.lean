/- The example of chapter 6: walk. -/
import Derived.Test.YtmodofbelpaelaaDoorLineI
namespace Go.Proofs.YtmodofbelpaelaaDoor
open Go.RowKit

theorem rowBlkL {α : Type} {enc : α → List Value} {size : Nat} {w : World} {l : List α} {g : Nat} {cs : Array Value} {t : TypeId} (hs : ∀ x ∈ l, (enc x).length = size) (h : w.heap[g]? = some (.cells cs t (0, 0))) (hc : cs = (l.flatMap enc).toArray) : RowAt enc size w w.heap.size (some ⟨g, 0, none⟩) l := by
  intro k x hx
  refine ⟨g, 0, rfl, (Array.getElem?_eq_some_iff.1 h).1, fun j u hj => ?_⟩
  have hf := flat_at hs hx hj
  rw [Nat.zero_add, cellH h, hc, ← hf]
  simp

def exP : List (Pc Int) := [⟨0, 10, 1⟩, ⟨3, 5, 2⟩, ⟨20, 30, 1⟩]
def exPr : List (Pc Int) := [⟨0, 3, 1⟩, ⟨3, 5, 2⟩, ⟨5, 10, 1⟩, ⟨20, 30, 1⟩]
theorem exP_made : Made MD exP exPr := by
  refine ⟨⟨by simp [Rise, exPr], ?_, ?_⟩, fun n => ?_⟩
  · simp [Apart, exPr]
  · intro p hp
    simp only [exPr, List.mem_cons, List.not_mem_nil, or_false] at hp
    rcases hp with rfl | rfl | rfl | rfl <;> (show (_ : Int) ≤ 3652059; decide)
  · simp only [exP, exPr, List.reverse_cons, List.reverse_nil, List.nil_append, List.cons_append, valL]
    repeat' split
    all_goals first | rfl | omega
theorem exP_valid : ∀ p ∈ exP, ValidP MD p := by
  intro p hp
  simp only [exP, List.mem_cons, List.not_mem_nil, or_false] at hp
  rcases hp with rfl | rfl | rfl <;> (refine ⟨?_, ?_, ?_⟩ <;> (first | decide | (show (_ : Int) ≤ 3652059; decide)))

theorem v4 : valL exPr 4 = some 2 := by decide
theorem v10 : valL exPr 10 = none := by decide
theorem n5 : nextL MD exPr 5 = some 10 := by decide
theorem n30 : nextL MD exPr 30 = none := by decide

set_option maxRecDepth 10000 in
set_option maxHeartbeats 4000000 in
theorem first6_any (w : World) : Calls Tryd.prog 26 #[] w fun e w' => e = .returned (.bool true) ∧ Below w.heap.size w w' := by
  go_enter Tryd.func26, Tryd.ntmps26
  go_wp2_with fail
  refine (make6_ok exP (some ⟨w.heap.size, 0, none⟩) 3 _ (rowBlkL (fun x _ => encP_len x) (blk_new (by simp)) rfl) (by decide) exP_valid).mono ?_
  rintro e w1 ⟨⟨A, c, r, rfl, hrow, hA, hmade⟩, hb1⟩
  obtain rfl := hmade.uniq exP_made
  have hw1 : Below w.heap.size w w1 := stepH (by (repeat' (first | with_reducible exact Below.refl _ _ | with_reducible assumption | with_reducible refine Below.drew ?_ | with_reducible refine below_drewN ?_ _ | with_reducible refine Below.setCell ?_ ?_ _ | with_reducible refine Below.alloc ?_ ?_ _ | omega | (simp; done) | (simp; omega)))) hb1
  have z1 := hw1.size
  have HROW := Lib.hid hrow
  have HA := Lib.hid hA
  clear hb1 hrow hA hmade
  go_wp2_with fail
  have l4 : exPr.length = 4 := rfl
  have HAT := Lib.hid (fun (n : Int) (w' : World) (h : Below w1.heap.size w1 w') => At6_any exPr A c n w' ((HROW.out.below h (Nat.le_refl _)).more h.size) (by decide) 0 exP_made.canon.rise)
  have HNX := Lib.hid (fun (n : Int) (w' : World) (h : Below w1.heap.size w1 w') => next6_any exPr A c n w' ((HROW.out.below h (Nat.le_refl _)).more h.size) (by decide))
  have b2 : vB6 (some (2 : Int)) = true := rfl
  have b10 : vB6 (some (10 : Int)) = true := rfl
  have b0 : vB6 none = false := rfl
  have x2 : vN (some (2 : Int)) = 2 := rfl
  have x10 : vN (some (10 : Int)) = 10 := rfl
  have x0 : vN none = 0 := rfl
  refine (HAT.out 4 _ (by (repeat' (first | with_reducible exact Below.refl _ _ | with_reducible assumption | with_reducible refine Below.drew ?_ | with_reducible refine below_drewN ?_ _ | with_reducible refine Below.setCell ?_ ?_ _ | with_reducible refine Below.alloc ?_ ?_ _ | omega | (simp; done) | (simp; omega))))).mono ?_
  rintro e w2 ⟨rfl, hb2⟩
  rw [v4, b2, x2]
  have hw2 : Below w.heap.size w w2 := stepH (by (repeat' (first | with_reducible exact Below.refl _ _ | with_reducible assumption | with_reducible refine Below.drew ?_ | with_reducible refine below_drewN ?_ _ | with_reducible refine Below.setCell ?_ ?_ _ | with_reducible refine Below.alloc ?_ ?_ _ | omega | (simp; done) | (simp; omega)))) hb2
  have hv2 : Below w1.heap.size w1 w2 := stepH (by (repeat' (first | with_reducible exact Below.refl _ _ | with_reducible assumption | with_reducible refine Below.drew ?_ | with_reducible refine below_drewN ?_ _ | with_reducible refine Below.setCell ?_ ?_ _ | with_reducible refine Below.alloc ?_ ?_ _ | omega | (simp; done) | (simp; omega)))) hb2
  have B1 := keepH hb2 (g := w1.heap.size) (blk_new rfl)
  have cB := cellH B1
  clear hb2
  go_wp2_with fail
  refine (HAT.out 10 _ (by (repeat' (first | with_reducible exact Below.refl _ _ | with_reducible assumption | with_reducible refine Below.drew ?_ | with_reducible refine below_drewN ?_ _ | with_reducible refine Below.setCell ?_ ?_ _ | with_reducible refine Below.alloc ?_ ?_ _ | omega | (simp; done) | (simp; omega))))).mono ?_
  rintro e w3 ⟨rfl, hb3⟩
  rw [v10, b0, x0]
  have hw3 : Below w.heap.size w w3 := stepH (by (repeat' (first | with_reducible exact Below.refl _ _ | with_reducible assumption | with_reducible refine Below.drew ?_ | with_reducible refine below_drewN ?_ _ | with_reducible refine Below.setCell ?_ ?_ _ | with_reducible refine Below.alloc ?_ ?_ _ | omega | (simp; done) | (simp; omega)))) hb3
  have hv3 : Below w1.heap.size w1 w3 := stepH (by (repeat' (first | with_reducible exact Below.refl _ _ | with_reducible assumption | with_reducible refine Below.drew ?_ | with_reducible refine below_drewN ?_ _ | with_reducible refine Below.setCell ?_ ?_ _ | with_reducible refine Below.alloc ?_ ?_ _ | omega | (simp; done) | (simp; omega)))) hb3
  replace B1 := keepH hb3 B1.out
  replace cB := cellH B1
  clear hb3
  go_wp2_with fail
  refine (HNX.out 5 _ (by (repeat' (first | with_reducible exact Below.refl _ _ | with_reducible assumption | with_reducible refine Below.drew ?_ | with_reducible refine below_drewN ?_ _ | with_reducible refine Below.setCell ?_ ?_ _ | with_reducible refine Below.alloc ?_ ?_ _ | omega | (simp; done) | (simp; omega))))).mono ?_
  rintro e w4 ⟨rfl, hb4⟩
  rw [n5, b10, x10]
  have hw4 : Below w.heap.size w w4 := stepH (by (repeat' (first | with_reducible exact Below.refl _ _ | with_reducible assumption | with_reducible refine Below.drew ?_ | with_reducible refine below_drewN ?_ _ | with_reducible refine Below.setCell ?_ ?_ _ | with_reducible refine Below.alloc ?_ ?_ _ | omega | (simp; done) | (simp; omega)))) hb4
  have hv4 : Below w1.heap.size w1 w4 := stepH (by (repeat' (first | with_reducible exact Below.refl _ _ | with_reducible assumption | with_reducible refine Below.drew ?_ | with_reducible refine below_drewN ?_ _ | with_reducible refine Below.setCell ?_ ?_ _ | with_reducible refine Below.alloc ?_ ?_ _ | omega | (simp; done) | (simp; omega)))) hb4
  replace B1 := keepH hb4 B1.out
  replace cB := cellH B1
  clear hb4
  go_wp2_with fail
  refine (HNX.out 30 _ (by (repeat' (first | with_reducible exact Below.refl _ _ | with_reducible assumption | with_reducible refine Below.drew ?_ | with_reducible refine below_drewN ?_ _ | with_reducible refine Below.setCell ?_ ?_ _ | with_reducible refine Below.alloc ?_ ?_ _ | omega | (simp; done) | (simp; omega))))).mono ?_
  rintro e w5 ⟨rfl, hb5⟩
  rw [n30, b0, x0]
  have hw5 : Below w.heap.size w w5 := stepH (by (repeat' (first | with_reducible exact Below.refl _ _ | with_reducible assumption | with_reducible refine Below.drew ?_ | with_reducible refine below_drewN ?_ _ | with_reducible refine Below.setCell ?_ ?_ _ | with_reducible refine Below.alloc ?_ ?_ _ | omega | (simp; done) | (simp; omega)))) hb5
  have hv5 : Below w1.heap.size w1 w5 := stepH (by (repeat' (first | with_reducible exact Below.refl _ _ | with_reducible assumption | with_reducible refine Below.drew ?_ | with_reducible refine below_drewN ?_ _ | with_reducible refine Below.setCell ?_ ?_ _ | with_reducible refine Below.alloc ?_ ?_ _ | omega | (simp; done) | (simp; omega)))) hb5
  replace B1 := keepH hb5 B1.out
  replace cB := cellH B1
  clear hb5
  go_wp2_with fail
  refine (pieces6_any exPr A c _ ((HROW.out.below (by (repeat' (first | with_reducible exact Below.refl _ _ | with_reducible assumption | with_reducible refine Below.drew ?_ | with_reducible refine below_drewN ?_ _ | with_reducible refine Below.setCell ?_ ?_ _ | with_reducible refine Below.alloc ?_ ?_ _ | omega | (simp; done) | (simp; omega)))) (Nat.le_refl _)).more (by first | exact hv5.size | (simp; omega))) (by decide) HA.out).mono ?_
  rintro e w6 ⟨v, rfl, hown, hb6⟩
  obtain ⟨A6, c6, rfl, _, _, _⟩ := own_line (fun x _ => encP_len x) hown
  have hw6 : Below w.heap.size w w6 := stepH (by (repeat' (first | with_reducible exact Below.refl _ _ | with_reducible assumption | with_reducible refine Below.drew ?_ | with_reducible refine below_drewN ?_ _ | with_reducible refine Below.setCell ?_ ?_ _ | with_reducible refine Below.alloc ?_ ?_ _ | omega | (simp; done) | (simp; omega)))) hb6
  rw [l4]
  clear hb6 hown
  go_wp2_with fail
  go_ret
  exact ⟨rfl, hw6⟩

end Go.Proofs.YtmodofbelpaelaaDoor
