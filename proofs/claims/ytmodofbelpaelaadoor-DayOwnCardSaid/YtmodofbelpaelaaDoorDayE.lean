/- The chapter's examples (first): walk. -/
import Derived.Test.YtmodofbelpaelaaDoorDayD
import Derived.Test.YtmodofbelpaelaaDoorCalC
namespace Go.Proofs.YtmodofbelpaelaaDoor
open Go.RowKit

theorem row_block {w : World} {g : Nat} {cs : Array Value} {e : TypeId} {l : List (Pc Unit)} (hb : w.heap[g]? = some (.cells cs e (0, 0))) (hc : cs.toList = l.flatMap encU) : RowAt encU 2 w w.heap.size (some ⟨g, 0, none⟩) l := by
  intro k x hx
  refine ⟨g, 0, rfl, (Array.getElem?_eq_some_iff.1 hb).1, fun j u hj => ?_⟩
  have h := flat_at (l := l) (enc := encU) (size := 2) (fun x _ => encU_len x) hx hj
  rw [← hc] at h
  rw [Nat.zero_add, cell_of_row w g _ cs e (0, 0) hb, ← h]
  simp

/-- the example's spans -/
def exIn : List (Pc Unit) := [⟨5, 9, ()⟩, ⟨0, 2, ()⟩, ⟨8, 12, ()⟩]
def exOut : List (Pc Unit) := [⟨0, 2, ()⟩, ⟨5, 12, ()⟩]
theorem ex_set : SetOf MD exIn exOut := by
  refine ⟨⟨by simp [exOut, Rise], by simp [exOut, Apart], fun p hp => ?_⟩, fun n => ?_, by decide⟩
  · simp [exOut] at hp
    rcases hp with rfl | rfl <;> decide
  · simp only [exIn, exOut, hasD_cons]
    have : ∀ n, ¬ hasD ([] : List (Pc Unit)) n := fun n => hasD_nil
    simp only [this, or_false]
    omega
theorem date_ex1 : DateIs 730485 2001 0 1 := ⟨by decide, by decide, by decide, by decide⟩
theorem date_ex2 : DateIs 730484 2000 11 31 := ⟨by decide, by decide, by decide, by decide⟩
theorem dateS_ex : dateS 2001 0 1 = [50, 48, 48, 49, 45, 48, 49, 45, 48, 49] := by
  have e1 : Lib.itoa 2001 = [50, 48, 48, 49] := by rw [show (2001 : Int) = ((2001 : Nat) : Int) from rfl, Lib.itoa_nonneg]; simp [Lib.decDigits]
  have e2 : Lib.itoa 1 = [49] := by rw [show (1 : Int) = ((1 : Nat) : Int) from rfl, Lib.itoa_nonneg]; simp [Lib.decDigits]
  unfold dateS
  rw [show ((0 : Nat) : Int) + 1 = 1 from rfl, e1, e2]
  rfl

set_option maxRecDepth 100000 in
set_option maxHeartbeats 16000000 in
theorem first3_any (w : World) (hT : Tabs w) : Calls Tryd.prog 44 #[] w fun e w' => e = .returned (.bool true) ∧ Below w.heap.size w w' := by
  have HT := Lib.hid (fun (w' : World) (hb : Below w.heap.size w w') => hT.below hb)
  have HO := Lib.hid (of_ok 730485 2001 1 0 w date_ex1 hT)
  have HD := Lib.hid (fun (w' : World) (hb : Below w.heap.size w w') => (date_ok 730484 w' (by decide) (by decide) (hT.below hb)).mono (fun e w2 h => (by
    obtain ⟨⟨y, d, k, he, hd⟩, hb2⟩ := h
    obtain ⟨e1, e2, e3⟩ := hd.uniq date_ex2
    subst e1 e2 e3
    exact ⟨he, hb2⟩ : e = .returned (.tuple #[.int .i64 2000, .int .i64 12, .int .i64 31, .nilIface]) ∧ Below w'.heap.size w' w2)))
  have HP := Lib.hid (fun (w' : World) (hb : Below w.heap.size w w') => (print_ok 730485 w' (by decide) (by decide) (hT.below hb)).mono (fun e w2 h => (by
    obtain ⟨⟨y, d, k, he, hd⟩, hb2⟩ := h
    obtain ⟨e1, e2, e3⟩ := hd.uniq date_ex1
    subst e1 e2 e3
    rw [dateS_ex] at he
    exact ⟨he, hb2⟩ : e = .returned (.tuple #[.string ⟨#[50, 48, 48, 49, 45, 48, 49, 45, 48, 49]⟩, .nilIface]) ∧ Below w'.heap.size w' w2)))
  clear hT
  go_enter Tryd.func44, Tryd.ntmps44
  go_wp2_with fail
  refine HO.out.mono ?_
  rintro e w1 ⟨rfl, hw1⟩
  go_wp2_with fail
  refine (HD.out w1 hw1).mono ?_
  rintro e w2 ⟨rfl, hb⟩
  have hw2 : Below w.heap.size w w2 := stepH hw1 hb
  clear hb
  go_wp2_with fail
  refine (HP.out w2 hw2).mono ?_
  rintro e w3 ⟨rfl, hb⟩
  have hw3 : Below w.heap.size w w3 := stepH hw2 hb
  have z3 := hw3.size
  clear hb
  go_wp2_with fail
  refine (makeS_ok exIn (some ⟨w3.heap.size, 0, none⟩) 3 _ (row_block (blk_new rfl) rfl) (by decide) (fun p hp => by simp [exIn] at hp; rcases hp with rfl | rfl | rfl <;> exact ⟨by decide, by decide, by decide⟩)).mono ?_
  rintro e w4 ⟨⟨A4, c4, r4, rfl, hrow4, hA4, hset4⟩, hb⟩
  obtain rfl := hset4.uniq ex_set
  have hw4 : Below w.heap.size w w4 := stepH (by (repeat' (first | with_reducible exact Below.refl _ _ | with_reducible assumption | with_reducible refine Below.drew ?_ | with_reducible refine below_drewN ?_ _ | with_reducible refine Below.setCell ?_ ?_ _ | with_reducible refine Below.alloc ?_ ?_ _ | omega | (simp; done) | (simp; omega)))) hb
  have z4 := hw4.size
  have HR4 := Lib.hid hrow4
  clear hb hrow4 hset4
  go_wp2_with fail
  have SB : Hid ((w4.alloc (.cells #[.slice A4 exOut.length c4] 67)).heap[w4.heap.size]? = some (.cells #[.slice A4 exOut.length c4] 67 (0, 0))) := blk_new rfl
  refine (nextS_any exOut A4 c4 2 _ ((HR4.out.below (by (repeat' (first | with_reducible exact Below.refl _ _ | with_reducible assumption | with_reducible refine Below.drew ?_ | with_reducible refine below_drewN ?_ _ | with_reducible refine Below.setCell ?_ ?_ _ | with_reducible refine Below.alloc ?_ ?_ _ | omega | (simp; done) | (simp; omega)))) (Nat.le_refl _)).more (by simp)) (by decide)).mono ?_
  rintro e w5 ⟨rfl, hb⟩
  have hw5 : Below w.heap.size w w5 := stepH (by (repeat' (first | with_reducible exact Below.refl _ _ | with_reducible assumption | with_reducible refine Below.drew ?_ | with_reducible refine below_drewN ?_ _ | with_reducible refine Below.setCell ?_ ?_ _ | with_reducible refine Below.alloc ?_ ?_ _ | omega | (simp; done) | (simp; omega)))) hb
  have hv5 : Below w4.heap.size w4 w5 := stepH (by (repeat' (first | with_reducible exact Below.refl _ _ | with_reducible assumption | with_reducible refine Below.drew ?_ | with_reducible refine below_drewN ?_ _ | with_reducible refine Below.setCell ?_ ?_ _ | with_reducible refine Below.alloc ?_ ?_ _ | omega | (simp; done) | (simp; omega)))) hb
  replace SB := keepH hb SB.out
  have cSB := cellH SB
  have z5 := hv5.size
  clear hb
  go_wp2_with fail
  refine (spansD_any exOut A4 c4 _ ((HR4.out.below hv5 (Nat.le_refl _)).more z5) (by decide) hA4).mono ?_
  rintro e w6 ⟨v, rfl, hown, hb⟩
  obtain ⟨A7, c7, rfl, hr7, _, _⟩ := own_line (fun x _ => encU_len x) hown
  have hw6 : Below w.heap.size w w6 := stepH hw5 hb
  have hv6 : Below w4.heap.size w4 w6 := stepH hv5 hb
  replace SB := keepH hb SB.out
  have cSB := cellH SB
  have z6 := hv6.size
  have HR7 := Lib.hid hr7
  clear hb hown hr7
  go_wp2_with fail
  refine (sameSpans_yes exOut 2 A7 (some ⟨w6.heap.size, 0, none⟩) c7 2 _ rfl ((HR7.out.below (by (repeat' (first | with_reducible exact Below.refl _ _ | with_reducible assumption | with_reducible refine Below.drew ?_ | with_reducible refine below_drewN ?_ _ | with_reducible refine Below.setCell ?_ ?_ _ | with_reducible refine Below.alloc ?_ ?_ _ | omega | (simp; done) | (simp; omega)))) (Nat.le_refl _)).more (by simp)) (row_block (blk_new rfl) rfl) (by decide)).mono ?_
  rintro e w7 ⟨rfl, hb⟩
  have hw7 : Below w.heap.size w w7 := stepH (by (repeat' (first | with_reducible exact Below.refl _ _ | with_reducible assumption | with_reducible refine Below.drew ?_ | with_reducible refine below_drewN ?_ _ | with_reducible refine Below.setCell ?_ ?_ _ | with_reducible refine Below.alloc ?_ ?_ _ | omega | (simp; done) | (simp; omega)))) hb
  have hv7 : Below w4.heap.size w4 w7 := stepH (by (repeat' (first | with_reducible exact Below.refl _ _ | with_reducible assumption | with_reducible refine Below.drew ?_ | with_reducible refine below_drewN ?_ _ | with_reducible refine Below.setCell ?_ ?_ _ | with_reducible refine Below.alloc ?_ ?_ _ | omega | (simp; done) | (simp; omega)))) hb
  replace SB := keepH hb (blk_old SB.out)
  have cSB := cellH SB
  have z7 := hv7.size
  clear hb
  go_wp2_with fail
  refine (lenS_any exOut A4 c4 _ ((HR4.out.below hv7 (Nat.le_refl _)).more z7) (by decide) ex_set.canon).mono ?_
  rintro e w8 ⟨rfl, hb⟩
  have hw8 : Below w.heap.size w w8 := stepH hw7 hb
  clear hb
  go_wp2_with fail
  go_ret
  exact ⟨rfl, hw8⟩

end Go.Proofs.YtmodofbelpaelaaDoor
