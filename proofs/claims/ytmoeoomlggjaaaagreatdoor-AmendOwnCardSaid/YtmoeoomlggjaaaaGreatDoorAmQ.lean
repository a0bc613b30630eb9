/- SameFrac, SameItem: walks. -/
import Derived.Test.YtmoeoomlggjaaaaGreatDoorAmP
namespace Go.Proofs.YtmoeoomlggjaaaaGreatDoor
open Go.RowKit Go.Maps

set_option maxRecDepth 100000 in
set_option maxHeartbeats 2000000 in
theorem sameF_any (a b c d : Int) (w : World) : Calls Tryz.prog 53 #[.agg #[.int .i64 a, .int .i64 b], .agg #[.int .i64 c, .int .i64 d]] w fun e w' => e = .returned (.bool (decide (a = c ∧ b = d))) ∧ Below w.heap.size w w' := by
  by_cases h1 : a = c
  · subst h1
    by_cases h2 : b = d
    · subst h2
      go_enter Tryz.func53, Tryz.ntmps53
      go_wp2_with fail
      go_ret
      exact ⟨by simp, by (repeat' (first | with_reducible exact Below.refl _ _ | with_reducible assumption | with_reducible refine Below.drew ?_ | with_reducible refine below_drewN ?_ _ | with_reducible refine Below.setCell ?_ ?_ _ | with_reducible refine Below.alloc ?_ ?_ _ | omega | (simp; done) | (simp; omega)))⟩
    · have h3 : (b == d) = false := by simpa using h2
      go_enter Tryz.func53, Tryz.ntmps53
      go_wp2_with fail
      go_ret
      first | exact ⟨rfl, by (repeat' (first | with_reducible exact Below.refl _ _ | with_reducible assumption | with_reducible refine Below.drew ?_ | with_reducible refine below_drewN ?_ _ | with_reducible refine Below.setCell ?_ ?_ _ | with_reducible refine Below.alloc ?_ ?_ _ | omega | (simp; done) | (simp; omega)))⟩ | exact ⟨by simp [h2], by (repeat' (first | with_reducible exact Below.refl _ _ | with_reducible assumption | with_reducible refine Below.drew ?_ | with_reducible refine below_drewN ?_ _ | with_reducible refine Below.setCell ?_ ?_ _ | with_reducible refine Below.alloc ?_ ?_ _ | omega | (simp; done) | (simp; omega)))⟩
  · have h3 : (a == c) = false := by simpa using h1
    go_enter Tryz.func53, Tryz.ntmps53
    go_wp2_with fail
    go_ret
    first | exact ⟨rfl, by (repeat' (first | with_reducible exact Below.refl _ _ | with_reducible assumption | with_reducible refine Below.drew ?_ | with_reducible refine below_drewN ?_ _ | with_reducible refine Below.setCell ?_ ?_ _ | with_reducible refine Below.alloc ?_ ?_ _ | omega | (simp; done) | (simp; omega)))⟩ | exact ⟨by simp [h1], by (repeat' (first | with_reducible exact Below.refl _ _ | with_reducible assumption | with_reducible refine Below.drew ?_ | with_reducible refine below_drewN ?_ _ | with_reducible refine Below.setCell ?_ ?_ _ | with_reducible refine Below.alloc ?_ ?_ _ | omega | (simp; done) | (simp; omega)))⟩

theorem it_ext {x y : It} : x = y ↔ x.name.toList = y.name.toList ∧ (x.n = y.n ∧ x.d = y.d) := by
  cases x with | mk a b c => cases y with | mk a' b' c' =>
  simp only [It.mk.injEq]
  constructor
  · rintro ⟨rfl, rfl, rfl⟩; exact ⟨rfl, rfl, rfl⟩
  · rintro ⟨h1, h2, h3⟩; exact ⟨ba_inj (by rw [ByteArray.toList_eq, ByteArray.toList_eq] at h1; exact h1), h2, h3⟩
set_option maxRecDepth 100000 in
set_option maxHeartbeats 2000000 in
theorem sameI_any (x y : It) (b : Bool) (w : World) (hb : b = true ↔ x = y) : Calls Tryz.prog 42 #[itV x, itV y] w fun e w' => e = .returned (.bool b) ∧ Below w.heap.size w w' := by
  unfold itV
  by_cases h1 : x.name.toList = y.name.toList
  · have e1 : b = decide (x.n = y.n ∧ x.d = y.d) := by
      rw [Bool.eq_iff_iff, hb, it_ext, decide_eq_true_iff]; simp [h1]
    have h2 : x.name = y.name := ba_inj (by rw [ByteArray.toList_eq, ByteArray.toList_eq] at h1; exact h1)
    subst e1
    rw [← h2]
    clear hb h1 h2
    have HS := Lib.hid (fun W => sameF_any x.n x.d y.n y.d W)
    obtain ⟨b, hb⟩ : ∃ b, decide (x.n = y.n ∧ x.d = y.d) = b := ⟨_, rfl⟩
    rw [hb] at HS ⊢
    clear hb
    go_enter Tryz.func42, Tryz.ntmps42
    go_wp2_with fail
    refine (HS.out _).mono ?_
    rintro e w1 ⟨rfl, hb1⟩
    have hw1 : Below w.heap.size w w1 := stepH (by (repeat' (first | with_reducible exact Below.refl _ _ | with_reducible assumption | with_reducible refine Below.drew ?_ | with_reducible refine below_drewN ?_ _ | with_reducible refine Below.setCell ?_ ?_ _ | with_reducible refine Below.alloc ?_ ?_ _ | omega | (simp; done) | (simp; omega)))) hb1
    go_wp2_with fail
    go_ret
    exact ⟨by cases b <;> rfl, hw1⟩
  · obtain rfl : b = false := by
      cases b with
      | false => rfl
      | true => exact absurd (it_ext.1 (hb.1 rfl)).1 h1
    have h3 : (x.name.toList == y.name.toList) = false := by simpa using h1
    clear hb
    go_enter Tryz.func42, Tryz.ntmps42
    go_wp2_with fail
    go_ret
    first | exact ⟨rfl, by (repeat' (first | with_reducible exact Below.refl _ _ | with_reducible assumption | with_reducible refine Below.drew ?_ | with_reducible refine below_drewN ?_ _ | with_reducible refine Below.setCell ?_ ?_ _ | with_reducible refine Below.alloc ?_ ?_ _ | omega | (simp; done) | (simp; omega)))⟩ | exact ⟨by simp [h1], by (repeat' (first | with_reducible exact Below.refl _ _ | with_reducible assumption | with_reducible refine Below.drew ?_ | with_reducible refine below_drewN ?_ _ | with_reducible refine Below.setCell ?_ ?_ _ | with_reducible refine Below.alloc ?_ ?_ _ | omega | (simp; done) | (simp; omega)))⟩
end Go.Proofs.YtmoeoomlggjaaaaGreatDoor
