/- A set's row is new memory; a row of the call's own is written over. -/
import Derived.Test.YtmodofbelpaelaaDoorDayP
import Derived.Test.YtmodofbelpaelaaDoorNdN
import Derived.Test.YtmodofbelpaelaaDoorSeq
namespace Go.Proofs.YtmodofbelpaelaaDoor
open Go.RowKit

set_option maxRecDepth 10000 in
set_option maxHeartbeats 8000000 in
theorem makeS_new (l : List (Pc Unit)) (A : Option Addr) (c : Nat) (w : World) (hl : RowAt encU 2 w w.heap.size A l) (h1 : l.length ≤ 1000000) (hv : ∀ p ∈ l, ValidS MD p) :
    Calls Tryd.prog 29 #[.slice A l.length c] w fun e w' => (∃ A' c' r, e = .returned (.tuple #[.agg #[.slice A' r.length c'], .nilIface]) ∧ RowAt encU 2 w' w'.heap.size A' r ∧ (A' = none → c' = 0) ∧ (∀ a, A' = some a → w.heap.size ≤ a.block) ∧ SetOf MD l r) ∧ Below w.heap.size w w' := by
  have HL := Lib.hid hl
  have HV := Lib.hid hv
  clear hl hv
  go_enter Tryd.func29, Tryd.ntmps29
  go_wp2_with fail
  go_loopw [9] (fun i wr => ∃ k : Nat, k ≤ l.length ∧ i = .int .i64 k ∧ Hid (wr.heap[w.heap.size]? = some (.cells #[.slice none 0 0] 67 (0, 0))) ∧ Below w.heap.size w wr) (fun i _ => l.length - (intOf i).toNat)
  case atStart => exact ⟨0, Nat.zero_le _, rfl, blk_new rfl, by (repeat' (first | with_reducible exact Below.refl _ _ | with_reducible assumption | with_reducible refine Below.drew ?_ | with_reducible refine below_drewN ?_ _ | with_reducible refine Below.setCell ?_ ?_ _ | with_reducible refine Below.alloc ?_ ?_ _ | omega | (simp; done) | (simp; omega)))⟩
  case round =>
    obtain ⟨k, hk, rfl, R, hw0⟩ := hrel
    have z0 := hw0.size
    have lR := lt_of_H R
    by_cases hlt : k < l.length
    · obtain ⟨p, hp⟩ : ∃ p, l[k]? = some p := ⟨l[k], List.getElem?_eq_getElem hlt⟩
      obtain ⟨g, off, rfl, hg, j0, j1⟩ := cells2 (HL.out.below hw0 (Nat.le_refl _)) hp
      have hlt2 : (k : Int) < (l.length : Int) := by omega
      have hval := Lib.hid (HV.out p (List.mem_of_getElem? hp))
      clear hp
      go_wp2_with fail
      refine (validS_ok p.f p.t _ hval.out).mono ?_
      rintro e w1 ⟨rfl, hb1⟩
      have hw1 : Below w.heap.size w w1 := stepH (by (repeat' (first | with_reducible exact Below.refl _ _ | with_reducible assumption | with_reducible refine Below.drew ?_ | with_reducible refine below_drewN ?_ _ | with_reducible refine Below.setCell ?_ ?_ _ | with_reducible refine Below.alloc ?_ ?_ _ | omega | (simp; done) | (simp; omega)))) hb1
      replace R := keepH hb1 (blk_old R.out)
      clear hb1 j0 j1
      go_wp2_with fail
      go_roundw
      case rel => exact ⟨k + 1, by omega, by go_num, R, hw1⟩
      case measure => simp [intOf]; omega
    · obtain rfl : k = l.length := by omega
      go_wp2_with fail
      refine (joinedS_any l A c _ ((HL.out.below hw0 (Nat.le_refl _)).more z0) (by omega) HV.out).mono ?_
      rintro e w1 ⟨⟨A2, c2, r, rfl, hrow, hA2, hA3, hset⟩, hb1⟩
      have hw1 : Below w.heap.size w w1 := stepH (by (repeat' (first | with_reducible exact Below.refl _ _ | with_reducible assumption | with_reducible refine Below.drew ?_ | with_reducible refine below_drewN ?_ _ | with_reducible refine Below.setCell ?_ ?_ _ | with_reducible refine Below.alloc ?_ ?_ _ | omega | (simp; done) | (simp; omega)))) hb1
      replace R := keepH hb1 R.out
      have cR := cellH R
      have fzR := frozH R
      have HROW := Lib.hid hrow
      have HSET := Lib.hid hset
      have lR2 := lt_of_H R
      clear hb1 hrow hset
      go_wp2_with fail
      refine bodyPost_ret (v := .tuple #[.agg #[.slice A2 r.length c2], .nilIface]) (by simp [results, Tryd.results29, go_sem, cR]) rfl ⟨⟨A2, c2, r, rfl, ?_, hA2, fun a ha => by have h := hA3 a ha; omega, HSET.out⟩, by (repeat' (first | with_reducible exact Below.refl _ _ | with_reducible assumption | with_reducible refine Below.drew ?_ | with_reducible refine below_drewN ?_ _ | with_reducible refine Below.setCell ?_ ?_ _ | with_reducible refine Below.alloc ?_ ?_ _ | omega | (simp; done) | (simp; omega)))⟩
      exact rowKeepL HROW.out (by simp) (fun a ha => Below.heap_setCell _ _ _ _ (by have h := hA3 a ha; dsimp only; omega))

theorem rowPre {α : Type} {enc : α → List Value} {size B : Nat} {w : World} {A : Option Addr} {l r : List α} (h : RowAt enc size w B A (l ++ r)) : RowAt enc size w B A l := fun k x hx => h k x (by rw [List.getElem?_append_left (List.getElem?_eq_some_iff.1 hx).1]; exact hx)

/-- a place of a row of the call's own -/
theorem own_at {W : World} {base e size g n cap i : Nat} {xs : List Value} (h : W.ownsRow base e size (.slice (some ⟨g, 0, none⟩) n cap) n xs) (hi : i < n * size) : (∃ u, W.cell? ⟨g, i, none⟩ = some u) ∧ W.frozen? ⟨g, i, none⟩ = false := by
  obtain ⟨hlen, hc⟩ := h
  rcases hc with ⟨h0, _⟩ | ⟨g', cap', cur, hv, hb, hg, h1, h2, h3, h4⟩
  · cases h0
  cases hv
  constructor
  · rw [cell_of_row W g i _ _ (0, 0) hg]
    have hi2 : i < cur.size := by rw [h3]; exact Nat.lt_of_lt_of_le hi (Nat.mul_le_mul_right _ h1)
    exact ⟨_, Array.getElem?_eq_getElem hi2⟩
  · simp [World.frozen?, hg]

/-- what such a row holds -/
theorem own_val {W : World} {base e size g n cap i : Nat} {xs : List Value} {u : Value} (h : W.ownsRow base e size (.slice (some ⟨g, 0, none⟩) n cap) n xs) (hi : i < n * size) (hu : xs[i]? = some u) : W.cell? ⟨g, i, none⟩ = some u := by
  obtain ⟨hlen, hc⟩ := h
  rcases hc with ⟨h0, _⟩ | ⟨g', cap', cur, hv, hb, hg, h1, h2, h3, h4⟩
  · cases h0
  cases hv
  rw [cell_of_row W g i _ _ (0, 0) hg]
  rw [← h4, List.getElem?_take_of_lt hi] at hu
  simpa using hu

/-- two cells of it are written over -/
theorem own_over {W : World} {base e g n cap k : Nat} {v : Value} {xs : List Value} (hv : v = .slice (some ⟨g, 0, none⟩) n cap) (h : W.ownsRow base e 2 v n xs) (hk : k < n) (a b : Value) : ((W.setCell ⟨g, k * 2, none⟩ a).setCell ⟨g, k * 2 + 1, none⟩ b).ownsRow base e 2 v n ((xs.set (k * 2) a).set (k * 2 + 1) b) := by
  subst hv
  exact own_set (own_set h (by omega) a) (by omega) b

end Go.Proofs.YtmodofbelpaelaaDoor
