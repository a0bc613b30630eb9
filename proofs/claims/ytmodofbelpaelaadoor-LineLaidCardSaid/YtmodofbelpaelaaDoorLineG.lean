/- A timeline of pieces, one laid over the other: walk of Make. -/
import Derived.Test.YtmodofbelpaelaaDoorLineF
namespace Go.Proofs.YtmodofbelpaelaaDoor
open Go.RowKit

theorem one_row {w : World} {g : Nat} {p : Pc Int} (h : w.heap[g]? = some (.cells #[.int .i64 p.f, .int .i64 p.t, .int .i64 p.v] 113 (0, 0))) : RowAt encP 3 w w.heap.size (some ⟨g, 0, none⟩) [p] := by
  intro k x hx
  have hk : k = 0 := by have := (List.getElem?_eq_some_iff.1 hx).1; simp at this; exact this
  subst hk
  cases hx
  refine ⟨g, 0, rfl, (Array.getElem?_eq_some_iff.1 h).1, fun j u hj => ?_⟩
  have hc := cellH h
  have hj3 : j < 3 := (List.getElem?_eq_some_iff.1 hj).1
  have h3 : j = 0 ∨ j = 1 ∨ j = 2 := by omega
  rcases h3 with rfl | rfl | rfl <;> (cases hj; rw [hc]; rfl)

set_option maxRecDepth 10000 in
set_option maxHeartbeats 8000000 in
theorem make6_bad (l : List (Pc Int)) (A : Option Addr) (c : Nat) (E : Nat → Addr) (w : World) (hl : RowAt encP 3 w w.heap.size A l) (h1 : l.length ≤ 1000000) (hb : ∃ p ∈ l, ¬ ValidP MD p) (hE : Env L6 E w) :
    Calls Tryd.prog 27 #[.slice A l.length c] w fun e w' => e = .returned (.tuple #[.agg #[.slice none 0 0], (.iface 245 (.pointer (some (E 4))))]) ∧ Below w.heap.size w w' := by
  have HL := Lib.hid hl
  have HE := Lib.hid hE
  obtain ⟨k0, hk0⟩ : ∃ k0, k0 < l.length ∧ (∀ k p, k < k0 → l[k]? = some p → ValidP MD p) ∧ ∃ p, l[k0]? = some p ∧ ¬ ValidP MD p := by
    clear hl HL h1
    induction l with
    | nil => obtain ⟨p, hp, _⟩ := hb; cases hp
    | cons q r ih =>
      by_cases hq : ValidP MD q
      · obtain ⟨k, a1, a2, p, a3, a4⟩ := ih (by
          obtain ⟨p, hp, hn⟩ := hb
          rcases List.mem_cons.1 hp with rfl | hp
          · exact absurd hq hn
          · exact ⟨p, hp, hn⟩)
        refine ⟨k + 1, by simp only [List.length_cons]; omega, fun j p hj hp => ?_, p, by simpa using a3, a4⟩
        cases j with
        | zero => cases hp; exact hq
        | succ j => exact a2 j p (by omega) (by simpa using hp)
      · exact ⟨0, by simp, fun j p hj => by omega, q, rfl, hq⟩
  obtain ⟨hk0l, hk0v, hk0b⟩ := hk0
  have HV := Lib.hid hk0v
  have HB := Lib.hid hk0b
  clear hl hE hb hk0v hk0b
  go_enter Tryd.func27, Tryd.ntmps27
  go_wp2_with fail
  go_loopw [12] (fun i wr => ∃ k : Nat, k ≤ k0 ∧ i = .int .i64 k ∧ Hid (wr.heap[w.heap.size]? = some (.cells #[.slice none 0 0] 62 (0, 0))) ∧ Below w.heap.size w wr) (fun i _ => l.length - (intOf i).toNat)
  case atStart => exact ⟨0, Nat.zero_le _, rfl, blk_new rfl, by (repeat' (first | with_reducible exact Below.refl _ _ | with_reducible assumption | with_reducible refine Below.drew ?_ | with_reducible refine below_drewN ?_ _ | with_reducible refine Below.setCell ?_ ?_ _ | with_reducible refine Below.alloc ?_ ?_ _ | omega | (simp; done) | (simp; omega)))⟩
  case round =>
    obtain ⟨k, hk, rfl, R, hw0⟩ := hrel
    have z0 := hw0.size
    have lR := lt_of_H R
    obtain ⟨p, hp⟩ : ∃ p, l[k]? = some p := ⟨l[k]'(by omega), List.getElem?_eq_getElem _⟩
    obtain ⟨g, off, rfl, hg, j0, j1, j2⟩ := cells3 (HL.out.below hw0 (Nat.le_refl _)) hp
    have hlt : k < l.length := by omega
    have hlt2 : (k : Int) < (l.length : Int) := by omega
    by_cases hkk : k < k0
    · have hval := Lib.hid (HV.out k p hkk hp)
      clear hp
      go_wp2_with fail
      refine (validS_ok p.f p.t _ hval.out).mono ?_
      rintro e w1 ⟨rfl, hb1⟩
      have hw1 : Below w.heap.size w w1 := stepH (by (repeat' (first | with_reducible exact Below.refl _ _ | with_reducible assumption | with_reducible refine Below.drew ?_ | with_reducible refine below_drewN ?_ _ | with_reducible refine Below.setCell ?_ ?_ _ | with_reducible refine Below.alloc ?_ ?_ _ | omega | (simp; done) | (simp; omega)))) hb1
      replace R := keepH hb1 (blk_old R.out)
      clear hb1 j0 j1 j2
      go_wp2_with fail
      go_roundw
      case rel => exact ⟨k + 1, by omega, by go_num, R, hw1⟩
      case measure => simp [intOf]; omega
    · have hval : Hid (¬ ValidP MD p) := by
        obtain ⟨q, hq1, hq2⟩ := HB.out
        obtain rfl : k = k0 := by omega
        rw [hp] at hq1; cases hq1; exact hq2
      have hen := fun w => eql_nil (E 4) w
      clear hp
      go_wp2_with fail
      refine (validS_bad p.f p.t p.v E _ hval.out (HE.out.below (by (repeat' (first | with_reducible exact Below.refl _ _ | with_reducible assumption | with_reducible refine Below.drew ?_ | with_reducible refine below_drewN ?_ _ | with_reducible refine Below.setCell ?_ ?_ _ | with_reducible refine Below.alloc ?_ ?_ _ | omega | (simp; done) | (simp; omega)))))).mono ?_
      rintro e w1 ⟨rfl, hb1⟩
      have hw1 : Below w.heap.size w w1 := stepH (by (repeat' (first | with_reducible exact Below.refl _ _ | with_reducible assumption | with_reducible refine Below.drew ?_ | with_reducible refine below_drewN ?_ _ | with_reducible refine Below.setCell ?_ ?_ _ | with_reducible refine Below.alloc ?_ ?_ _ | omega | (simp; done) | (simp; omega)))) hb1
      have R1 := keepH hb1 (blk_old R.out)
      have cR := cellH R1
      have fzR := frozH R1
      have lR1 := lt_of_H R1
      clear hb1 j0 j1 j2
      go_wp2_with fail
      refine bodyPost_ret (v := .tuple #[.agg #[.slice none 0 0], (.iface 245 (.pointer (some (E 4))))]) (by simp [results, Tryd.results27, go_sem, cR]) rfl ⟨rfl, by (repeat' (first | with_reducible exact Below.refl _ _ | with_reducible assumption | with_reducible refine Below.drew ?_ | with_reducible refine below_drewN ?_ _ | with_reducible refine Below.setCell ?_ ?_ _ | with_reducible refine Below.alloc ?_ ?_ _ | omega | (simp; done) | (simp; omega)))⟩

end Go.Proofs.YtmodofbelpaelaaDoor
