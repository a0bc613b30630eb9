/- A timeline of pieces that are spans: walk of Make. -/
import Derived.Test.YtmodofbelpaelaaDoorLineG
namespace Go.Proofs.YtmodofbelpaelaaDoor
open Go.RowKit

set_option maxRecDepth 10000 in
set_option maxHeartbeats 8000000 in
theorem make6_ok (l : List (Pc Int)) (A : Option Addr) (c : Nat) (w : World) (hl : RowAt encP 3 w w.heap.size A l) (h1 : l.length ≤ 210) (hv : ∀ p ∈ l, ValidP MD p) :
    Calls Tryd.prog 27 #[.slice A l.length c] w fun e w' => (∃ A' c' r, e = .returned (.tuple #[.agg #[.slice A' r.length c'], .nilIface]) ∧ RowAt encP 3 w' w'.heap.size A' r ∧ (A' = none → c' = 0) ∧ Made MD l r) ∧ Below w.heap.size w w' := by
  have HL := Lib.hid hl
  have HV := Lib.hid hv
  clear hl hv
  go_enter Tryd.func27, Tryd.ntmps27
  go_wp2_with fail
  go_loopw [12] (fun i wr => ∃ k : Nat, k ≤ l.length ∧ i = .int .i64 k ∧ Hid (wr.heap[w.heap.size]? = some (.cells #[.slice none 0 0] 62 (0, 0))) ∧ Below w.heap.size w wr) (fun i _ => l.length - (intOf i).toNat)
  case atStart => exact ⟨0, Nat.zero_le _, rfl, blk_new rfl, by (repeat' (first | with_reducible exact Below.refl _ _ | with_reducible assumption | with_reducible refine Below.drew ?_ | with_reducible refine below_drewN ?_ _ | with_reducible refine Below.setCell ?_ ?_ _ | with_reducible refine Below.alloc ?_ ?_ _ | omega | (simp; done) | (simp; omega)))⟩
  case round =>
    obtain ⟨k, hk, rfl, R, hw0⟩ := hrel
    have z0 := hw0.size
    have lR := lt_of_H R
    by_cases hlt : k < l.length
    · obtain ⟨p, hp⟩ : ∃ p, l[k]? = some p := ⟨l[k], List.getElem?_eq_getElem hlt⟩
      obtain ⟨g, off, rfl, hg, j0, j1, j2⟩ := cells3 (HL.out.below hw0 (Nat.le_refl _)) hp
      have hlt2 : (k : Int) < (l.length : Int) := by omega
      have hval := Lib.hid (HV.out p (List.mem_of_getElem? hp))
      clear hp
      go_wp2_with fail
      refine (validS_ok p.f p.t _ hval.out).mono ?_
      rintro e w1 ⟨rfl, hb1⟩
      have hw1 : Below w.heap.size w w1 := stepH (by (repeat' (first | with_reducible exact Below.refl _ _ | with_reducible assumption | with_reducible refine Below.drew ?_ | with_reducible refine below_drewN ?_ _ | with_reducible refine Below.setCell ?_ ?_ _ | with_reducible refine Below.alloc ?_ ?_ _ | omega | (simp; done) | (simp; omega)))) hb1
      replace R := keepH hb1 (blk_old R.out)
      clear hb1 j0 j1 j2
      go_wp2_with fail
      go_roundw
      case rel => exact ⟨k + 1, by omega, by go_num, R, hw1⟩
      case measure => simp [intOf]; omega
    · obtain rfl : k = l.length := by omega
      clear hlt
      go_wp2_with fail
      obtain ⟨b, hbb⟩ : ∃ b, wr.heap.size = b := ⟨_, rfl⟩
      have RB := Lib.hid (blk_old (o := .cells #[.slice none 0 0] 62) R.out)
      have OB : Hid ((wr.alloc (.cells #[.slice none 0 0] 62)).heap[b]? = some (.cells #[.slice none 0 0] 62 (0, 0))) := blk_new hbb
      have hwB : Below w.heap.size w (wr.alloc (.cells #[.slice none 0 0] 62)) := by (repeat' (first | with_reducible exact Below.refl _ _ | with_reducible assumption | with_reducible refine Below.drew ?_ | with_reducible refine below_drewN ?_ _ | with_reducible refine Below.setCell ?_ ?_ _ | with_reducible refine Below.alloc ?_ ?_ _ | omega | (simp; done) | (simp; omega)))
      have hRb : w.heap.size < b := by omega
      rw [hbb]
      go_loopw [26] (fun i wq => ∃ (k : Nat) (r : List (Pc Int)) (A2 : Option Addr) (c2 : Nat), k ≤ l.length ∧ i = .int .i64 k ∧ Hid (wq.heap[b]? = some (.cells #[.slice A2 r.length c2] 62 (0, 0))) ∧ Hid (wq.heap[w.heap.size]? = some (.cells #[.slice none 0 0] 62 (0, 0))) ∧ RowAt encP 3 wq wq.heap.size A2 r ∧ (A2 = none → c2 = 0) ∧ (∀ a, A2 = some a → b < a.block) ∧ Made MD (l.take k) r ∧ Below w.heap.size w wq) (fun i _ => l.length - (intOf i).toNat)
      case atStart => exact ⟨0, [], none, 0, Nat.zero_le _, rfl, OB, RB, RowAt.nil, (fun _ => rfl), (fun a h => by cases h), Made.nil, hwB⟩
      case round =>
        clear OB RB hwB R
        obtain ⟨k, r, A2, c2, hk, rfl, OB, RB, hrow, hA2, hA3, hmade, hwq⟩ := hrel
        have zq := hwq.size
        have lO := lt_of_H OB
        have cO := cellH OB
        have fzO := frozH OB
        have HROW := Lib.hid hrow
        have HMADE := Lib.hid hmade
        have HA3 := Lib.hid hA3
        have hrl : r.length ≤ 2 * k := by have h := hmade.len; rw [List.length_take, Nat.min_eq_left hk] at h; exact h
        clear hrow hmade hA3
        by_cases hlt : k < l.length
        · obtain ⟨p, hp⟩ : ∃ p, l[k]? = some p := ⟨l[k], List.getElem?_eq_getElem hlt⟩
          obtain ⟨g, off, rfl, hg, j0, j1, j2⟩ := cells3 (HL.out.below hwq (Nat.le_refl _)) hp
          have hlt2 : (k : Int) < (l.length : Int) := by omega
          have hval := Lib.hid (HV.out p (List.mem_of_getElem? hp))
          have HP := Lib.hid hp
          clear hp
          go_wp2_with fail
          refine (over6_any [p] r (some ⟨wr.heap.size + 1, 0, none⟩) A2 1 c2 _ (one_row (blk_new (by simp))) ((HROW.out.below (B' := wr.heap.size) (by (repeat' (first | with_reducible exact Below.refl _ _ | with_reducible assumption | with_reducible refine Below.drew ?_ | with_reducible refine below_drewN ?_ _ | with_reducible refine Below.setCell ?_ ?_ _ | with_reducible refine Below.alloc ?_ ?_ _ | omega | (simp; done) | (simp; omega)))) (Nat.le_refl _)).more (by simp; omega)) (by simp) (by omega) (valid_one hval.out).1 HMADE.out.canon.rise (valid_one hval.out).2 HMADE.out.canon.upTo).mono ?_
          rintro e w1 ⟨⟨A4, c4, r4, rfl, hrow4, hA4, hA5, hcan4, hval4⟩, hb1⟩
          have hw1 : Below w.heap.size w w1 := stepH (by (repeat' (first | with_reducible exact Below.refl _ _ | with_reducible assumption | with_reducible refine Below.drew ?_ | with_reducible refine below_drewN ?_ _ | with_reducible refine Below.setCell ?_ ?_ _ | with_reducible refine Below.alloc ?_ ?_ _ | omega | (simp; done) | (simp; omega)))) hb1
          have OB1 := keepH hb1 (blk_old (blk_old OB.out))
          have RB1 := keepH hb1 (blk_old (blk_old RB.out))
          have cO1 := cellH OB1
          have fzO1 := frozH OB1
          have lO1 := lt_of_H OB1
          have HR4 := Lib.hid hrow4
          have HA5 : Hid (∀ a, A4 = some a → b < a.block) := fun a ha => by have h := hA5 a ha; simp at h; omega
          have HM4 := Lib.hid (HMADE.out.snoc HP.out hcan4 hval4)
          clear hb1 j0 j1 j2 cO fzO lO hrow4 hA5 hcan4 hval4
          go_wp2_with fail
          go_roundw
          case rel => exact ⟨k + 1, r4, A4, c4, by omega, by go_num, setBox OB1.out _, setOther RB1.out (by dsimp only; omega), rowKeepL HR4.out (by simp) (fun a ha => Below.heap_setCell _ _ _ _ (by have h := HA5.out a ha; dsimp only; omega)), hA4, HA5.out, HM4.out, by (repeat' (first | with_reducible exact Below.refl _ _ | with_reducible assumption | with_reducible refine Below.drew ?_ | with_reducible refine below_drewN ?_ _ | with_reducible refine Below.setCell ?_ ?_ _ | with_reducible refine Below.alloc ?_ ?_ _ | omega | (simp; done) | (simp; omega)))⟩
          case measure => simp [intOf]; omega
        · obtain rfl : k = l.length := by omega
          have cR := cellH RB
          have fzR := frozH RB
          have HM : Hid (Made MD l r) := by have h := HMADE.out; rw [List.take_length] at h; exact h
          go_wp2_with fail
          refine bodyPost_ret (v := .tuple #[.agg #[.slice A2 r.length c2], .nilIface]) (by simp [results, Tryd.results27, go_sem, cR]) rfl ⟨⟨A2, c2, r, rfl, ?_, hA2, HM.out⟩, by (repeat' (first | with_reducible exact Below.refl _ _ | with_reducible assumption | with_reducible refine Below.drew ?_ | with_reducible refine below_drewN ?_ _ | with_reducible refine Below.setCell ?_ ?_ _ | with_reducible refine Below.alloc ?_ ?_ _ | omega | (simp; done) | (simp; omega)))⟩
          exact rowKeepL HROW.out (by simp) (fun a ha => Below.heap_setCell _ _ _ _ (by have h := HA3.out a ha; dsimp only; omega))

end Go.Proofs.YtmodofbelpaelaaDoor
