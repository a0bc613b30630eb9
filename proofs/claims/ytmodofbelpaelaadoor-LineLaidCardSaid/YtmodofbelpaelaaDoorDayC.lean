/- Sets of days: Make, Spans: walks. -/
import Derived.Test.YtmodofbelpaelaaDoorDayB
import Derived.Test.YtmodofbelpaelaaDoorLineG
namespace Go.Proofs.YtmodofbelpaelaaDoor
open Go.RowKit

set_option maxRecDepth 10000 in
set_option maxHeartbeats 4000000 in
theorem spansD_any (l : List (Pc Unit)) (A : Option Addr) (c : Nat) (w : World) (hl : RowAt encU 2 w w.heap.size A l) (hm : l.length ≤ 1000000) (hA : A = none → c = 0) :
    Calls Tryd.prog 40 #[.agg #[.slice A l.length c]] w fun e w' => ∃ v, e = .returned v ∧ Own encU 2 91 w.heap.size w' v l ∧ Below w.heap.size w w' := by
  obtain ⟨inf0, hi, jz0, jz1, jz2⟩ := info_parts infoSp
  obtain ⟨MC, hMC, hmk⟩ : ∃ MC : Array Value, MC.size = l.length * 2 ∧ ∀ w : World, (Instr.makeSlice 59 (.int .i64 0) (.int .i64 (l.length : Int))).run Tryd.prog w = .ok (.slice (some ⟨w.heap.size, 0, none⟩) 0 l.length) (w.alloc (.cells MC 91)) := by
    refine ⟨madeCells (Value.agg #[.int .i64 0, .int .i64 0]).cells (l.length * inf0.size), by rw [size_madeCells, jz1], fun w => ?_⟩
    have h := run_make (P := Tryd.prog) (w := w) 59 91 inf0 _ Tryd.underlying59 hi jz0 .i64 .i64 0 (l.length : Int) (Int.le_refl _) (by omega) (by rw [jz2]; omega) (by omega)
    simpa using h
  have HL := Lib.hid hl
  have HA : Hid (A = none → l.length = 0 ∧ c = 0) := fun h => by
    refine ⟨?_, hA h⟩
    cases l with
    | nil => rfl
    | cons p r => obtain ⟨_, _, e, _⟩ := HL.out 0 p rfl; rw [h] at e; cases e
  clear hl hA
  have HF := Lib.hid (rowFlat encU_len (by decide) HL.out)
  have H1 := Lib.hid (encU_one l)
  have HN := Lib.hid (encU_flat l)
  go_enter Tryd.func40, Tryd.ntmps40
  go_wp2_with fail
  go_region_held_law (fun w' => w'.cell? ⟨w.heap.size, 0, none⟩ = some (.slice A l.length c)) (first | go_keep | exact (World.grownBy.cell_far hgrow9 ⟨w.heap.size, 0, none⟩ (by simp; omega) (by simp [Value.ownBlock])).trans ‹_›)
    ((refine step_append_any (by rfl) (.tmp 6) (.tmp 8) 59 (by rfl) w.heap.size 91 inf0 _ 2 16 Tryd.underlying59 hi jz0 jz1 jz2 rfl (by decide) _ 0 [] (by rfl) (made_own (by simp) (by simp) (by unfold maxLen; omega) hMC) A l.length c (l.flatMap encU) (by rfl) HN.out (fun ad ha j u hj => cell_drew (cell_alloc (cell_alloc (HF.out ad ha j u hj)))) HA.out H1.out (by unfold maxLen; omega) (by omega) (by simp; omega) ?_; intro v' w9 hown9 hgrow9))
  go_wp2_with fail
  go_ret
  refine ⟨_, rfl, ?_, Below.grown ?_ hgrow9 (by simp; omega) (fun k e => ?_)⟩
  · unfold Own; simpa using hown9
  · exact ((by (repeat' (first | with_reducible exact Below.refl _ _ | with_reducible assumption | with_reducible refine Below.drew ?_ | with_reducible refine below_drewN ?_ _ | with_reducible refine Below.setCell ?_ ?_ _ | with_reducible refine Below.alloc ?_ ?_ _ | omega | (simp; done) | (simp; omega))) : Below w.heap.size w ((w.alloc (.cells #[.slice A l.length c] 67)).alloc (.cells MC 91)))).drew
  · simp only [Value.ownBlock, Option.some.injEq] at e; omega

set_option maxRecDepth 10000 in
set_option maxHeartbeats 8000000 in
theorem makeS_bad (l : List (Pc Unit)) (A : Option Addr) (c : Nat) (E : Nat → Addr) (w : World) (hl : RowAt encU 2 w w.heap.size A l) (h1 : l.length ≤ 1000000) (hb : ∃ p ∈ l, ¬ ValidS MD p) (hE : Env L6 E w) :
    Calls Tryd.prog 29 #[.slice A l.length c] w fun e w' => e = .returned (.tuple #[.agg #[.slice none 0 0], (.iface 245 (.pointer (some (E 4))))]) ∧ Below w.heap.size w w' := by
  have HL := Lib.hid hl
  have HE := Lib.hid hE
  obtain ⟨k0, hk0⟩ : ∃ k0, k0 < l.length ∧ (∀ k p, k < k0 → l[k]? = some p → ValidS MD p) ∧ ∃ p, l[k0]? = some p ∧ ¬ ValidS MD p := by
    clear hl HL h1
    induction l with
    | nil => obtain ⟨p, hp, _⟩ := hb; cases hp
    | cons q r ih =>
      by_cases hq : ValidS MD q
      · obtain ⟨k, a1, a2, p, a3, a4⟩ := ih (by
          obtain ⟨p, hp, hn⟩ := hb
          rcases List.mem_cons.1 hp with rfl | hp
          · exact absurd hq hn
          · exact ⟨p, hp, hn⟩)
        refine ⟨k + 1, by simp only [List.length_cons]; omega, fun j p hj hp => ?_, p, by simpa using a3, a4⟩
        cases j with
        | zero => cases hp; exact hq
        | succ j => exact a2 j p (by omega) (by simpa using hp)
      · exact ⟨0, by simp, fun j p hj => by omega, q, rfl, hq⟩
  obtain ⟨hk0l, hk0v, hk0b⟩ := hk0
  have HV := Lib.hid hk0v
  have HB := Lib.hid hk0b
  clear hl hE hb hk0v hk0b
  go_enter Tryd.func29, Tryd.ntmps29
  go_wp2_with fail
  go_loopw [9] (fun i wr => ∃ k : Nat, k ≤ k0 ∧ i = .int .i64 k ∧ Hid (wr.heap[w.heap.size]? = some (.cells #[.slice none 0 0] 67 (0, 0))) ∧ Below w.heap.size w wr) (fun i _ => l.length - (intOf i).toNat)
  case atStart => exact ⟨0, Nat.zero_le _, rfl, blk_new rfl, by (repeat' (first | with_reducible exact Below.refl _ _ | with_reducible assumption | with_reducible refine Below.drew ?_ | with_reducible refine below_drewN ?_ _ | with_reducible refine Below.setCell ?_ ?_ _ | with_reducible refine Below.alloc ?_ ?_ _ | omega | (simp; done) | (simp; omega)))⟩
  case round =>
    obtain ⟨k, hk, rfl, R, hw0⟩ := hrel
    have z0 := hw0.size
    have lR := lt_of_H R
    obtain ⟨p, hp⟩ : ∃ p, l[k]? = some p := ⟨l[k]'(by omega), List.getElem?_eq_getElem _⟩
    obtain ⟨g, off, rfl, hg, j0, j1⟩ := cells2 (HL.out.below hw0 (Nat.le_refl _)) hp
    have hlt : k < l.length := by omega
    have hlt2 : (k : Int) < (l.length : Int) := by omega
    by_cases hkk : k < k0
    · have hval := Lib.hid (HV.out k p hkk hp)
      clear hp
      go_wp2_with fail
      refine (validS_ok p.f p.t _ hval.out).mono ?_
      rintro e w1 ⟨rfl, hb1⟩
      have hw1 : Below w.heap.size w w1 := stepH (by (repeat' (first | with_reducible exact Below.refl _ _ | with_reducible assumption | with_reducible refine Below.drew ?_ | with_reducible refine below_drewN ?_ _ | with_reducible refine Below.setCell ?_ ?_ _ | with_reducible refine Below.alloc ?_ ?_ _ | omega | (simp; done) | (simp; omega)))) hb1
      replace R := keepH hb1 (blk_old R.out)
      clear hb1 j0 j1
      go_wp2_with fail
      go_roundw
      case rel => exact ⟨k + 1, by omega, by go_num, R, hw1⟩
      case measure => simp [intOf]; omega
    · have hval : Hid (¬ ValidS MD p) := by
        obtain ⟨q, hq1, hq2⟩ := HB.out
        obtain rfl : k = k0 := by omega
        rw [hp] at hq1; cases hq1; exact hq2
      have hen := fun w => eql_nil (E 4) w
      clear hp
      go_wp2_with fail
      refine (validS_bad p.f p.t 0 E _ hval.out (HE.out.below (by (repeat' (first | with_reducible exact Below.refl _ _ | with_reducible assumption | with_reducible refine Below.drew ?_ | with_reducible refine below_drewN ?_ _ | with_reducible refine Below.setCell ?_ ?_ _ | with_reducible refine Below.alloc ?_ ?_ _ | omega | (simp; done) | (simp; omega)))))).mono ?_
      rintro e w1 ⟨rfl, hb1⟩
      have hw1 : Below w.heap.size w w1 := stepH (by (repeat' (first | with_reducible exact Below.refl _ _ | with_reducible assumption | with_reducible refine Below.drew ?_ | with_reducible refine below_drewN ?_ _ | with_reducible refine Below.setCell ?_ ?_ _ | with_reducible refine Below.alloc ?_ ?_ _ | omega | (simp; done) | (simp; omega)))) hb1
      have R1 := keepH hb1 (blk_old R.out)
      have cR := cellH R1
      have fzR := frozH R1
      have lR1 := lt_of_H R1
      clear hb1 j0 j1
      go_wp2_with fail
      refine bodyPost_ret (v := .tuple #[.agg #[.slice none 0 0], (.iface 245 (.pointer (some (E 4))))]) (by simp [results, Tryd.results29, go_sem, cR]) rfl ⟨rfl, by (repeat' (first | with_reducible exact Below.refl _ _ | with_reducible assumption | with_reducible refine Below.drew ?_ | with_reducible refine below_drewN ?_ _ | with_reducible refine Below.setCell ?_ ?_ _ | with_reducible refine Below.alloc ?_ ?_ _ | omega | (simp; done) | (simp; omega)))⟩

set_option maxRecDepth 10000 in
set_option maxHeartbeats 8000000 in
theorem makeS_ok (l : List (Pc Unit)) (A : Option Addr) (c : Nat) (w : World) (hl : RowAt encU 2 w w.heap.size A l) (h1 : l.length ≤ 1000000) (hv : ∀ p ∈ l, ValidS MD p) :
    Calls Tryd.prog 29 #[.slice A l.length c] w fun e w' => (∃ A' c' r, e = .returned (.tuple #[.agg #[.slice A' r.length c'], .nilIface]) ∧ RowAt encU 2 w' w'.heap.size A' r ∧ (A' = none → c' = 0) ∧ SetOf MD l r) ∧ Below w.heap.size w w' := by
  have HL := Lib.hid hl
  have HV := Lib.hid hv
  clear hl hv
  go_enter Tryd.func29, Tryd.ntmps29
  go_wp2_with fail
  go_loopw [9] (fun i wr => ∃ k : Nat, k ≤ l.length ∧ i = .int .i64 k ∧ Hid (wr.heap[w.heap.size]? = some (.cells #[.slice none 0 0] 67 (0, 0))) ∧ Below w.heap.size w wr) (fun i _ => l.length - (intOf i).toNat)
  case atStart => exact ⟨0, Nat.zero_le _, rfl, blk_new rfl, by (repeat' (first | with_reducible exact Below.refl _ _ | with_reducible assumption | with_reducible refine Below.drew ?_ | with_reducible refine below_drewN ?_ _ | with_reducible refine Below.setCell ?_ ?_ _ | with_reducible refine Below.alloc ?_ ?_ _ | omega | (simp; done) | (simp; omega)))⟩
  case round =>
    obtain ⟨k, hk, rfl, R, hw0⟩ := hrel
    have z0 := hw0.size
    have lR := lt_of_H R
    by_cases hlt : k < l.length
    · obtain ⟨p, hp⟩ : ∃ p, l[k]? = some p := ⟨l[k], List.getElem?_eq_getElem hlt⟩
      obtain ⟨g, off, rfl, hg, j0, j1⟩ := cells2 (HL.out.below hw0 (Nat.le_refl _)) hp
      have hlt2 : (k : Int) < (l.length : Int) := by omega
      have hval := Lib.hid (HV.out p (List.mem_of_getElem? hp))
      clear hp
      go_wp2_with fail
      refine (validS_ok p.f p.t _ hval.out).mono ?_
      rintro e w1 ⟨rfl, hb1⟩
      have hw1 : Below w.heap.size w w1 := stepH (by (repeat' (first | with_reducible exact Below.refl _ _ | with_reducible assumption | with_reducible refine Below.drew ?_ | with_reducible refine below_drewN ?_ _ | with_reducible refine Below.setCell ?_ ?_ _ | with_reducible refine Below.alloc ?_ ?_ _ | omega | (simp; done) | (simp; omega)))) hb1
      replace R := keepH hb1 (blk_old R.out)
      clear hb1 j0 j1
      go_wp2_with fail
      go_roundw
      case rel => exact ⟨k + 1, by omega, by go_num, R, hw1⟩
      case measure => simp [intOf]; omega
    · obtain rfl : k = l.length := by omega
      go_wp2_with fail
      refine (joinedS_any l A c _ ((HL.out.below hw0 (Nat.le_refl _)).more z0) (by omega) HV.out).mono ?_
      rintro e w1 ⟨⟨A2, c2, r, rfl, hrow, hA2, hA3, hset⟩, hb1⟩
      have hw1 : Below w.heap.size w w1 := stepH (by (repeat' (first | with_reducible exact Below.refl _ _ | with_reducible assumption | with_reducible refine Below.drew ?_ | with_reducible refine below_drewN ?_ _ | with_reducible refine Below.setCell ?_ ?_ _ | with_reducible refine Below.alloc ?_ ?_ _ | omega | (simp; done) | (simp; omega)))) hb1
      replace R := keepH hb1 R.out
      have cR := cellH R
      have fzR := frozH R
      have HROW := Lib.hid hrow
      have HSET := Lib.hid hset
      have lR2 := lt_of_H R
      clear hb1 hrow hset
      go_wp2_with fail
      refine bodyPost_ret (v := .tuple #[.agg #[.slice A2 r.length c2], .nilIface]) (by simp [results, Tryd.results29, go_sem, cR]) rfl ⟨⟨A2, c2, r, rfl, ?_, hA2, HSET.out⟩, by (repeat' (first | with_reducible exact Below.refl _ _ | with_reducible assumption | with_reducible refine Below.drew ?_ | with_reducible refine below_drewN ?_ _ | with_reducible refine Below.setCell ?_ ?_ _ | with_reducible refine Below.alloc ?_ ?_ _ | omega | (simp; done) | (simp; omega)))⟩
      exact rowKeepL HROW.out (by simp) (fun a ha => Below.heap_setCell _ _ _ _ (by have h := hA3 a ha; dsimp only; omega))

end Go.Proofs.YtmodofbelpaelaaDoor
