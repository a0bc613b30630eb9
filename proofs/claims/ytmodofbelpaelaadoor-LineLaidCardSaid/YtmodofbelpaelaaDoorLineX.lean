/- A law's timelines: Same, told, is: walks. -/
import Derived.Test.YtmodofbelpaelaaDoorLineW
namespace Go.Proofs.YtmodofbelpaelaaDoor
open Go.RowKit

set_option maxRecDepth 10000 in
set_option maxHeartbeats 4000000 in
theorem same6_yes (l : List (Pc Int)) (n : Nat) (A B : Option Addr) (c d : Nat) (w : World) (hn : l.length = n) (hl : RowAt encP 3 w w.heap.size A l) (hm : RowAt encP 3 w w.heap.size B l) (h1 : n ≤ 1000000) :
    Calls Tryd.prog 79 #[.slice A n c, .slice B n d] w fun e w' => e = .returned (.bool true) ∧ Below w.heap.size w w' := by
  have HL := Lib.hid hl
  have HM := Lib.hid hm
  have HN := Lib.hid hn
  clear hl hm hn
  go_enter Tryd.func79, Tryd.ntmps79
  go_wp2_with fail
  go_loopw [5] (fun i wr => ∃ k : Nat, k ≤ n ∧ i = .int .i64 k ∧ Below w.heap.size w wr) (fun i _ => n - (intOf i).toNat)
  case atStart => exact ⟨0, Nat.zero_le _, rfl, Below.refl _ _⟩
  case round =>
    obtain ⟨k, hk, rfl, hb⟩ := hrel
    by_cases hlt : k < n
    · obtain ⟨p, hp⟩ : ∃ p, l[k]? = some p := ⟨l[k]'(by rw [HN.out]; exact hlt), List.getElem?_eq_getElem _⟩
      obtain ⟨g, off, rfl, hg, j0, j1, j2⟩ := cells3 (HL.out.below hb (Nat.le_refl _)) hp
      obtain ⟨g2, off2, rfl, hg2, i0, i1, i2⟩ := cells3 (HM.out.below hb (Nat.le_refl _)) hp
      have hlt2 : (k : Int) < (n : Int) := by omega
      have e0 : (p.f != p.f) = false := bne_self_eq_false _
      have e1 : (p.t != p.t) = false := bne_self_eq_false _
      have e2 : (p.v != p.v) = false := bne_self_eq_false _
      clear hp
      go_wp2_with fail
      go_quiet (fail)
      go_wp2_with fail
      go_roundw
      case rel => exact ⟨k + 1, by omega, by go_num, by (repeat' (first | with_reducible exact Below.refl _ _ | with_reducible assumption | with_reducible refine Below.drew ?_ | with_reducible refine below_drewN ?_ _ | with_reducible refine Below.setCell ?_ ?_ _ | with_reducible refine Below.alloc ?_ ?_ _ | omega | (simp; done) | (simp; omega)))⟩
      case measure => simp [intOf]; omega
    · go_wp2_with fail
      go_ret
      exact ⟨rfl, hb⟩

theorem infoR6 : (Tryd.prog.info? 86).map (fun i => (i.zero, i.size, i.bytes)) = some (some (.agg #[.int .i64 0, .int .i64 0, .int .i64 0]), 3, 24) := by kernel_rfl

set_option maxRecDepth 10000 in
set_option maxHeartbeats 4000000 in
theorem told6_any (r : List (Pc Int)) (A : Option Addr) (c : Nat) (w : World) (hl : RowAt encP 3 w w.heap.size A r) (hm : r.length ≤ 10000) (hA : A = none → c = 0) :
    Calls Tryd.prog 78 #[.agg #[.slice A r.length c]] w fun e w' => (∃ A' c', e = .returned (.slice A' r.length c') ∧ RowAt encP 3 w' w'.heap.size A' r) ∧ Below w.heap.size w w' := by
  obtain ⟨inf0, hi, jz0, jz1, jz2⟩ := info_parts infoR6
  have HL := Lib.hid hl
  clear hl
  go_enter Tryd.func78, Tryd.ntmps78
  go_wp2_with fail
  refine (pieces6_any r A c _ ((HL.out.below (by (repeat' (first | with_reducible exact Below.refl _ _ | with_reducible assumption | with_reducible refine Below.drew ?_ | with_reducible refine below_drewN ?_ _ | with_reducible refine Below.setCell ?_ ?_ _ | with_reducible refine Below.alloc ?_ ?_ _ | omega | (simp; done) | (simp; omega)))) (Nat.le_refl _)).more (by simp)) (by omega) hA).mono ?_
  rintro e w1 ⟨v, rfl, hown, hb1⟩
  obtain ⟨A5, c5, rfl, hr5, _, hA6⟩ := own_line (fun x _ => encP_len x) hown
  have hw1 : Below w.heap.size w w1 := stepH (by (repeat' (first | with_reducible exact Below.refl _ _ | with_reducible assumption | with_reducible refine Below.drew ?_ | with_reducible refine below_drewN ?_ _ | with_reducible refine Below.setCell ?_ ?_ _ | with_reducible refine Below.alloc ?_ ?_ _ | omega | (simp; done) | (simp; omega)))) hb1
  have z1 := hw1.size
  have HR5 := Lib.hid hr5
  clear hb1 hown hr5
  go_wp2_with fail
  go_loopw [3, 5] (fun v i wr => ∃ k : Nat, k ≤ r.length ∧ i = .int .i64 k ∧ Own encP 3 86 w1.heap.size wr v (r.take k) ∧ Below w1.heap.size w1 wr) (fun _ i _ => r.length - (intOf i).toNat)
  case atStart => exact ⟨0, Nat.zero_le _, rfl, Own.nil, Below.refl _ _⟩
  case round =>
    obtain ⟨k, hk, rfl, hown, hwr⟩ := hrel
    have zr := hwr.size
    have hw0 : Below w.heap.size w wr := stepH hw1 hwr
    have HO := Lib.hid hown
    have hlen : (r.take k).length = k := by rw [List.length_take]; omega
    clear hown
    by_cases hlt : k < r.length
    · obtain ⟨p, hp⟩ : ∃ p, r[k]? = some p := ⟨r[k], List.getElem?_eq_getElem hlt⟩
      have hg2 : ∀ a, A5 = some a → a.block < w1.heap.size := fun a ha => by obtain ⟨_, _, e0, h9, _⟩ := HR5.out k p hp; rw [ha] at e0; cases e0; exact h9
      obtain ⟨g, off, rfl, hg, j0, j1, j2⟩ := cells3 (HR5.out.below hwr (Nat.le_refl _)) hp
      have hg3 : g < w1.heap.size := hg2 _ rfl
      have hlt2 : (k : Int) < (r.length : Int) := by omega
      have HP := Lib.hid hp
      clear hp hg2 hA6
      go_wp2_with fail
      go_region_held_law (fun w' => w'.cell? ⟨g, off + k * 3, none⟩ = some (.int .i64 p.f) ∧ w'.cell? ⟨g, off + k * 3 + 1, none⟩ = some (.int .i64 p.t) ∧ w'.cell? ⟨g, off + k * 3 + 2, none⟩ = some (.int .i64 p.v)) (first | with_reducible exact ⟨j0, j1, j2⟩ | go_keep | exact ⟨(World.grownBy.cell_far hgrow9 ⟨g, off + k * 3, none⟩ (by simp; omega) (fun e => by have h9 := (HO.out.lt _ e.symm).1; dsimp only at h9; omega)).trans (cell_drew (cell_alloc j0)), (World.grownBy.cell_far hgrow9 ⟨g, off + k * 3 + 1, none⟩ (by simp; omega) (fun e => by have h9 := (HO.out.lt _ e.symm).1; dsimp only at h9; omega)).trans (cell_drew (cell_alloc j1)), (World.grownBy.cell_far hgrow9 ⟨g, off + k * 3 + 2, none⟩ (by simp; omega) (fun e => by have h9 := (HO.out.lt _ e.symm).1; dsimp only at h9; omega)).trans (cell_drew (cell_alloc j2))⟩)
        ((refine step_append_any (by rfl) (.tmp 14) (.tmp 33) 71 (by rfl) w1.heap.size 86 inf0 _ 3 24 Tryd.underlying71 hi jz0 jz1 jz2 rfl (by decide) _ (r.take k).length _ (by rfl) ((HO.out.alloc _).drew) (some ⟨wr.heap.size, 0, none⟩) 1 1 [.int .i64 p.f, .int .i64 p.t, .int .i64 p.v] (by rfl) rfl (fun ad ha j u hj => by cases ha; exact cell_drew (World.news_of_block (cs := #[.int .i64 p.f, .int .i64 p.t, .int .i64 p.v]) (blk_new rfl) j u hj)) (fun h => by cases h) (by simp [Value.oneCell']) (by rw [hlen]; unfold maxLen; omega) (by rw [hlen]; omega) (by simp; omega) ?_; intro v' w9 hown9 hgrow9))
      go_wp2_with fail
      go_roundw
      case rel =>
        refine ⟨k + 1, by omega, by go_num, ?_, Below.grown (by (repeat' (first | with_reducible exact Below.refl _ _ | with_reducible assumption | with_reducible refine Below.drew ?_ | with_reducible refine below_drewN ?_ _ | with_reducible refine Below.setCell ?_ ?_ _ | with_reducible refine Below.alloc ?_ ?_ _ | omega | (simp; done) | (simp; omega)))) hgrow9 (by simp; omega) (fun g hg => (HO.out.lt g hg).1)⟩
        rw [take_snoc HP.out]
        exact Own.snoc hown9 rfl (by simp [encP])
      case measure => simp [intOf]; omega
    · obtain rfl : k = r.length := by omega
      have HK : Hid (Own encP 3 86 w1.heap.size wr u3 r) := by have h := HO.out; rw [List.take_length] at h; exact h
      obtain ⟨A2, c2, rfl, hr2, _, _⟩ := own_line (fun x _ => encP_len x) HK.out
      go_wp2_with fail
      go_ret
      exact ⟨⟨A2, c2, rfl, hr2⟩, hw0⟩

theorem is6_yes (r : List (Pc Int)) (n : Nat) (A B : Option Addr) (c d : Nat) (w : World) (hn : r.length = n) (hl : RowAt encP 3 w w.heap.size A r) (hB : RowAt encP 3 w w.heap.size B r) (hm : n ≤ 10000) (hA : A = none → c = 0) :
    Calls Tryd.prog 32 #[.agg #[.slice A n c], .slice B n d] w fun e w' => e = .returned (.bool true) ∧ Below w.heap.size w w' := by
  have HL := Lib.hid hl
  have HB := Lib.hid hB
  subst hn
  clear hl hB
  go_enter Tryd.func32, Tryd.ntmps32
  go_wp2_with fail
  refine (told6_any r A c _ ((HL.out.below (by (repeat' (first | with_reducible exact Below.refl _ _ | with_reducible assumption | with_reducible refine Below.drew ?_ | with_reducible refine below_drewN ?_ _ | with_reducible refine Below.setCell ?_ ?_ _ | with_reducible refine Below.alloc ?_ ?_ _ | omega | (simp; done) | (simp; omega)))) (Nat.le_refl _)).more (by simp)) hm hA).mono ?_
  rintro e w1 ⟨⟨A1, c1, rfl, hr1⟩, hb1⟩
  have hw1 : Below w.heap.size w w1 := stepH (by (repeat' (first | with_reducible exact Below.refl _ _ | with_reducible assumption | with_reducible refine Below.drew ?_ | with_reducible refine below_drewN ?_ _ | with_reducible refine Below.setCell ?_ ?_ _ | with_reducible refine Below.alloc ?_ ?_ _ | omega | (simp; done) | (simp; omega)))) hb1
  have z1 := hw1.size
  go_wp2_with fail
  refine (same6_yes r r.length A1 B c1 d w1 rfl hr1 ((HB.out.below hw1 (Nat.le_refl _)).more hw1.size) (by omega)).mono ?_
  rintro e w2 ⟨rfl, hb2⟩
  have hw2 : Below w.heap.size w w2 := stepH hw1 hb2
  go_wp2_with fail
  go_ret
  exact ⟨rfl, hw2⟩

end Go.Proofs.YtmodofbelpaelaaDoor
