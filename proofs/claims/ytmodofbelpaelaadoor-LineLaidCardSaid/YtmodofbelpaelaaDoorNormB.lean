/- Pieces as the document's: known; the document's next change: walks. -/
import Derived.Test.YtmodofbelpaelaaDoorNormA
namespace Go.Proofs.YtmodofbelpaelaaDoor
open Go.RowKit

set_option maxRecDepth 10000 in
theorem isSpan_ok (p : Pc Int) (w : World) (h : ValidP MD p) : Calls Tryd.prog 76 #[.agg #[.int .i64 p.f, .int .i64 p.t]] w fun e w' => e = .returned (.bool true) ∧ Below w.heap.size w w' := by
  obtain ⟨h1, h2, h3⟩ := h
  have e1 : decide (0 ≤ p.f) = true := decide_eq_true h1
  have e2 : decide (p.f < p.t) = true := decide_eq_true h2
  have e3 : decide (p.t ≤ (3652059 : Int)) = true := decide_eq_true h3
  go_enter Tryd.func76, Tryd.ntmps76
  go_wp2_with fail
  go_ret
  exact ⟨rfl, by (repeat' (first | with_reducible exact Below.refl _ _ | with_reducible assumption | with_reducible refine Below.drew ?_ | with_reducible refine below_drewN ?_ _ | with_reducible refine Below.setCell ?_ ?_ _ | with_reducible refine Below.alloc ?_ ?_ _ | omega | (simp; done) | (simp; omega)))⟩
set_option maxRecDepth 10000 in
theorem isSpan_bad1 (f t : Int) (w : World) (h1 : ¬ 0 ≤ f) : Calls Tryd.prog 76 #[.agg #[.int .i64 f, .int .i64 t]] w fun e w' => e = .returned (.bool false) ∧ Below w.heap.size w w' := by
  have e1 : decide (0 ≤ f) = false := decide_eq_false h1
  go_enter Tryd.func76, Tryd.ntmps76
  go_wp2_with fail
  go_ret
  exact ⟨rfl, by (repeat' (first | with_reducible exact Below.refl _ _ | with_reducible assumption | with_reducible refine Below.drew ?_ | with_reducible refine below_drewN ?_ _ | with_reducible refine Below.setCell ?_ ?_ _ | with_reducible refine Below.alloc ?_ ?_ _ | omega | (simp; done) | (simp; omega)))⟩
set_option maxRecDepth 10000 in
theorem isSpan_bad2 (f t : Int) (w : World) (h1 : 0 ≤ f) (h2 : ¬ f < t) : Calls Tryd.prog 76 #[.agg #[.int .i64 f, .int .i64 t]] w fun e w' => e = .returned (.bool false) ∧ Below w.heap.size w w' := by
  have e1 : decide (0 ≤ f) = true := decide_eq_true h1
  have e2 : decide (f < t) = false := decide_eq_false h2
  go_enter Tryd.func76, Tryd.ntmps76
  go_wp2_with fail
  go_ret
  exact ⟨rfl, by (repeat' (first | with_reducible exact Below.refl _ _ | with_reducible assumption | with_reducible refine Below.drew ?_ | with_reducible refine below_drewN ?_ _ | with_reducible refine Below.setCell ?_ ?_ _ | with_reducible refine Below.alloc ?_ ?_ _ | omega | (simp; done) | (simp; omega)))⟩
set_option maxRecDepth 10000 in
theorem isSpan_bad3 (f t : Int) (w : World) (h1 : 0 ≤ f) (h2 : f < t) (h3 : ¬ t ≤ (3652059 : Int)) : Calls Tryd.prog 76 #[.agg #[.int .i64 f, .int .i64 t]] w fun e w' => e = .returned (.bool false) ∧ Below w.heap.size w w' := by
  have e1 : decide (0 ≤ f) = true := decide_eq_true h1
  have e2 : decide (f < t) = true := decide_eq_true h2
  have e3 : decide (t ≤ (3652059 : Int)) = false := decide_eq_false h3
  go_enter Tryd.func76, Tryd.ntmps76
  go_wp2_with fail
  go_ret
  exact ⟨rfl, by (repeat' (first | with_reducible exact Below.refl _ _ | with_reducible assumption | with_reducible refine Below.drew ?_ | with_reducible refine below_drewN ?_ _ | with_reducible refine Below.setCell ?_ ?_ _ | with_reducible refine Below.alloc ?_ ?_ _ | omega | (simp; done) | (simp; omega)))⟩
theorem isSpan_bad (p : Pc Int) (w : World) (h : ¬ ValidP MD p) : Calls Tryd.prog 76 #[.agg #[.int .i64 p.f, .int .i64 p.t]] w fun e w' => e = .returned (.bool false) ∧ Below w.heap.size w w' := by
  by_cases h1 : 0 ≤ p.f
  · by_cases h2 : p.f < p.t
    · by_cases h3 : p.t ≤ (3652059 : Int)
      · exact absurd ⟨h1, h2, h3⟩ h
      · exact isSpan_bad3 _ _ w h1 h2 h3
    · exact isSpan_bad2 _ _ w h1 h2
  · exact isSpan_bad1 _ _ w h1
theorem isSpan_ok' (f t : Int) (w : World) (h : ∃ v, ValidP MD ⟨f, t, v⟩) : Calls Tryd.prog 76 #[.agg #[.int .i64 f, .int .i64 t]] w fun e w' => e = .returned (.bool true) ∧ Below w.heap.size w w' := by
  obtain ⟨v, h⟩ := h
  exact isSpan_ok ⟨f, t, v⟩ w h
theorem isSpan_bad' (f t : Int) (w : World) (h : ∃ v, ¬ ValidP MD ⟨f, t, v⟩) : Calls Tryd.prog 76 #[.agg #[.int .i64 f, .int .i64 t]] w fun e w' => e = .returned (.bool false) ∧ Below w.heap.size w w' := by
  obtain ⟨v, h⟩ := h
  exact isSpan_bad ⟨f, t, v⟩ w h

theorem first_bad {l : List (Pc Int)} (hb : ∃ p ∈ l, ¬ ValidP MD p) : ∃ k0, k0 < l.length ∧ (∀ (k : Nat) (p : Pc Int), k < k0 → l[k]? = some p → ValidP MD p) ∧ ∃ p, l[k0]? = some p ∧ ¬ ValidP MD p := by
  induction l with
  | nil => obtain ⟨p, hp, _⟩ := hb; cases hp
  | cons q r ih =>
    by_cases hq : ValidP MD q
    · obtain ⟨k, a1, a2, p, a3, a4⟩ := ih (by
        obtain ⟨p, hp, hn⟩ := hb
        rcases List.mem_cons.1 hp with rfl | hp
        · exact absurd hq hn
        · exact ⟨p, hp, hn⟩)
      refine ⟨k + 1, by simp only [List.length_cons]; omega, fun j p hj hp => ?_, p, by simpa using a3, a4⟩
      cases j with
      | zero => cases hp; exact hq
      | succ j => exact a2 j p (by omega) (by simpa using hp)
    · exact ⟨0, by simp, fun j p hj => by omega, q, rfl, hq⟩

set_option maxRecDepth 10000 in
set_option maxHeartbeats 8000000 in
theorem known_ok (l : List (Pc Int)) (A : Option Addr) (c : Nat) (w : World) (hl : RowAt encP 3 w w.heap.size A l) (hm : l.length ≤ 200) (hv : ∀ p ∈ l, ValidP MD p) :
    Calls Tryd.prog 30 #[.slice A l.length c] w fun e w' => (∃ A' c' r, e = .returned (.tuple #[.slice A' r.length c', .bool true]) ∧ RowAt encP 3 w' w'.heap.size A' r ∧ Made MD l r) ∧ Below w.heap.size w w' := by
  obtain ⟨inf0, hi, jz0, jz1, jz2⟩ := info_parts infoR6
  have HL := Lib.hid hl
  have HV := Lib.hid hv
  have hd : decide ((200 : Int) < (l.length : Int)) = false := decide_eq_false (by omega)
  clear hl hv
  go_enter Tryd.func30, Tryd.ntmps30
  go_wp2_with fail
  go_loopw [4, 5] (fun u i wr => ∃ k : Nat, k ≤ l.length ∧ i = .int .i64 k ∧ Own encP 3 86 w.heap.size wr u (l.take k) ∧ Below w.heap.size w wr) (fun _ i _ => l.length - (intOf i).toNat)
  case atStart => exact ⟨0, Nat.zero_le _, rfl, Own.nil, Below.refl _ _⟩
  case round =>
    obtain ⟨k, hk, rfl, hown, hw0⟩ := hrel
    have z0 := hw0.size
    have HO := Lib.hid hown
    by_cases hlt : k < l.length
    · skip
      obtain ⟨p, hp⟩ : ∃ p, l[k]? = some p := ⟨l[k]'(by omega), List.getElem?_eq_getElem _⟩
      have hg2 : ∀ a, A = some a → a.block < w.heap.size := fun a ha => by obtain ⟨_, _, e0, h9, _⟩ := HL.out k p hp; rw [ha] at e0; cases e0; exact h9
      obtain ⟨g, off, rfl, hg, j0, j1, j2⟩ := cells3 (HL.out.below hw0 (Nat.le_refl _)) hp
      have hg3 : g < w.heap.size := hg2 _ rfl
      have hlt2 : (k : Int) < (l.length : Int) := by omega
      have hltn : k < l.length := by omega
      have hlen : (l.take k).length = k := by rw [List.length_take]; omega
      have HVP : Hid (∃ v, ValidP MD ⟨p.f, p.t, v⟩) := ⟨p.v, HV.out p (List.mem_of_getElem? hp)⟩
      have HP := Lib.hid hp
      clear hp hg2 hown
      go_wp2_with fail
      go_region_held3 (fun w' => w'.cell? ⟨g, off + k * 3, none⟩ = some (.int .i64 p.f) ∧ w'.cell? ⟨g, off + k * 3 + 1, none⟩ = some (.int .i64 p.t)) (first | with_reducible exact ⟨j0, j1⟩ | go_keep)
        (first | (go_at_call 76; refine (isSpan_ok' _ _ _ HVP.out).mono ?_; rintro e w2 ⟨rfl, hb2⟩; have hw2 : Below w.heap.size w w2 := stepH (by (repeat' (first | with_reducible exact Below.refl _ _ | with_reducible assumption | with_reducible refine Below.drew ?_ | with_reducible refine below_drewN ?_ _ | with_reducible refine Below.setCell ?_ ?_ _ | with_reducible refine Below.alloc ?_ ?_ _ | omega | (simp; done) | (simp; omega)))) hb2; have HO2 := Lib.hid (own_below HO.out (undrew hb2)); replace j0 := cellOf hb2 (by first | exact j0 | exact cell_drew j0); replace j1 := cellOf hb2 (by first | exact j1 | exact cell_drew j1); replace j2 := cellOf hb2 (by first | exact j2 | exact cell_drew j2); have z2 := hw2.size; clear hb2))
      go_wp2_with fail
      go_region_held_law (fun w' => w'.cell? ⟨g, off + k * 3, none⟩ = some (.int .i64 p.f) ∧ w'.cell? ⟨g, off + k * 3 + 1, none⟩ = some (.int .i64 p.t) ∧ w'.cell? ⟨g, off + k * 3 + 2, none⟩ = some (.int .i64 p.v)) (first | with_reducible exact ⟨j0, j1, j2⟩ | go_keep | exact ⟨(World.grownBy.cell_far hgrow9 ⟨g, off + k * 3, none⟩ (by simp; omega) (fun e => by have h9 := (HO2.out.lt _ e.symm).1; dsimp only at h9; omega)).trans (cell_drew (cell_alloc j0)), (World.grownBy.cell_far hgrow9 ⟨g, off + k * 3 + 1, none⟩ (by simp; omega) (fun e => by have h9 := (HO2.out.lt _ e.symm).1; dsimp only at h9; omega)).trans (cell_drew (cell_alloc j1)), (World.grownBy.cell_far hgrow9 ⟨g, off + k * 3 + 2, none⟩ (by simp; omega) (fun e => by have h9 := (HO2.out.lt _ e.symm).1; dsimp only at h9; omega)).trans (cell_drew (cell_alloc j2))⟩)
        ((refine step_append_any (by rfl) (.tmp 30) (.tmp 47) 71 (by rfl) w.heap.size 86 inf0 _ 3 24 Tryd.underlying71 hi jz0 jz1 jz2 rfl (by decide) _ (l.take k).length _ (by rfl) ((HO2.out.alloc _).drew) (some ⟨w2.heap.size, 0, none⟩) 1 1 [.int .i64 p.f, .int .i64 p.t, .int .i64 p.v] (by rfl) rfl (fun ad ha j u hj => by cases ha; exact cell_drew (World.news_of_block (cs := #[.int .i64 p.f, .int .i64 p.t, .int .i64 p.v]) (blk_new rfl) j u hj)) (fun h => by cases h) (by simp [Value.oneCell']) (by rw [hlen]; unfold maxLen; omega) (by rw [hlen]; omega) (by simp; omega) ?_; intro v' w9 hown9 hgrow9))
      go_wp2_with fail
      go_roundw
      case rel =>
        refine ⟨k + 1, by omega, by go_num, ?_, Below.grown (by (repeat' (first | with_reducible exact Below.refl _ _ | with_reducible assumption | with_reducible refine Below.drew ?_ | with_reducible refine below_drewN ?_ _ | with_reducible refine Below.setCell ?_ ?_ _ | with_reducible refine Below.alloc ?_ ?_ _ | omega | (simp; done) | (simp; omega)))) hgrow9 (by simp; omega) (fun g hg => (HO2.out.lt g hg).1)⟩
        rw [take_snoc HP.out]
        exact Own.snoc hown9 rfl (by simp [encP])
      case measure => simp [intOf]; omega
    · obtain rfl : k = l.length := by omega
      have HK : Hid (Own encP 3 86 w.heap.size wr u4 l) := by have h := HO.out; rw [List.take_length] at h; exact h
      obtain ⟨A2, c2, rfl, hr2, _, _⟩ := own_line (fun x _ => encP_len x) HK.out
      have HR2 := Lib.hid hr2
      clear hown hr2 HO
      go_wp2_with fail
      refine (norm6_any l A2 c2 wr HR2.out (by omega) HV.out).mono ?_
      rintro e w2 ⟨⟨A3, c3, r, rfl, hr3, hmade⟩, hb2⟩
      have hw2 : Below w.heap.size w w2 := stepH hw0 hb2
      go_wp2_with fail
      go_ret2
      exact ⟨⟨A3, c3, r, rfl, hr3, hmade⟩, hw2⟩

set_option maxRecDepth 10000 in
set_option maxHeartbeats 8000000 in
theorem known_bad (l : List (Pc Int)) (A : Option Addr) (c : Nat) (w : World) (hl : RowAt encP 3 w w.heap.size A l) (hm : l.length ≤ 200) (hb : ∃ p ∈ l, ¬ ValidP MD p) :
    Calls Tryd.prog 30 #[.slice A l.length c] w fun e w' => e = .returned (.tuple #[.slice none 0 0, .bool false]) ∧ Below w.heap.size w w' := by
  obtain ⟨inf0, hi, jz0, jz1, jz2⟩ := info_parts infoR6
  obtain ⟨k9, hk9, hkv, hkb⟩ := first_bad hb
  have HL := Lib.hid hl
  have HV := Lib.hid hkv
  have HBD := Lib.hid hkb
  have hd : decide ((200 : Int) < (l.length : Int)) = false := decide_eq_false (by omega)
  clear hl hkv hkb hb
  go_enter Tryd.func30, Tryd.ntmps30
  go_wp2_with fail
  go_loopw [4, 5] (fun u i wr => ∃ k : Nat, k ≤ k9 ∧ i = .int .i64 k ∧ Own encP 3 86 w.heap.size wr u (l.take k) ∧ Below w.heap.size w wr) (fun _ i _ => l.length - (intOf i).toNat)
  case atStart => exact ⟨0, Nat.zero_le _, rfl, Own.nil, Below.refl _ _⟩
  case round =>
    obtain ⟨k, hk, rfl, hown, hw0⟩ := hrel
    have z0 := hw0.size
    have HO := Lib.hid hown
    by_cases hlt : k < k9
    · skip
      obtain ⟨p, hp⟩ : ∃ p, l[k]? = some p := ⟨l[k]'(by omega), List.getElem?_eq_getElem _⟩
      have hg2 : ∀ a, A = some a → a.block < w.heap.size := fun a ha => by obtain ⟨_, _, e0, h9, _⟩ := HL.out k p hp; rw [ha] at e0; cases e0; exact h9
      obtain ⟨g, off, rfl, hg, j0, j1, j2⟩ := cells3 (HL.out.below hw0 (Nat.le_refl _)) hp
      have hg3 : g < w.heap.size := hg2 _ rfl
      have hlt2 : (k : Int) < (l.length : Int) := by omega
      have hltn : k < l.length := by omega
      have hlen : (l.take k).length = k := by rw [List.length_take]; omega
      have HVP : Hid (∃ v, ValidP MD ⟨p.f, p.t, v⟩) := ⟨p.v, HV.out k p hlt hp⟩
      have HP := Lib.hid hp
      clear hp hg2 hown
      go_wp2_with fail
      go_region_held3 (fun w' => w'.cell? ⟨g, off + k * 3, none⟩ = some (.int .i64 p.f) ∧ w'.cell? ⟨g, off + k * 3 + 1, none⟩ = some (.int .i64 p.t)) (first | with_reducible exact ⟨j0, j1⟩ | go_keep)
        (first | (go_at_call 76; refine (isSpan_ok' _ _ _ HVP.out).mono ?_; rintro e w2 ⟨rfl, hb2⟩; have hw2 : Below w.heap.size w w2 := stepH (by (repeat' (first | with_reducible exact Below.refl _ _ | with_reducible assumption | with_reducible refine Below.drew ?_ | with_reducible refine below_drewN ?_ _ | with_reducible refine Below.setCell ?_ ?_ _ | with_reducible refine Below.alloc ?_ ?_ _ | omega | (simp; done) | (simp; omega)))) hb2; have HO2 := Lib.hid (own_below HO.out (undrew hb2)); replace j0 := cellOf hb2 (by first | exact j0 | exact cell_drew j0); replace j1 := cellOf hb2 (by first | exact j1 | exact cell_drew j1); replace j2 := cellOf hb2 (by first | exact j2 | exact cell_drew j2); have z2 := hw2.size; clear hb2))
      go_wp2_with fail
      go_region_held_law (fun w' => w'.cell? ⟨g, off + k * 3, none⟩ = some (.int .i64 p.f) ∧ w'.cell? ⟨g, off + k * 3 + 1, none⟩ = some (.int .i64 p.t) ∧ w'.cell? ⟨g, off + k * 3 + 2, none⟩ = some (.int .i64 p.v)) (first | with_reducible exact ⟨j0, j1, j2⟩ | go_keep | exact ⟨(World.grownBy.cell_far hgrow9 ⟨g, off + k * 3, none⟩ (by simp; omega) (fun e => by have h9 := (HO2.out.lt _ e.symm).1; dsimp only at h9; omega)).trans (cell_drew (cell_alloc j0)), (World.grownBy.cell_far hgrow9 ⟨g, off + k * 3 + 1, none⟩ (by simp; omega) (fun e => by have h9 := (HO2.out.lt _ e.symm).1; dsimp only at h9; omega)).trans (cell_drew (cell_alloc j1)), (World.grownBy.cell_far hgrow9 ⟨g, off + k * 3 + 2, none⟩ (by simp; omega) (fun e => by have h9 := (HO2.out.lt _ e.symm).1; dsimp only at h9; omega)).trans (cell_drew (cell_alloc j2))⟩)
        ((refine step_append_any (by rfl) (.tmp 30) (.tmp 47) 71 (by rfl) w.heap.size 86 inf0 _ 3 24 Tryd.underlying71 hi jz0 jz1 jz2 rfl (by decide) _ (l.take k).length _ (by rfl) ((HO2.out.alloc _).drew) (some ⟨w2.heap.size, 0, none⟩) 1 1 [.int .i64 p.f, .int .i64 p.t, .int .i64 p.v] (by rfl) rfl (fun ad ha j u hj => by cases ha; exact cell_drew (World.news_of_block (cs := #[.int .i64 p.f, .int .i64 p.t, .int .i64 p.v]) (blk_new rfl) j u hj)) (fun h => by cases h) (by simp [Value.oneCell']) (by rw [hlen]; unfold maxLen; omega) (by rw [hlen]; omega) (by simp; omega) ?_; intro v' w9 hown9 hgrow9))
      go_wp2_with fail
      go_roundw
      case rel =>
        refine ⟨k + 1, by omega, by go_num, ?_, Below.grown (by (repeat' (first | with_reducible exact Below.refl _ _ | with_reducible assumption | with_reducible refine Below.drew ?_ | with_reducible refine below_drewN ?_ _ | with_reducible refine Below.setCell ?_ ?_ _ | with_reducible refine Below.alloc ?_ ?_ _ | omega | (simp; done) | (simp; omega)))) hgrow9 (by simp; omega) (fun g hg => (HO2.out.lt g hg).1)⟩
        rw [take_snoc HP.out]
        exact Own.snoc hown9 rfl (by simp [encP])
      case measure => simp [intOf]; omega
    · skip
      obtain ⟨p, hp⟩ : ∃ p, l[k]? = some p := ⟨l[k]'(by omega), List.getElem?_eq_getElem _⟩
      have hg2 : ∀ a, A = some a → a.block < w.heap.size := fun a ha => by obtain ⟨_, _, e0, h9, _⟩ := HL.out k p hp; rw [ha] at e0; cases e0; exact h9
      obtain ⟨g, off, rfl, hg, j0, j1, j2⟩ := cells3 (HL.out.below hw0 (Nat.le_refl _)) hp
      have hg3 : g < w.heap.size := hg2 _ rfl
      have hlt2 : (k : Int) < (l.length : Int) := by omega
      have hltn : k < l.length := by omega
      have hlen : (l.take k).length = k := by rw [List.length_take]; omega
      have HVP : Hid (∃ v, ¬ ValidP MD ⟨p.f, p.t, v⟩) := by
        obtain ⟨q, hq1, hq2⟩ := HBD.out
        obtain rfl : k = k9 := by omega
        rw [hp] at hq1; cases hq1; exact ⟨p.v, hq2⟩
      clear hp hg2 hown
      go_wp2_with fail
      go_region_held3 (fun w' => w'.cell? ⟨g, off + k * 3, none⟩ = some (.int .i64 p.f) ∧ w'.cell? ⟨g, off + k * 3 + 1, none⟩ = some (.int .i64 p.t)) (first | with_reducible exact ⟨j0, j1⟩ | go_keep)
        (first | (go_at_call 76; refine (isSpan_bad' _ _ _ HVP.out).mono ?_; rintro e w2 ⟨rfl, hb2⟩; have hw2 : Below w.heap.size w w2 := stepH (by (repeat' (first | with_reducible exact Below.refl _ _ | with_reducible assumption | with_reducible refine Below.drew ?_ | with_reducible refine below_drewN ?_ _ | with_reducible refine Below.setCell ?_ ?_ _ | with_reducible refine Below.alloc ?_ ?_ _ | omega | (simp; done) | (simp; omega)))) hb2; have HO2 := Lib.hid (own_below HO.out (undrew hb2)); replace j0 := cellOf hb2 (by first | exact j0 | exact cell_drew j0); replace j1 := cellOf hb2 (by first | exact j1 | exact cell_drew j1); replace j2 := cellOf hb2 (by first | exact j2 | exact cell_drew j2); have z2 := hw2.size; clear hb2))
      go_wp2_with fail
      go_ret2
      exact ⟨rfl, by (repeat' (first | with_reducible exact Below.refl _ _ | with_reducible assumption | with_reducible refine Below.drew ?_ | with_reducible refine below_drewN ?_ _ | with_reducible refine Below.setCell ?_ ?_ _ | with_reducible refine Below.alloc ?_ ?_ _ | omega | (simp; done) | (simp; omega)))⟩

end Go.Proofs.YtmodofbelpaelaaDoor
