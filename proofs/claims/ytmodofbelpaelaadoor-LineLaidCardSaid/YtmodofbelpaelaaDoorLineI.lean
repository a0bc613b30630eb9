/- Timelines: the next change; pieces of a law: walks. -/
import Derived.Test.YtmodofbelpaelaaDoorLineH
namespace Go.Proofs.YtmodofbelpaelaaDoor
open Go.RowKit

theorem nextL_step {l : List (Pc Int)} {k : Nat} {p : Pc Int} {M n : Int} (hp : l[k]? = some p) : nextL M (l.drop k) n = if n < p.f then some p.f else if n < p.t then (if p.t = M then none else some p.t) else nextL M (l.drop (k + 1)) n := by
  rw [drop_cons hp, nextL]

set_option maxRecDepth 10000 in
set_option maxHeartbeats 4000000 in
theorem next6_any (l : List (Pc Int)) (A : Option Addr) (c : Nat) (n : Int) (w : World) (hl : RowAt encP 3 w w.heap.size A l) (hm : l.length ≤ 1000000) :
    Calls Tryd.prog 72 #[.agg #[.slice A l.length c], .int .i64 n] w fun e w' => e = .returned (.tuple #[.int .i64 (vN (nextL MD l n)), .bool (vB6 (nextL MD l n))]) ∧ Below w.heap.size w w' := by
  have HL := Lib.hid hl
  obtain ⟨o, ho⟩ : ∃ o, nextL MD l n = o := ⟨_, rfl⟩
  rw [ho]
  have HO := Lib.hid ho
  clear hl ho
  go_enter Tryd.func72, Tryd.ntmps72
  go_wp2_with fail
  go_loopw [11] (fun i wr => ∃ k : Nat, k ≤ l.length ∧ i = .int .i64 k ∧ Hid (nextL MD (l.drop k) n = o) ∧ Below w.heap.size w wr) (fun i _ => l.length - (intOf i).toNat)
  case atStart => exact ⟨0, Nat.zero_le _, rfl, HO, by (repeat' (first | with_reducible exact Below.refl _ _ | with_reducible assumption | with_reducible refine Below.drew ?_ | with_reducible refine below_drewN ?_ _ | with_reducible refine Below.setCell ?_ ?_ _ | with_reducible refine Below.alloc ?_ ?_ _ | omega | (simp; done) | (simp; omega)))⟩
  case round =>
    obtain ⟨k, hk, rfl, HK, hw0⟩ := hrel
    have z0 := hw0.size
    by_cases hlt : k < l.length
    · obtain ⟨p, hp⟩ : ∃ p, l[k]? = some p := ⟨l[k], List.getElem?_eq_getElem hlt⟩
      obtain ⟨g, off, rfl, hg, j0, j1, j2⟩ := cells3 (HL.out.below hw0 (Nat.le_refl _)) hp
      have hlt2 : (k : Int) < (l.length : Int) := by omega
      have HS := Lib.hid (HK.out.symm.trans (nextL_step hp))
      clear hp
      by_cases a : n < p.f
      · have e1 : decide (n < p.f) = true := decide_eq_true a
        obtain rfl : o = some p.f := by rw [HS.out, if_pos a]
        clear a
        go_wp2_with fail
        go_ret2
        exact ⟨rfl, by (repeat' (first | with_reducible exact Below.refl _ _ | with_reducible assumption | with_reducible refine Below.drew ?_ | with_reducible refine below_drewN ?_ _ | with_reducible refine Below.setCell ?_ ?_ _ | with_reducible refine Below.alloc ?_ ?_ _ | omega | (simp; done) | (simp; omega)))⟩
      · have e1 : decide (n < p.f) = false := decide_eq_false a
        by_cases b : n < p.t
        · have e2 : decide (n < p.t) = true := decide_eq_true b
          by_cases d : p.t = MD
          · have e3 : (p.t == (3652059 : Int)) = true := by rw [d]; rfl
            obtain rfl : o = none := by rw [HS.out, if_neg a, if_pos b, if_pos d]
            clear a b d
            go_wp2_with fail
            go_ret2
            exact ⟨rfl, by (repeat' (first | with_reducible exact Below.refl _ _ | with_reducible assumption | with_reducible refine Below.drew ?_ | with_reducible refine below_drewN ?_ _ | with_reducible refine Below.setCell ?_ ?_ _ | with_reducible refine Below.alloc ?_ ?_ _ | omega | (simp; done) | (simp; omega)))⟩
          · have e3 : (p.t == (3652059 : Int)) = false := by simpa using d
            obtain rfl : o = some p.t := by rw [HS.out, if_neg a, if_pos b, if_neg d]
            clear a b d
            go_wp2_with fail
            go_ret2
            exact ⟨rfl, by (repeat' (first | with_reducible exact Below.refl _ _ | with_reducible assumption | with_reducible refine Below.drew ?_ | with_reducible refine below_drewN ?_ _ | with_reducible refine Below.setCell ?_ ?_ _ | with_reducible refine Below.alloc ?_ ?_ _ | omega | (simp; done) | (simp; omega)))⟩
        · have e2 : decide (n < p.t) = false := decide_eq_false b
          have HK2 : Hid (nextL MD (l.drop (k + 1)) n = o) := by show _ = _; rw [HS.out, if_neg a, if_neg b]
          clear a b
          go_wp2_with fail
          go_roundw
          case rel => exact ⟨k + 1, by omega, by go_num, HK2, by (repeat' (first | with_reducible exact Below.refl _ _ | with_reducible assumption | with_reducible refine Below.drew ?_ | with_reducible refine below_drewN ?_ _ | with_reducible refine Below.setCell ?_ ?_ _ | with_reducible refine Below.alloc ?_ ?_ _ | omega | (simp; done) | (simp; omega)))⟩
          case measure => simp [intOf]; omega
    · obtain rfl : k = l.length := by omega
      obtain rfl : o = none := by rw [← HK.out, List.drop_length]; rfl
      go_wp2_with fail
      go_ret2
      exact ⟨rfl, by (repeat' (first | with_reducible exact Below.refl _ _ | with_reducible assumption | with_reducible refine Below.drew ?_ | with_reducible refine below_drewN ?_ _ | with_reducible refine Below.setCell ?_ ?_ _ | with_reducible refine Below.alloc ?_ ?_ _ | omega | (simp; done) | (simp; omega)))⟩

theorem infoL6 : (Tryd.prog.info? 118).map (fun i => (i.zero, i.size, i.bytes)) = some (some (.agg #[.int .i64 0, .int .i64 0, .int .i64 0]), 3, 24) := by kernel_rfl

set_option maxRecDepth 10000 in
set_option maxHeartbeats 4000000 in
theorem piecesL_any (l : List (Pc Int)) (A : Option Addr) (c : Nat) (w : World) (hl : RowAt encP 3 w w.heap.size A l) (hm : l.length ≤ 1000) :
    Calls Tryd.prog 28 #[.slice A l.length c] w fun e w' => (∃ A' c', e = .returned (.slice A' l.length c') ∧ RowAt encP 3 w' w'.heap.size A' l) ∧ Below w.heap.size w w' := by
  obtain ⟨inf0, hi, jz0, jz1, jz2⟩ := info_parts infoPc
  have HL := Lib.hid hl
  clear hl
  go_enter Tryd.func28, Tryd.ntmps28
  go_wp2_with (at_make; go_must (refine wpList_make_own _ rfl _ _ 60 rfl w.heap.size 113 inf0 _ 3 Tryd.underlying60 hi jz0 jz1 .i64 .i64 _ (l.length + 2) rfl rfl (by simp) (by rw [jz2]; omega) (by unfold maxLen; omega) (Nat.le_refl _) ?_); intro w0 hown0 hgrow0)
  have hb0 : Below w.heap.size w w0 := (Below.refl _ _).grown hgrow0 (Nat.le_refl _) (fun k h => by cases h)
  go_loopw [3, 4] (fun v i wr => ∃ k : Nat, k ≤ l.length ∧ i = .int .i64 k ∧ Own encP 3 113 w.heap.size wr v (l.take k) ∧ Below w.heap.size w wr) (fun _ i _ => l.length - (intOf i).toNat)
  case atStart => exact ⟨0, Nat.zero_le _, rfl, hown0, hb0⟩
  case round =>
    obtain ⟨k, hk, rfl, hown, hw0⟩ := hrel
    have z0 := hw0.size
    have HO := Lib.hid hown
    have hlen : (l.take k).length = k := by rw [List.length_take]; omega
    clear hown
    by_cases hlt : k < l.length
    · obtain ⟨p, hp⟩ : ∃ p, l[k]? = some p := ⟨l[k], List.getElem?_eq_getElem hlt⟩
      obtain ⟨g, off, rfl, hg, j0, j1, j2⟩ := cells3 (HL.out.below hw0 (Nat.le_refl _)) hp
      have hlt2 : (k : Int) < (l.length : Int) := by omega
      have hg2 : g < w.heap.size := by obtain ⟨_, _, e0, h9, _⟩ := HL.out k p hp; cases e0; exact h9
      have HP := Lib.hid hp
      clear hp
      go_wp2_with fail
      go_region_held_law (fun w' => w'.cell? ⟨g, off + k * 3, none⟩ = some (.int .i64 p.f) ∧ w'.cell? ⟨g, off + k * 3 + 1, none⟩ = some (.int .i64 p.t) ∧ w'.cell? ⟨g, off + k * 3 + 2, none⟩ = some (.int .i64 p.v)) (first | with_reducible exact ⟨j0, j1, j2⟩ | go_keep | exact ⟨(World.grownBy.cell_far hgrow9 ⟨g, off + k * 3, none⟩ (by simp; omega) (fun e => by have h9 := (HO.out.lt _ e.symm).1; dsimp only at h9; omega)).trans (cell_drew (cell_alloc j0)), (World.grownBy.cell_far hgrow9 ⟨g, off + k * 3 + 1, none⟩ (by simp; omega) (fun e => by have h9 := (HO.out.lt _ e.symm).1; dsimp only at h9; omega)).trans (cell_drew (cell_alloc j1)), (World.grownBy.cell_far hgrow9 ⟨g, off + k * 3 + 2, none⟩ (by simp; omega) (fun e => by have h9 := (HO.out.lt _ e.symm).1; dsimp only at h9; omega)).trans (cell_drew (cell_alloc j2))⟩)
        ((refine step_append_any (by rfl) (.tmp 15) (.tmp 33) 60 (by rfl) w.heap.size 113 inf0 _ 3 24 Tryd.underlying60 hi jz0 jz1 jz2 rfl (by decide) _ (l.take k).length _ (by rfl) ((HO.out.alloc _).drew) (some ⟨wr.heap.size, 0, none⟩) 1 1 [.int .i64 p.f, .int .i64 p.t, .int .i64 p.v] (by rfl) rfl (fun ad ha j u hj => by cases ha; exact cell_drew (World.news_of_block (cs := #[.int .i64 p.f, .int .i64 p.t, .int .i64 p.v]) (blk_new rfl) j u hj)) (fun h => by cases h) (by simp [Value.oneCell']) (by rw [hlen]; unfold maxLen; omega) (by rw [hlen]; omega) (by simp; omega) ?_; intro v' w9 hown9 hgrow9))
      go_wp2_with fail
      go_roundw
      case rel =>
        refine ⟨k + 1, by omega, by go_num, ?_, Below.grown (by (repeat' (first | with_reducible exact Below.refl _ _ | with_reducible assumption | with_reducible refine Below.drew ?_ | with_reducible refine below_drewN ?_ _ | with_reducible refine Below.setCell ?_ ?_ _ | with_reducible refine Below.alloc ?_ ?_ _ | omega | (simp; done) | (simp; omega)))) hgrow9 (by simp; omega) (fun g hg => (HO.out.lt g hg).1)⟩
        rw [take_snoc HP.out]
        exact Own.snoc hown9 rfl (by simp [encP])
      case measure => simp [intOf]; omega
    · obtain rfl : k = l.length := by omega
      have HK : Hid (Own encP 3 113 w.heap.size wr u3 l) := by have h := HO.out; rw [List.take_length] at h; exact h
      obtain ⟨A2, c2, rfl, hr2, _, _⟩ := own_line (fun x _ => encP_len x) HK.out
      go_wp2_with fail
      go_ret
      exact ⟨⟨A2, c2, rfl, hr2⟩, hw0⟩

end Go.Proofs.YtmodofbelpaelaaDoor
