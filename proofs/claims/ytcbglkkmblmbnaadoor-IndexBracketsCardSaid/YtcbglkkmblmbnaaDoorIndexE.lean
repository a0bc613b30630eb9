/- Greater: the walk. -/
import Derived.Test.YtcbglkkmblmbnaaDoorIndexD
namespace Go.Proofs.YtcbglkkmblmbnaaDoor
open Go.RowKit

def greaterL (a b : List Int) : List Int := List.zipWith max a b

theorem greater_snoc {a b : List Int} {k : Nat} {x y : Int} (hx : a[k]? = some x) (hy : b[k]? = some y) : greaterL (a.take (k + 1)) (b.take (k + 1)) = greaterL (a.take k) (b.take k) ++ [max x y] := by
  unfold greaterL
  rw [takeI_snoc hx, takeI_snoc hy, List.zipWith_append]
  · rfl
  · have h1 := (List.getElem?_eq_some_iff.1 hx).1
    have h2 := (List.getElem?_eq_some_iff.1 hy).1
    rw [List.length_take, List.length_take]; omega

set_option maxRecDepth 10000 in
set_option maxHeartbeats 4000000 in
theorem greater_any (a b : List Int) (A B : Option Addr) (c d : Nat) (E : Nat → Addr) (w : World) (hn : a.length ≤ 1000000) (ha : RowAt encI 1 w w.heap.size A a) (hb : RowAt encI 1 w w.heap.size B b) (hI : ∀ x ∈ a, InI x) (hJ : ∀ x ∈ b, InI x) (hE : Env LM E w) :
    Calls Tryd.prog 37 #[.slice A a.length c, .slice B b.length d] w fun e w' => RetIs E w.heap.size (if a.length = b.length then .ok (greaterL a b) else .error 0) e w' ∧ Below w.heap.size w w' := by
  obtain ⟨i0, hi, jz0, jz1, jz2⟩ := info_parts infoInt
  have HA := Lib.hid ha
  have HB := Lib.hid hb
  have HI := Lib.hid hI
  have HJ := Lib.hid hJ
  by_cases hl : a.length = b.length
  · rw [if_pos hl]
    clear ha hb hI hJ hE
    have hl1 : ((a.length : Int) == (b.length : Int)) = true := by simp [hl]
    have hl2 : ((a.length : Int) != (b.length : Int)) = false := by simp [hl]
    have HLn := Lib.hid hl
    have hl3 : a.length ≤ b.length := by omega
    have hl4 : b.length ≤ a.length := by omega
    clear hl
    go_enter Tryd.func37, Tryd.ntmps37
    go_wp2_with (at_make; go_must (refine wpList_make_own _ rfl _ _ 22 rfl w.heap.size 3 i0 _ 1 Tryd.underlying22 hi jz0 jz1 .i64 .i64 _ a.length rfl rfl rfl (by rw [jz2]; omega) (by unfold maxLen; omega) (Nat.le_refl _) ?_); intro w0 hown0 hgrow0)
    have hb0 : Below w.heap.size w w0 := (Below.refl _ _).grown hgrow0 (Nat.le_refl _) (fun k h => by cases h)
    go_loopw [6, 20] (fun v i wr => ∃ (k : Nat) (vv : Value), v = vv ∧ k ≤ a.length ∧ i = .int .i64 k ∧ wr.ownsRow w.heap.size 3 1 vv k ((greaterL (a.take k) (b.take k)).flatMap encI) ∧ Below w.heap.size w wr) (fun _ i _ => a.length - (intOf i).toNat)
    case atStart => exact ⟨0, _, rfl, Nat.zero_le _, rfl, by simpa [greaterL] using hown0, hb0⟩
    case round =>
      obtain ⟨k, vv, hvv, hk, rfl, hown, hw0⟩ := hrel
      have hvv := hvv.symm
      subst hvv
      have z0 := hw0.size
      clear hb0
      by_cases hlt : k < a.length
      · obtain ⟨x, hx⟩ : ∃ x, a[k]? = some x := ⟨a[k], List.getElem?_eq_getElem hlt⟩
        obtain ⟨y, hy⟩ : ∃ x, b[k]? = some x := ⟨b[k]'(by omega), List.getElem?_eq_getElem _⟩
        obtain ⟨b1, off1, rfl, _, hc1⟩ := HA.out.below hw0 (Nat.le_refl _) k _ hx
        obtain ⟨b2, off2, rfl, _, hc2⟩ := HB.out.below hw0 (Nat.le_refl _) k _ hy
        have c0 : wr.cell? ⟨b1, off1 + k, none⟩ = some (.int .i64 x) := by have := hc1 0 _ rfl; simpa using this
        have c1 : wr.cell? ⟨b2, off2 + k, none⟩ = some (.int .i64 y) := by have := hc2 0 _ rfl; simpa using this
        have HG := Lib.hid (greater_snoc hx hy)
        obtain ⟨x1, x2⟩ := HI.out x (List.mem_of_getElem? hx)
        obtain ⟨y1, y2⟩ := HJ.out y (List.mem_of_getElem? hy)
        have hkb : k < b.length := by omega
        clear hx hy hc1 hc2
        go_wp2_with (at_builtin; go_must (refine wpList_append_own _ rfl (.tmp 25) (.tmp 32) 22 rfl w.heap.size 3 i0 _ 1 8 Tryd.underlying22 hi jz0 jz1 jz2 rfl (by decide) _ k _ rfl (hown.alloc _) ⟨wr.heap.size, 0, none⟩ 1 1 [.int .i64 (max x y)] rfl rfl (cell_one_new _ _ _) (by simp [Value.oneCell']) (by unfold maxLen; omega) (by omega) (by simp; omega) ?_); intro v' w9 hown9 hgrow9 _)
        go_roundw
        case rel =>
          refine ⟨k + 1, _, rfl, by omega, by go_num, ?_, (Below.alloc hw0 (by omega) _).grown hgrow9 (by simp; omega) (fun g hg => (hown.lt g hg).1)⟩
          rw [HG.out, List.flatMap_append]; simpa [encI] using hown9
        case measure => simp [intOf]; omega
      · obtain rfl : k = a.length := by omega
        go_wp2_with fail
        go_ret2
        refine ⟨retIs_ok rfl ?_, hw0⟩
        have h := hown
        rw [List.take_length, HLn.out, List.take_length] at h
        unfold Own
        have e : (greaterL a b).length = b.length := by unfold greaterL; rw [List.length_zipWith, HLn.out, Nat.min_self]
        rw [e, HLn.out]; exact h
  · rw [if_neg hl]
    have hc' := hE.cell 0 (by decide)
    have hl1 : ((a.length : Int) == (b.length : Int)) = false := by simpa using (fun e => hl (by omega))
    have hl2 : ((a.length : Int) != (b.length : Int)) = true := by simpa using (fun e => hl (by omega))
    clear ha hb hI hJ hE hl
    go_enter Tryd.func37, Tryd.ntmps37
    go_wp2_with fail
    go_region
    all_goals go_wp2_with fail
    all_goals go_ret2
    all_goals exact ⟨retIs_err rfl, by (repeat' (first | with_reducible exact Below.refl _ _ | with_reducible assumption | with_reducible refine Below.drew ?_ | with_reducible refine below_drewN ?_ _ | with_reducible refine Below.setCell ?_ ?_ _ | with_reducible refine Below.alloc ?_ ?_ _ | omega | (simp; done) | (simp; omega)))⟩

end Go.Proofs.YtcbglkkmblmbnaaDoor
