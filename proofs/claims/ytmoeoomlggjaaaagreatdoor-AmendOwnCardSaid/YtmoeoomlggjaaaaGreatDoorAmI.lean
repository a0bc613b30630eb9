/- titheref.Changes: a copy: the walk. -/
import Derived.Test.YtmoeoomlggjaaaaGreatDoorAmH
namespace Go.Proofs.YtmoeoomlggjaaaaGreatDoor
open Go.RowKit Go.Maps

set_option maxRecDepth 100000 in
set_option maxHeartbeats 4000000 in
theorem copyC_any (l : List Ch) (A : Option Addr) (c : Nat) (w : World) (hl : RowAt chL 4 w w.heap.size A l) (hN : l.length ≤ 100000) :
    Calls Tryz.prog 15 #[.slice A l.length c] w fun e w' => (∃ v, e = .returned v ∧ Own chL 4 41 w.heap.size w' v l) ∧ Below w.heap.size w w' := by
  obtain ⟨inf0, hi, jz0, jz1, jz2⟩ := info_parts infoCh
  obtain ⟨MC, hMC, hmk⟩ : ∃ MC : Array Value, MC.size = l.length * 4 ∧ ∀ w : World, (Instr.makeSlice 23 (.int .i64 0) (.int .i64 (l.length : Int))).run Tryz.prog w = .ok (.slice (some ⟨w.heap.size, 0, none⟩) 0 l.length) (w.alloc (.cells MC 41)) := by
    refine ⟨madeCells (Value.agg #[.string ⟨#[]⟩, .bool false, .int .i64 0, .int .i64 0]).cells (l.length * inf0.size), by rw [size_madeCells, jz1], fun w => ?_⟩
    have h := run_make (P := Tryz.prog) (w := w) 23 41 inf0 _ Tryz.underlying23 hi jz0 .i64 .i64 0 (l.length : Int) (Int.le_refl _) (by omega) (by rw [jz2]; omega) (by omega)
    simpa using h
  have HL := Lib.hid hl
  clear hl
  go_enter Tryz.func15, Tryz.ntmps15
  go_wp2_with fail
  have HO1 : Hid (Own chL 4 41 w.heap.size (w.alloc (.cells MC 41)) (.slice (some ⟨w.heap.size, 0, none⟩) 0 l.length) []) := Lib.hid (made_own rfl (Nat.le_refl _) (by unfold maxLen; omega) hMC)
  have HB1 : Hid (Below w.heap.size w (w.alloc (.cells MC 41))) := Lib.hid (by (repeat' (first | with_reducible exact Below.refl _ _ | with_reducible assumption | with_reducible refine Below.drew ?_ | with_reducible refine below_drewN ?_ _ | with_reducible refine Below.setCell ?_ ?_ _ | with_reducible refine Below.alloc ?_ ?_ _ | omega | (simp; done) | (simp; omega))))
  clear hmk
  go_loopw [3, 4] (fun u i wr => ∃ (k : Nat) (L : List Ch), k ≤ l.length ∧ i = .int .i64 k ∧ Hid (Own chL 4 41 w.heap.size wr u L) ∧ Hid (L = l.take k) ∧ L.length = k ∧ Below w.heap.size w wr) (fun _ i _ => l.length - (intOf i).toNat)
  case atStart => exact ⟨0, [], Nat.zero_le _, rfl, HO1, Lib.hid rfl, rfl, HB1.out⟩
  case round =>
    obtain ⟨k, L, hk, rfl, HROW, HMAP, hLk, hwr⟩ := hrel
    have z4 := hwr.size
    by_cases hlt : k < l.length
    · obtain ⟨c, hc⟩ : ∃ x, l[k]? = some x := ⟨l[k], List.getElem?_eq_getElem hlt⟩
      obtain ⟨g1, o1, rfl, _, p0, p1, p2, p3⟩ := cellsC (row_step HL.out hwr) hc
      have HC := Lib.hid hc
      have HRW := Lib.hid HROW.out
      have hlt2 : (k : Int) < (l.length : Int) := by omega
      clear hc
      go_wp2_with (at_builtin; go_must (refine wpList_append_lies _ rfl (.tmp 14) (.tmp 19) 23 rfl w.heap.size 41 inf0 _ 4 40 Tryz.underlying23 hi jz0 jz1 jz2 rfl (by decide) _ L.length _ rfl (own_below HRW.out (by (repeat' (first | with_reducible exact Below.refl _ _ | with_reducible assumption | with_reducible refine Below.drew ?_ | with_reducible refine below_drewN ?_ _ | with_reducible refine Below.setCell ?_ ?_ _ | with_reducible refine Below.alloc ?_ ?_ _ | omega | (simp; done) | (simp; omega))))) ⟨wr.heap.size, 0, none⟩ 1 1 [.string c.name, .bool c.clear, .int .i64 c.n, .int .i64 c.d] rfl rfl (World.news_of_block (cs := #[.string c.name, .bool c.clear, .int .i64 c.n, .int .i64 c.d]) (blk_new rfl)) (by simp [Value.oneCell']) (by decide) (by unfold maxLen; omega) (by omega) (by simp; omega) _ rfl ?_); intro g9 c9 w9 hown9 hgrow9 hat9 hlt9)
      go_roundw
      case rel =>
        refine ⟨k + 1, L ++ [c], by omega, by go_num, Lib.hid (by have q := Own.snoc hown9 rfl rfl; rw [hLk] at q; exact q), Lib.hid (by rw [HMAP.out, take_snoc HC.out]), by simp; omega, ?_⟩
        exact Below.grown (Below.alloc hwr (by omega) _) hgrow9 (by simp; omega) (fun g hg => by
          have := HRW.out.lt g hg
          omega)
      case measure => simp [intOf] <;> omega
    · obtain rfl : k = l.length := by omega
      have hlt2 : ¬ (l.length : Int) < (l.length : Int) := by omega
      have hLl : L = l := by rw [HMAP.out, List.take_length]
      subst hLl
      go_wp2_with fail
      go_ret
      exact ⟨⟨_, rfl, HROW.out⟩, hwr⟩
end Go.Proofs.YtmoeoomlggjaaaaGreatDoor
