/- Timelines: the days at which two of them may turn: walk. -/
import Derived.Test.YtmodofbelpaelaaDoorLineC
import Derived.Test.YtmodofbelpaelaaDoorLineSort
import Derived.Sort.OwnSortedInts
namespace Go.Proofs.YtmodofbelpaelaaDoor
open Go.RowKit

def encI (x : Int) : List Value := [.int .i64 x]
theorem encI_len (x : Int) : (encI x).length = 1 := rfl
theorem infoInt : (Tryd.prog.info? 3).map (fun i => (i.zero, i.size, i.bytes)) = some (some (.int .i64 0), 1, 8) := by kernel_rfl

/-- where the pieces begin and end -/
def endsL (l : List (Pc Int)) : List Int := l.flatMap (fun p => [p.f, p.t])
theorem endsL_len (l : List (Pc Int)) : (endsL l).length = 2 * l.length := by
  induction l with
  | nil => rfl
  | cons p r ih =>
    show ([p.f, p.t] ++ endsL r).length = _
    rw [List.length_append, ih, List.length_cons, List.length_cons, List.length_cons, List.length_nil]; omega
theorem endsL_mem {l : List (Pc Int)} {x : Int} : x ∈ endsL l ↔ ∃ p ∈ l, x = p.f ∨ x = p.t := by
  unfold endsL
  simp only [List.mem_flatMap, List.mem_cons, List.not_mem_nil, or_false]
theorem endsL_snoc {l : List (Pc Int)} {k : Nat} {p : Pc Int} (hp : l[k]? = some p) : endsL (l.take (k + 1)) = endsL (l.take k) ++ [p.f, p.t] := by
  unfold endsL
  rw [take_snoc hp, List.flatMap_append]; simp

/-- the days, rising -/
def cutsL (l m : List (Pc Int)) : List Int := Lib.compact (([0, MD] ++ endsL l ++ endsL m).mergeSort fun x y => decide (x ≤ y))

theorem built_own {w : World} {base g n size : Nat} {e : TypeId} {cs : Array Value} (hg : w.heap.size = g) (hb : base ≤ g) (hn : n ≤ maxLen) (hc : cs.size = n * size) : (w.alloc (.cells cs e)).ownsRow base e size (.slice (some ⟨g, 0, none⟩) n n) n cs.toList :=
  ⟨by rw [Array.length_toList]; exact hc, .inr ⟨g, n, cs, rfl, hb, blk_new hg, Nat.le_refl _, hn, hc, by rw [← hc, ← Array.length_toList, List.take_length]⟩⟩

theorem encI_flat (l : List Int) : l.flatMap encI = l.map (Value.int .i64) := by
  induction l with
  | nil => rfl
  | cons x r ih => rw [List.flatMap_cons, ih]; rfl

theorem row_of_block {w : World} {g : Nat} {cur : Array Value} {e : TypeId} {ts rest : List Int} (hb : w.heap[g]? = some (.cells cur e (0, 0))) (ht : cur.toList.take (ts ++ rest).length = (ts ++ rest).map (Value.int .i64)) : RowAt encI 1 w w.heap.size (some ⟨g, 0, none⟩) ts := by
  intro k x hx
  refine ⟨g, 0, rfl, (Array.getElem?_eq_some_iff.1 hb).1, fun j u hj => ?_⟩
  have hk : k < ts.length := (List.getElem?_eq_some_iff.1 hx).1
  obtain rfl : j = 0 := by have := (List.getElem?_eq_some_iff.1 hj).1; simp [encI] at this; exact this
  cases hj
  rw [Nat.zero_add, Nat.mul_one, Nat.add_zero, cell_of_row w g k cur e (0, 0) hb]
  have h := congrArg (fun l : List Value => l[k]?) ht
  simp only [List.getElem?_take, List.getElem?_map, List.getElem?_append_left hk, hx, Option.map_some] at h
  rw [if_pos (by rw [List.length_append]; omega)] at h
  rw [← Array.getElem?_toList, h]

theorem compactUpTo_le (d : Array Int) (m : Nat) : (Lib.compactUpTo d m).length ≤ m := by
  unfold Lib.compactUpTo
  rw [List.length_map]
  exact Nat.le_trans (List.length_filter_le _ _) (by rw [List.length_range]; exact Nat.le_refl _)
theorem compact_le (zs : List Int) : (Lib.compact zs).length ≤ zs.length := compactUpTo_le _ _

set_option maxRecDepth 10000 in
set_option maxHeartbeats 4000000 in
theorem cuts6_any (l m : List (Pc Int)) (A B : Option Addr) (c d : Nat) (w : World) (hl : RowAt encP 3 w w.heap.size A l) (hm : RowAt encP 3 w w.heap.size B m) (h1 : l.length ≤ 1000000) (h2 : m.length ≤ 1000000) :
    Calls Tryd.prog 117 #[.agg #[.slice A l.length c], .agg #[.slice B m.length d]] w fun e w' => (∃ g c', e = .returned (.slice (some ⟨g, 0, none⟩) (cutsL l m).length c') ∧ w.heap.size ≤ g ∧ RowAt encI 1 w' w'.heap.size (some ⟨g, 0, none⟩) (cutsL l m)) ∧ Below w.heap.size w w' := by
  obtain ⟨inf0, hi, jz0, jz1, jz2⟩ := info_parts infoInt
  have HL := Lib.hid hl
  have HM := Lib.hid hm
  clear hl hm
  go_enter Tryd.func117, Tryd.ntmps117
  go_wp2_with fail
  go_loopw [5, 14] (fun v i wr => ∃ k : Nat, k ≤ l.length ∧ i = .int .i64 k ∧ Own encI 1 3 (w.heap.size + 1 + 1) wr v ([0, MD] ++ endsL (l.take k)) ∧ Hid (wr.heap[w.heap.size + 1]? = some (.cells #[.slice B m.length d] 62 (0, 0))) ∧ Below w.heap.size w wr) (fun _ i _ => l.length - (intOf i).toNat)
  case atStart => exact ⟨0, Nat.zero_le _, rfl, built_own (cs := #[.int .i64 0, .int .i64 3652059]) (by simp) (Nat.le_refl _) (by unfold maxLen; omega) rfl, blk_old (blk_new (by simp)), by (repeat' (first | with_reducible exact Below.refl _ _ | with_reducible assumption | with_reducible refine Below.drew ?_ | with_reducible refine below_drewN ?_ _ | with_reducible refine Below.setCell ?_ ?_ _ | with_reducible refine Below.alloc ?_ ?_ _ | omega | (simp; done) | (simp; omega)))⟩
  case round =>
    obtain ⟨k, hk, rfl, hown, B1, hw0⟩ := hrel
    have z0 := hw0.size
    have lB := lt_of_H B1
    have hlen : Hid (([0, MD] ++ endsL (l.take k)).length = 2 + 2 * k) := by
      show _ = _
      rw [List.length_append, endsL_len, List.length_take, Nat.min_eq_left hk]; rfl
    have HO := Lib.hid hown
    clear hown
    by_cases hlt : k < l.length
    · obtain ⟨p, hp⟩ : ∃ p, l[k]? = some p := ⟨l[k], List.getElem?_eq_getElem hlt⟩
      obtain ⟨g, off, rfl, hg, k0, k1, k2⟩ := cells3 (HL.out.below hw0 (Nat.le_refl _)) hp
      have hlt2 : (k : Int) < (l.length : Int) := by omega
      have HP := Lib.hid hp
      clear hp
      go_wp2_with (at_builtin; go_must (refine wpList_append_own _ rfl (.tmp 18) (.tmp 25) 153 rfl (w.heap.size + 1 + 1) 3 inf0 _ 1 8 Tryd.underlying153 hi jz0 jz1 jz2 rfl (by decide) _ _ _ rfl (own_below HO.out (by (repeat' (first | with_reducible exact Below.refl _ _ | with_reducible assumption | with_reducible refine Below.drew ?_ | with_reducible refine below_drewN ?_ _ | with_reducible refine Below.setCell ?_ ?_ _ | with_reducible refine Below.alloc ?_ ?_ _ | omega | (simp; done) | (simp; omega))))) ⟨wr.heap.size + 1, 0, none⟩ 2 2 [.int .i64 p.f, .int .i64 p.t] rfl rfl (World.news_of_block (cs := #[.int .i64 p.f, .int .i64 p.t]) (blk_new (by simp))) (by simp [Value.oneCell']) (by rw [hlen.out]; unfold maxLen; omega) (by rw [hlen.out]; omega) (by simp; omega) ?_); intro v' w9 hown9 hgrow9 _)
      go_roundw
      case rel =>
        refine ⟨k + 1, by omega, by go_num, ?_, ?_, ?_⟩
        · unfold Own
          rw [endsL_snoc HP.out, ← List.append_assoc, List.length_append, List.flatMap_append]
          exact hown9
        · exact (hgrow9.block _ (by simp; omega) (fun e => by have := (HO.out.lt _ e.symm).1; omega)).trans (blk_old (blk_old B1.out))
        · exact Below.grown (by (repeat' (first | with_reducible exact Below.refl _ _ | with_reducible assumption | with_reducible refine Below.drew ?_ | with_reducible refine below_drewN ?_ _ | with_reducible refine Below.setCell ?_ ?_ _ | with_reducible refine Below.alloc ?_ ?_ _ | omega | (simp; done) | (simp; omega)))) hgrow9 (by simp; omega) (fun g hg => by have := (HO.out.lt g hg).1; omega)
      case measure => simp [intOf]; omega
    · obtain rfl : k = l.length := by omega
      have hownL : Hid (Own encI 1 3 (w.heap.size + 1 + 1) wr u5 ([0, MD] ++ endsL l)) := by have h := HO.out; rw [List.take_length] at h; exact h
      clear HO hlen
      have cB := cellH B1
      go_wp2_with fail
      go_loopw [5, 31] (fun v i wr => ∃ k : Nat, k ≤ m.length ∧ i = .int .i64 k ∧ Own encI 1 3 (w.heap.size + 1 + 1) wr v (([0, MD] ++ endsL l) ++ endsL (m.take k)) ∧ Below w.heap.size w wr) (fun _ i _ => m.length - (intOf i).toNat)
      case atStart => exact ⟨0, Nat.zero_le _, rfl, by have h := hownL.out; rw [List.take_zero]; show Own _ _ _ _ _ _ (_ ++ []); rw [List.append_nil]; exact h, hw0⟩
      case round =>
        obtain ⟨k, hk, rfl, hown, hw0⟩ := hrel
        have z0 := hw0.size
        skip
        have hlen : Hid ((([0, MD] ++ endsL l) ++ endsL (m.take k)).length = 2 + 2 * l.length + 2 * k) := by
          show _ = _
          rw [List.length_append, endsL_len, List.length_take, Nat.min_eq_left hk]; rw [List.length_append, endsL_len]; rfl
        have HO := Lib.hid hown
        clear hown
        by_cases hlt : k < m.length
        · obtain ⟨p, hp⟩ : ∃ p, m[k]? = some p := ⟨m[k], List.getElem?_eq_getElem hlt⟩
          obtain ⟨g, off, rfl, hg, k0, k1, k2⟩ := cells3 (HM.out.below hw0 (Nat.le_refl _)) hp
          have hlt2 : (k : Int) < (m.length : Int) := by omega
          have HP := Lib.hid hp
          clear hp
          go_wp2_with (at_builtin; go_must (refine wpList_append_own _ rfl (.tmp 35) (.tmp 42) 153 rfl (w.heap.size + 1 + 1) 3 inf0 _ 1 8 Tryd.underlying153 hi jz0 jz1 jz2 rfl (by decide) _ _ _ rfl (own_below HO.out (by (repeat' (first | with_reducible exact Below.refl _ _ | with_reducible assumption | with_reducible refine Below.drew ?_ | with_reducible refine below_drewN ?_ _ | with_reducible refine Below.setCell ?_ ?_ _ | with_reducible refine Below.alloc ?_ ?_ _ | omega | (simp; done) | (simp; omega))))) ⟨wr.heap.size + 1, 0, none⟩ 2 2 [.int .i64 p.f, .int .i64 p.t] rfl rfl (World.news_of_block (cs := #[.int .i64 p.f, .int .i64 p.t]) (blk_new (by simp))) (by simp [Value.oneCell']) (by rw [hlen.out]; unfold maxLen; omega) (by rw [hlen.out]; omega) (by simp; omega) ?_); intro v' w9 hown9 hgrow9 _)
          go_roundw
          case rel =>
            refine ⟨k + 1, by omega, by go_num, ?_, ?_⟩
            · unfold Own
              rw [endsL_snoc HP.out, ← List.append_assoc, List.length_append, List.flatMap_append]
              exact hown9
            skip
            · exact Below.grown (by (repeat' (first | with_reducible exact Below.refl _ _ | with_reducible assumption | with_reducible refine Below.drew ?_ | with_reducible refine below_drewN ?_ _ | with_reducible refine Below.setCell ?_ ?_ _ | with_reducible refine Below.alloc ?_ ?_ _ | omega | (simp; done) | (simp; omega)))) hgrow9 (by simp; omega) (fun g hg => by have := (HO.out.lt g hg).1; omega)
          case measure => simp [intOf]; omega
        · obtain rfl : k = m.length := by omega
          have HZ : Hid (Own encI 1 3 (w.heap.size + 1 + 1) wr u5 ([0, MD] ++ endsL l ++ endsL m)) := by have h := HO.out; rw [List.take_length] at h; exact h
          clear HO hlen
          obtain ⟨zs, hzs⟩ : ∃ zs, [0, MD] ++ endsL l ++ endsL m = zs := ⟨_, rfl⟩
          have hzl : 2 ≤ zs.length ∧ zs.length ≤ 10000000 := by
            rw [← hzs, List.length_append, List.length_append, endsL_len, endsL_len]
            simp only [List.length_cons, List.length_nil]
            omega
          have HZ2 := HZ.out
          rw [hzs] at HZ2
          have HZS := Lib.hid hzs
          clear hzs HZ
          rcases HZ2.2 with ⟨h0, h0'⟩ | ⟨g, cap, cur, rfl, hbg, hg, hc1, hc2, hc3, hc4⟩
          · omega
          · have ht : cur.toList.take zs.length = zs.map (Value.int .i64) := by rw [← encI_flat, ← hc4, Nat.mul_one]
            have hH := Lib.hid (holds_of_blockI hg ht)
            have hglt : g < wr.heap.size := (Array.getElem?_eq_some_iff.1 hg).1
            obtain ⟨ts, hts⟩ : ∃ ts, (zs.mergeSort fun x y => decide (x ≤ y)) = ts := ⟨_, rfl⟩
            have hlt : ts.length = zs.length := by rw [← hts, List.length_mergeSort]
            have HTS := Lib.hid hts
            have HLT := Lib.hid hlt
            have HG := Lib.hid hg
            have HC := Lib.hid hc4
            clear hg hc4 HZ2 ht hts hlt
            go_wp2_with fail
            refine (Tryd.slices_Sort_int g 0 cap zs wr hH.out hglt (by omega)).mono ?_
            rintro e w5 ⟨rfl, n5, os5, hw5⟩
            rw [HTS.out] at hw5
            obtain ⟨cur5, hcur5⟩ : ∃ cur5, Sort.putCells (Value.int .i64) 0 ts.toArray cur = cur5 := ⟨_, rfl⟩
            have hg5 : w5.heap[g]? = some (.cells cur5 3 (0, 0)) := by rw [hw5, ← hcur5]; exact heap_sortedI _ HG.out
            have hgr5 : wr.grownBy w5 (some g) := by rw [hw5]; exact grownBy_sortedI _
            have hsz5 : cur5.size = cap := by rw [← hcur5]; simp [Sort.putCells]; omega
            have ht5 : cur5.toList.take ts.length = ts.map (Value.int .i64) := by rw [← hcur5]; exact take_putCellsI cur ts (by rw [HLT.out]; omega)
            have hw5b : Below w.heap.size w w5 := Below.grown hw0 hgr5 z0 (fun k e => by cases e; omega)
            have hH5 := Lib.hid (holds_of_blockI hg5 ht5)
            have HG5 := Lib.hid hg5
            clear hw5 hcur5 hg5 ht5
            go_wp2_with fail
            refine (show Calls Tryd.prog 143 #[.slice (some ⟨g, 0, none⟩) zs.length cap] w5 _ from by
              have h := Tryd.slices_Compact_int g 0 cap ts w5 hH5.out (by rw [HLT.out]; omega) (by rw [HLT.out]; omega)
              rw [HLT.out] at h
              exact h).mono ?_
            rintro e w6 ⟨rfl, q6, hw6⟩
            obtain ⟨rest, hrest⟩ : ∃ rest, List.replicate (zs.length - (Lib.compact ts).length) (0 : Int) = rest := ⟨_, rfl⟩
            rw [hrest] at hw6
            have hcl : (Lib.compact ts ++ rest).length = zs.length := by
              have h := compact_le ts
              rw [HLT.out] at h
              rw [← hrest, List.length_append, List.length_replicate]; omega
            have hg6 : w6.heap[g]? = some (.cells (Sort.putCells (Value.int .i64) 0 (Lib.compact ts ++ rest).toArray cur5) 3 (0, 0)) := by
              rw [hw6]
              simp [Sort.putRow, Sort.mapBlock, Sort.ahead, Array.getElem?_modify, HG5.out, Sort.onCells]
            have ht6 := take_putCellsI cur5 (Lib.compact ts ++ rest) (by rw [hcl]; omega)
            have hgr6 : w5.grownBy w6 (some g) := by
              rw [hw6]
              refine ⟨rfl, rfl, rfl, by simp [Sort.putRow, Sort.mapBlock, Sort.ahead], fun k hk hne => ?_⟩
              have : g ≠ k := fun e => hne (by rw [e])
              simp [Sort.putRow, Sort.mapBlock, Sort.ahead, Array.getElem?_modify, this]
            have hw6b : Below w.heap.size w w6 := Below.grown hw5b hgr6 hw5b.size (fun k e => by cases e; omega)
            have HROW := Lib.hid (row_of_block hg6 ht6)
            have HCUT : Hid (Lib.compact ts = cutsL l m) := by show _ = _; unfold cutsL; rw [HZS.out, HTS.out]
            clear hw6 hg6 ht6 hgr6 hrest hcl
            rw [HCUT.out]
            go_wp2_with fail
            go_ret
            refine ⟨⟨g, cap, rfl, by omega, ?_⟩, hw6b⟩
            rw [← HCUT.out]
            exact HROW.out

end Go.Proofs.YtmodofbelpaelaaDoor
