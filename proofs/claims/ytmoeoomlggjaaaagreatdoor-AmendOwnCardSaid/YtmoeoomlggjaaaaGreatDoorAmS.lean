/- Get: the walk. -/
import Derived.Test.YtmoeoomlggjaaaaGreatDoorAmR
namespace Go.Proofs.YtmoeoomlggjaaaaGreatDoor
open Go.RowKit Go.Maps

/-- an item's amount by its name -/
def getI? (l : List It) (x : List UInt8) : Option (Int × Int) := (l.find? (fun y => decide (itb y = x))).map (fun y => (y.n, y.d))
def getV : Option (Int × Int) → Value
  | some (n, d) => .tuple #[.agg #[.int .i64 n, .int .i64 d], .bool true]
  | none => .tuple #[.agg #[.int .i64 0, .int .i64 0], .bool false]
set_option maxRecDepth 100000 in
set_option maxHeartbeats 4000000 in
theorem get_any (l : List It) (A : Option Addr) (c : Nat) (s : ByteArray) (w : World) (h : RowAt itL 3 w w.heap.size A l) (hm : l.length ≤ 100000) :
    Calls Tryz.prog 37 #[.slice A l.length c, .string s] w fun e w' => e = .returned (getV (getI? l s.data.toList)) ∧ Below w.heap.size w w' := by
  have H1 := Lib.hid h
  clear h
  obtain ⟨R, hR⟩ : ∃ R, getV (getI? l s.data.toList) = R := ⟨_, rfl⟩
  rw [hR]
  have HR0 : Hid (getV (getI? (l.drop 0) s.data.toList) = R) := Lib.hid hR
  clear hR
  go_enter Tryz.func37, Tryz.ntmps37
  go_wp2_with fail
  have HB0 : Hid (Below w.heap.size w (w.alloc (.cells #[.int .i64 0, .int .i64 0] 39))) := Lib.hid (by (repeat' (first | with_reducible exact Below.refl _ _ | with_reducible assumption | with_reducible refine Below.drew ?_ | with_reducible refine below_drewN ?_ _ | with_reducible refine Below.setCell ?_ ?_ _ | with_reducible refine Below.alloc ?_ ?_ _ | omega | (simp; done) | (simp; omega))))
  have HC0 : Hid ((w.alloc (.cells #[.int .i64 0, .int .i64 0] 39)).heap[w.heap.size]? = some (.cells #[.int .i64 0, .int .i64 0] 39 (0, 0))) := Lib.hid (blk_new rfl)
  go_loopw [10] (fun i wr => ∃ k : Nat, k ≤ l.length ∧ i = .int .i64 k ∧ Hid (getV (getI? (l.drop k) s.data.toList) = R) ∧ Hid (wr.heap[w.heap.size]? = some (.cells #[.int .i64 0, .int .i64 0] 39 (0, 0))) ∧ Below w.heap.size w wr) (fun i _ => l.length - (intOf i).toNat)
  case atStart => exact ⟨0, Nat.zero_le _, rfl, HR0, HC0, HB0.out⟩
  case round =>
    clear HB0 HC0
    obtain ⟨k, hk, rfl, HT, HC, hw0⟩ := hrel
    have z0 := hw0.size
    have cC := cellH HC
    obtain ⟨lC, lC1, lC2⟩ := ltH HC
    have fz : ∀ o, wr.frozen? ⟨w.heap.size, o, none⟩ = false := fun o => by simp [World.frozen?, HC.out]
    by_cases hlt : k < l.length
    · obtain ⟨x, hx⟩ : ∃ x, l[k]? = some x := ⟨l[k], List.getElem?_eq_getElem hlt⟩
      obtain ⟨g1, o1, rfl, _, p0, p1, p2⟩ := cellsI (row_step H1.out hw0) hx
      have hdr : l.drop k = x :: l.drop (k + 1) := by
        rw [List.drop_eq_getElem_cons hlt]
        congr 1
        rw [List.getElem?_eq_getElem hlt] at hx
        injection hx
      have hlt2 : (k : Int) < (l.length : Int) := by omega
      clear hx
      by_cases hs : x.name = s
      · subst hs
        have HR : Hid (.tuple #[.agg #[.int .i64 x.n, .int .i64 x.d], .bool true] = R) := Lib.hid (by rw [← HT.out, hdr]; unfold getI? itb getV; simp)
        clear hdr HT
        go_wp2_with fail
        have B2 : Hid ((((wr.setCell ⟨w.heap.size, 0, none⟩ (.int .i64 x.n)).setCell ⟨w.heap.size, 1, none⟩ (.int .i64 x.d)).alloc (.cells #[.string x.name, .int .i64 x.n, .int .i64 x.d] 53)).heap[w.heap.size]? = some (.cells #[.int .i64 x.n, .int .i64 x.d] 39 (0, 0))) := Lib.hid (blk_old (by simp [World.setCell, Array.getElem?_modify, HC.out]))
        have cB2 := cellH B2
        refine bodyPost_ret (v := .tuple #[.agg #[.int .i64 x.n, .int .i64 x.d], .bool true]) (by simp [results, Tryz.results37, go_sem, cB2]) rfl ⟨by rw [← HR.out], by (repeat' (first | with_reducible exact Below.refl _ _ | with_reducible assumption | with_reducible refine Below.drew ?_ | with_reducible refine below_drewN ?_ _ | with_reducible refine Below.setCell ?_ ?_ _ | with_reducible refine Below.alloc ?_ ?_ _ | omega | (simp; done) | (simp; omega)))⟩
      · have hs2 : ¬ itb x = s.data.toList := fun e => hs (ba_inj e)
        have HT2 : Hid (getV (getI? (l.drop (k + 1)) s.data.toList) = R) := Lib.hid (by
          rw [← HT.out, hdr]
          unfold getI?
          rw [List.find?_cons, decide_eq_false hs2])
        have hs3 : ¬ x.name.toList = s.toList := fun e => hs (ba_inj (by rw [ByteArray.toList_eq, ByteArray.toList_eq] at e; exact e))
        have hs4 : (x.name.toList == s.toList) = false := by simpa using hs3
        clear hdr HT hs2
        go_wp2_with fail
        go_roundw
        case rel => exact ⟨k + 1, by omega, by go_num, HT2, Lib.hid (blk_old HC.out), by (repeat' (first | with_reducible exact Below.refl _ _ | with_reducible assumption | with_reducible refine Below.drew ?_ | with_reducible refine below_drewN ?_ _ | with_reducible refine Below.setCell ?_ ?_ _ | with_reducible refine Below.alloc ?_ ?_ _ | omega | (simp; done) | (simp; omega)))⟩
        case measure => simp [intOf] <;> omega
    · obtain rfl : k = l.length := by omega
      have hlt2 : ¬ (l.length : Int) < (l.length : Int) := by omega
      have HR : Hid (.tuple #[.agg #[.int .i64 0, .int .i64 0], .bool false] = R) := Lib.hid (by rw [← HT.out, List.drop_length]; rfl)
      clear HT
      go_wp2_with fail
      have B2 : Hid (((wr.setCell ⟨w.heap.size, 0, none⟩ (.int .i64 0)).setCell ⟨w.heap.size, 1, none⟩ (.int .i64 0)).heap[w.heap.size]? = some (.cells #[.int .i64 0, .int .i64 0] 39 (0, 0))) := Lib.hid (by simp [World.setCell, Array.getElem?_modify, HC.out])
      have cB2 := cellH B2
      refine bodyPost_ret (v := .tuple #[.agg #[.int .i64 0, .int .i64 0], .bool false]) (by simp [results, Tryz.results37, go_sem, cB2]) rfl ⟨by rw [← HR.out], by (repeat' (first | with_reducible exact Below.refl _ _ | with_reducible assumption | with_reducible refine Below.drew ?_ | with_reducible refine below_drewN ?_ _ | with_reducible refine Below.setCell ?_ ?_ _ | with_reducible refine Below.alloc ?_ ?_ _ | omega | (simp; done) | (simp; omega)))⟩
end Go.Proofs.YtmoeoomlggjaaaaGreatDoor
