/- The order of items; items copied, looked up: walks. -/
import Derived.Test.YtmoeoomlggjaaaaGreatDoorAmL
namespace Go.Proofs.YtmoeoomlggjaaaaGreatDoor
open Go.RowKit Go.Maps

/-- an item -/
structure It where
  name : ByteArray
  n : Int
  d : Int
def itL (x : It) : List Value := [.string x.name, .int .i64 x.n, .int .i64 x.d]
def itV (x : It) : Value := .agg #[.string x.name, .int .i64 x.n, .int .i64 x.d]
def itb (x : It) : List UInt8 := x.name.data.toList
theorem itL_len (x : It) : (itL x).length = 3 := rfl
theorem infoIt : (Tryz.prog.info? 53).map (fun i => (i.zero, i.size, i.bytes)) = some (some (.agg #[.string ⟨#[]⟩, .int .i64 0, .int .i64 0]), 3, 32) := by kernel_rfl
theorem cellsI {w : World} {B : Nat} {A : Option Addr} {s : List It} {k : Nat} {c : It} (h : RowAt itL 3 w B A s) (hk : s[k]? = some c) : ∃ g off, A = some ⟨g, off, none⟩ ∧ g < B ∧
    w.cell? ⟨g, off + k * 3, none⟩ = some (.string c.name) ∧ w.cell? ⟨g, off + k * 3 + 1, none⟩ = some (.int .i64 c.n) ∧ w.cell? ⟨g, off + k * 3 + 2, none⟩ = some (.int .i64 c.d) := by
  obtain ⟨g, off, rfl, hg, hc⟩ := h k c hk
  exact ⟨g, off, rfl, hg, hc 0 _ rfl, hc 1 _ rfl, hc 2 _ rfl⟩

set_option maxRecDepth 100000 in
set_option maxHeartbeats 2000000 in
theorem order_any (x y : It) (w : World) : Calls Tryz.prog 36 #[itV x, itV y] w fun e w' => e = .returned (.int .i64 (Lib.compareBytes (itb x) (itb y))) ∧ Below w.heap.size w w' := by
  unfold itV itb
  have HS := Lib.hid (fun W => Tryz.strings_Compare x.name y.name W)
  go_enter Tryz.func36, Tryz.ntmps36
  go_wp2_with fail
  refine (HS.out _).mono ?_
  rintro e w1 ⟨rfl, rfl⟩
  go_wp2_with fail
  go_ret
  exact ⟨rfl, by (repeat' (first | with_reducible exact Below.refl _ _ | with_reducible assumption | with_reducible refine Below.drew ?_ | with_reducible refine below_drewN ?_ _ | with_reducible refine Below.setCell ?_ ?_ _ | with_reducible refine Below.alloc ?_ ?_ _ | omega | (simp; done) | (simp; omega)))⟩

set_option maxRecDepth 100000 in
set_option maxHeartbeats 4000000 in
theorem copyI_any (l : List It) (A : Option Addr) (c : Nat) (w : World) (hl : RowAt itL 3 w w.heap.size A l) (hN : l.length ≤ 100000) :
    Calls Tryz.prog 9 #[.slice A l.length c] w fun e w' => (∃ v, e = .returned v ∧ Own itL 3 53 w.heap.size w' v l) ∧ Below w.heap.size w w' := by
  obtain ⟨inf0, hi, jz0, jz1, jz2⟩ := info_parts infoIt
  obtain ⟨MC, hMC, hmk⟩ : ∃ MC : Array Value, MC.size = l.length * 3 ∧ ∀ w : World, (Instr.makeSlice 22 (.int .i64 0) (.int .i64 (l.length : Int))).run Tryz.prog w = .ok (.slice (some ⟨w.heap.size, 0, none⟩) 0 l.length) (w.alloc (.cells MC 53)) := by
    refine ⟨madeCells (Value.agg #[.string ⟨#[]⟩, .int .i64 0, .int .i64 0]).cells (l.length * inf0.size), by rw [size_madeCells, jz1], fun w => ?_⟩
    have h := run_make (P := Tryz.prog) (w := w) 22 53 inf0 _ Tryz.underlying22 hi jz0 .i64 .i64 0 (l.length : Int) (Int.le_refl _) (by omega) (by rw [jz2]; omega) (by omega)
    simpa using h
  have HL := Lib.hid hl
  clear hl
  go_enter Tryz.func9, Tryz.ntmps9
  go_wp2_with fail
  have HO1 : Hid (Own itL 3 53 w.heap.size (w.alloc (.cells MC 53)) (.slice (some ⟨w.heap.size, 0, none⟩) 0 l.length) []) := Lib.hid (made_own rfl (Nat.le_refl _) (by unfold maxLen; omega) hMC)
  have HB1 : Hid (Below w.heap.size w (w.alloc (.cells MC 53))) := Lib.hid (by (repeat' (first | with_reducible exact Below.refl _ _ | with_reducible assumption | with_reducible refine Below.drew ?_ | with_reducible refine below_drewN ?_ _ | with_reducible refine Below.setCell ?_ ?_ _ | with_reducible refine Below.alloc ?_ ?_ _ | omega | (simp; done) | (simp; omega))))
  clear hmk
  go_loopw [3, 4] (fun u i wr => ∃ (k : Nat) (L : List It), k ≤ l.length ∧ i = .int .i64 k ∧ Hid (Own itL 3 53 w.heap.size wr u L) ∧ Hid (L = l.take k) ∧ L.length = k ∧ Below w.heap.size w wr) (fun _ i _ => l.length - (intOf i).toNat)
  case atStart => exact ⟨0, [], Nat.zero_le _, rfl, HO1, Lib.hid rfl, rfl, HB1.out⟩
  case round =>
    obtain ⟨k, L, hk, rfl, HROW, HMAP, hLk, hwr⟩ := hrel
    have z4 := hwr.size
    by_cases hlt : k < l.length
    · obtain ⟨c, hc⟩ : ∃ x, l[k]? = some x := ⟨l[k], List.getElem?_eq_getElem hlt⟩
      obtain ⟨g1, o1, rfl, _, p0, p1, p2⟩ := cellsI (row_step HL.out hwr) hc
      have HC := Lib.hid hc
      have HRW := Lib.hid HROW.out
      have hlt2 : (k : Int) < (l.length : Int) := by omega
      clear hc
      go_wp2_with (at_builtin; go_must (refine wpList_append_lies _ rfl (.tmp 14) (.tmp 19) 22 rfl w.heap.size 53 inf0 _ 3 32 Tryz.underlying22 hi jz0 jz1 jz2 rfl (by decide) _ L.length _ rfl (own_below HRW.out (by (repeat' (first | with_reducible exact Below.refl _ _ | with_reducible assumption | with_reducible refine Below.drew ?_ | with_reducible refine below_drewN ?_ _ | with_reducible refine Below.setCell ?_ ?_ _ | with_reducible refine Below.alloc ?_ ?_ _ | omega | (simp; done) | (simp; omega))))) ⟨wr.heap.size, 0, none⟩ 1 1 [.string c.name, .int .i64 c.n, .int .i64 c.d] rfl rfl (World.news_of_block (cs := #[.string c.name, .int .i64 c.n, .int .i64 c.d]) (blk_new rfl)) (by simp [Value.oneCell']) (by decide) (by unfold maxLen; omega) (by omega) (by simp; omega) _ rfl ?_); intro g9 c9 w9 hown9 hgrow9 hat9 hlt9)
      go_roundw
      case rel =>
        refine ⟨k + 1, L ++ [c], by omega, by go_num, Lib.hid (by have q := Own.snoc hown9 rfl rfl; rw [hLk] at q; exact q), Lib.hid (by rw [HMAP.out, take_snoc HC.out]), by simp; omega, ?_⟩
        exact Below.grown (Below.alloc hwr (by omega) _) hgrow9 (by simp; omega) (fun g hg => by
          have := HRW.out.lt g hg
          omega)
      case measure => simp [intOf] <;> omega
    · obtain rfl : k = l.length := by omega
      have hlt2 : ¬ (l.length : Int) < (l.length : Int) := by omega
      have hLl : L = l := by rw [HMAP.out, List.take_length]
      subst hLl
      go_wp2_with fail
      go_ret
      exact ⟨⟨_, rfl, HROW.out⟩, hwr⟩
end Go.Proofs.YtmoeoomlggjaaaaGreatDoor
