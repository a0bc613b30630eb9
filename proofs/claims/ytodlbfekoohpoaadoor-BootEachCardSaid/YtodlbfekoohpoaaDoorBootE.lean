/- Ledgers: New, Close, Closed, Len, Place: walks. -/
import Derived.Test.YtodlbfekoohpoaaDoorBootB
namespace Go.Proofs.YtodlbfekoohpoaaDoor
open Go.RowKit

theorem Led.row_ne {b L P U um : Nat} {v : Value} {N : List Nt} {B : List ByteArray} {cl : Bool} {w : World} (hl : Led b w L P U v N B cl um) : ∀ k, v.ownBlock = some k → k ≠ L ∧ k ≠ P ∧ k ≠ U := fun k hk => by
  obtain ⟨n, D, hn, hown, hat⟩ := hl.places
  obtain ⟨DU, hown2, hat2⟩ := hl.under
  rcases hl.own.2 with ⟨h, _⟩ | ⟨g, cap, cur, h, _, hg, _⟩
  · rw [h] at hk; cases hk
  · rw [h] at hk
    simp [Value.ownBlock] at hk
    subst hk
    refine ⟨fun e => ?_, fun e => ?_, fun e => ?_⟩
    · rw [e, hl.box] at hg; cases hg
    · subst e; obtain ⟨es, ck, hm, _⟩ := hown; rw [hg] at hm; cases hm
    · subst e; obtain ⟨es, ck, hm, _⟩ := hown2; rw [hg] at hm; cases hm

theorem Led.shut {b L P U um : Nat} {v : Value} {N : List Nt} {B : List ByteArray} {cl : Bool} {w : World} (hl : Led b w L P U v N B cl um) : Led b (w.setCell ⟨L, 3, none⟩ (.bool true)) L P U v N B true um ∧ LKeep [] L P U v w v (w.setCell ⟨L, 3, none⟩ (.bool true)) := by
  obtain ⟨n, DP, h1, h2, h3⟩ := hl.places
  obtain ⟨DU, h4, h5⟩ := hl.under
  have hs2 : Below 0 w (w.setCell ⟨L, 3, none⟩ (.bool true)) := (Below.refl 0 w).setCell (Nat.zero_le _) _
  refine ⟨⟨hl.hL, hl.hP, hl.hU, hl.ne, ?_, own_setOther hl.own (fun k e => (hl.row_ne k e).1), ⟨n, DP, h1, h2.setCell (ne_map hl.box h2) _, h3⟩, ⟨DU, h4.setCell (ne_map hl.box h4) _, h5⟩, hl.len⟩, ⟨hs2.os, hs2.tape, hs2.output, hs2.size, fun k hk h1 _ _ _ _ => Below.heap_setCell _ _ _ _ h1, fun k e => .inl e⟩⟩
  have h := hl.box
  simp [World.setCell, Array.getElem?_modify, h]

/-- a ledger just made -/
theorem led_new {w w' : World} {L P U : Nat} (hL : w.heap.size ≤ L) (hP : w.heap.size ≤ P) (hU : w.heap.size ≤ U) (hne : P ≠ U)
    (box : w'.heap[L]? = some (.cells #[.slice none 0 0, .map (some P), .map (some U), .bool false] 73 (0, 0)))
    (h1 : w'.ownsMap Tryd.prog 9 (plainElem (H := Unit) Tryd.prog 3) P 0 (.map [])) (h2 : w'.ownsMap Tryd.prog 9 (plainElem (H := Unit) Tryd.prog 3) U 0 (.map [])) : Led w.heap.size w' L P U (.slice none 0 0) [] [] false 0 :=
  ⟨hL, hP, hU, hne, box, Own.nil, ⟨0, .map [], Nat.le_refl _, h1, fun s _ => ⟨rfl, fun i h => by cases h⟩⟩, ⟨.map [], h2, fun s _ => rfl⟩, Nat.zero_le _⟩

set_option maxRecDepth 10000 in
set_option maxHeartbeats 4000000 in
theorem new_any (w : World) : Calls Tryd.prog 8 #[] w fun e w' => ∃ L P U, e = .returned (.pointer (some ⟨L, 0, none⟩)) ∧ Led w.heap.size w' L P U (.slice none 0 0) [] [] false 0 ∧ Below w.heap.size w w' := by
  have m0 := World.ownsMap_made (H := Unit) w Tryd.prog 9 (plainElem (H := Unit) Tryd.prog 3)
  have m1 := World.ownsMap_made (H := Unit) (w.alloc (.map #[] 0)) Tryd.prog 9 (plainElem (H := Unit) Tryd.prog 3)
  have zz : (w.alloc (.map #[] 0)).heap.size = w.heap.size + 1 := Array.size_push _
  have z2 : ((w.alloc (.map #[] 0)).alloc (.map #[] 0)).heap.size = w.heap.size + 2 := by rw [show w.heap.size + 2 = (w.alloc (.map #[] 0)).heap.size + 1 by omega]; exact Array.size_push _
  rw [zz] at m1
  have M0 := Lib.hid ((m0.alloc (.map #[] 0)))
  have M1 := Lib.hid m1
  have Z2 := Lib.hid z2
  clear m0 m1 zz z2
  have hmm := @run_makeMap Tryd.prog
  go_enter Tryd.func8, Tryd.ntmps8
  go_wp2_with fail
  go_ret
  exact ⟨_, _, _, rfl, led_new (by omega) (by omega) (by omega) (by omega) (blk_new Z2.out) (M0.out.alloc _) (M1.out.alloc _), by (repeat' (first | with_reducible exact Below.refl _ _ | with_reducible assumption | with_reducible refine Below.drew ?_ | with_reducible refine below_drewN ?_ _ | with_reducible refine Below.setCell ?_ ?_ _ | with_reducible refine Below.alloc ?_ ?_ _ | omega | (simp; done) | (simp; omega)))⟩

set_option maxRecDepth 10000 in
set_option maxHeartbeats 4000000 in
theorem closed_any (b L P U um : Nat) (v : Value) (N : List Nt) (B : List ByteArray) (cl : Bool) (w : World) (hl : Led b w L P U v N B cl um) :
    Calls Tryd.prog 10 #[.pointer (some ⟨L, 0, none⟩)] w fun e w' => e = .returned (.bool cl) ∧ Below w.heap.size w w' := by
  have BX := Lib.hid hl.box
  have cB := cellH BX
  clear hl
  go_enter Tryd.func10, Tryd.ntmps10
  go_wp2_with fail
  go_ret
  exact ⟨rfl, by (repeat' (first | with_reducible exact Below.refl _ _ | with_reducible assumption | with_reducible refine Below.drew ?_ | with_reducible refine below_drewN ?_ _ | with_reducible refine Below.setCell ?_ ?_ _ | with_reducible refine Below.alloc ?_ ?_ _ | omega | (simp; done) | (simp; omega)))⟩

set_option maxRecDepth 10000 in
set_option maxHeartbeats 4000000 in
theorem close_any (b L P U um : Nat) (v : Value) (N : List Nt) (B : List ByteArray) (cl : Bool) (w : World) (hl : Led b w L P U v N B cl um) :
    Calls Tryd.prog 14 #[.pointer (some ⟨L, 0, none⟩)] w fun e w' => e = .returned (.bool (!cl)) ∧ Led b w' L P U v N B true um ∧ LKeep [] L P U v w v w' := by
  have BX := Lib.hid hl.box
  have HL := Lib.hid hl.shut
  have cB := cellH BX
  have hlL := lt_of_H BX
  have cF := frozH BX
  clear hl
  go_enter Tryd.func14, Tryd.ntmps14
  go_wp2_with fail
  go_ret
  exact ⟨rfl, HL.out⟩

set_option maxRecDepth 10000 in
set_option maxHeartbeats 4000000 in
theorem len_any (b L P U um : Nat) (v : Value) (N : List Nt) (B : List ByteArray) (cl : Bool) (w : World) (hl : Led b w L P U v N B cl um) :
    Calls Tryd.prog 20 #[.pointer (some ⟨L, 0, none⟩)] w fun e w' => e = .returned (.int .i64 N.length) ∧ Below w.heap.size w w' := by
  obtain ⟨A, c, hv, _, _, hrow⟩ := Own.rows (fun x _ => encN_len x) hl.own
  have BX := Lib.hid hl.box
  subst hv
  have cB := cellH BX
  clear hl hrow
  go_enter Tryd.func20, Tryd.ntmps20
  go_wp2_with fail
  go_ret
  exact ⟨rfl, by (repeat' (first | with_reducible exact Below.refl _ _ | with_reducible assumption | with_reducible refine Below.drew ?_ | with_reducible refine below_drewN ?_ _ | with_reducible refine Below.setCell ?_ ?_ _ | with_reducible refine Below.alloc ?_ ?_ _ | omega | (simp; done) | (simp; omega)))⟩

set_option maxRecDepth 10000 in
set_option maxHeartbeats 4000000 in
theorem place_any (b L P U um : Nat) (v : Value) (N : List Nt) (B : List ByteArray) (cl : Bool) (s : ByteArray) (w : World) (hl : Led b w L P U v N B cl um) (hs : s.size ≤ maxLen) :
    Calls Tryd.prog 24 #[.pointer (some ⟨L, 0, none⟩), .string s] w fun e w' => e = .returned (match idxN N s with | some i => .tuple #[.int .i64 (i : Nat), .bool true] | none => .tuple #[.int .i64 0, .bool false]) ∧ Below w.heap.size w w' := by
  have BX := Lib.hid hl.box
  have cB := cellH BX
  obtain ⟨n, D, _, hown, hat⟩ := hl.places
  obtain ⟨h1, h2⟩ := hat s hs
  have hkey := keyS_of hs
  have H1 := Lib.hid h1
  have H2 := Lib.hid h2
  clear hl hat h1 h2
  cases hi : idxN N s with
  | none =>
    have HN : Hid (Maps.has D (keyS s) = false) := by show _ = _; rw [H1.out, hi]; rfl
    clear hi
    go_enter Tryd.func24, Tryd.ntmps24
    go_wp2_with (first | (at_lookup; refine wpList_lookup_own_ok_int _ rfl _ _ 71 rfl 9 3 .i64 lawS Tryd.underlying71 Tryd.underlying3 (zeroI _) P n D rfl hown _ _ rfl hkey ?_; intro c9 hat9 hwc9; (rw [HN.out]; obtain rfl : (0 : Int) = c9 := by (have h9 := (Maps.atKey_of_not_has HN.out (.lit (.int .i64 0))).symm.trans hat9; injection h9 with h9; injection h9)); clear hat9 hwc9))
    go_ret2
    exact ⟨rfl, by (repeat' (first | with_reducible exact Below.refl _ _ | with_reducible assumption | with_reducible refine Below.drew ?_ | with_reducible refine below_drewN ?_ _ | with_reducible refine Below.setCell ?_ ?_ _ | with_reducible refine Below.alloc ?_ ?_ _ | omega | (simp; done) | (simp; omega)))⟩
  | some i =>
    have HN : Hid (Maps.has D (keyS s) = true) := by show _ = _; rw [H1.out, hi]; rfl
    have HAT := Lib.hid (H2.out i hi)
    clear hi
    go_enter Tryd.func24, Tryd.ntmps24
    go_wp2_with (first | (at_lookup; refine wpList_lookup_own_ok_int _ rfl _ _ 71 rfl 9 3 .i64 lawS Tryd.underlying71 Tryd.underlying3 (zeroI _) P n D rfl hown _ _ rfl hkey ?_; intro c9 hat9 hwc9; (rw [HN.out]; obtain rfl : (i : Int) = c9 := by (have h9 := HAT.out.symm.trans hat9; injection h9 with h9; injection h9)); clear hat9 hwc9))
    go_ret2
    exact ⟨rfl, by (repeat' (first | with_reducible exact Below.refl _ _ | with_reducible assumption | with_reducible refine Below.drew ?_ | with_reducible refine below_drewN ?_ _ | with_reducible refine Below.setCell ?_ ?_ _ | with_reducible refine Below.alloc ?_ ?_ _ | omega | (simp; done) | (simp; omega)))⟩

end Go.Proofs.YtodlbfekoohpoaaDoor
