/- The law's first: the walk. -/
import Derived.Test.YtodlbfekoohpoaaDoorBootG
namespace Go.Proofs.YtodlbfekoohpoaaDoor
open Go.RowKit

theorem row_lit {w : World} {k : Nat} {l : List Nt} {t : TypeId} (h : w.heap[k]? = some (.cells (l.flatMap encN).toArray t (0, 0))) : RowAt encN 2 w w.heap.size (some ⟨k, 0, none⟩) l := fun i x hx =>
  ⟨k, 0, rfl, lt_of_H h, fun j u hj => by
    rw [cellH h]
    have := flat_at (l := l) (enc := encN) (size := 2) (fun x _ => encN_len x) hx hj
    simpa using this⟩

theorem row_alloc {w : World} {A : Option Addr} {l : List Nt} {o : Obj} (h : RowAt encN 2 w w.heap.size A l) : RowAt encN 2 (w.alloc o) (w.alloc o).heap.size A l := by
  have hb : Below w.heap.size w (w.alloc o) := Below.alloc (Below.refl _ _) (Nat.le_refl _) _
  exact (h.below hb (Nat.le_refl _)).more hb.size

theorem L5_lt {E : Nat → Addr} {w : World} (hE : Env L5 E w) : ∀ g ∈ L5, g < w.heap.size ∧ (E g).block < w.heap.size := fun g hg => ⟨(hE.sent g hg).2.1, (hE.sent g hg).2.2.1⟩

/-- the box of a ledger just made -/
theorem box_new {b L P U um lb : Nat} {N : List Nt} {B : List ByteArray} {cl : Bool} {w w' : World} {o : Obj} (h : Led b w L P U (.slice none 0 0) N B cl um) (hlb : w.heap.size ≤ lb) (hb : w'.heap[lb]? = some o) : Box L P U (.slice none 0 0) w' lb o := by
  obtain ⟨_, _, _, h2, _⟩ := h.places
  obtain ⟨_, h3, _⟩ := h.under
  have l1 := h.lt
  have l2 := h2.lt
  have l3 := h3.lt
  exact ⟨⟨lt_of_H hb, by omega, by omega, by omega, by simp [Value.ownBlock]⟩, hb⟩

set_option maxRecDepth 10000 in
set_option maxHeartbeats 8000000 in
theorem first_any (E : Nat → Addr) (m : Int) (w : World) (hE : Env L5 E w) (hm : w.cell? ⟨5, 0, none⟩ = some (.int .i64 m)) :
    Calls Tryd.prog 7 #[] w fun e w' => e = .returned (.bool true) ∧ Below w.heap.size w w' := by
  have LOW := Lib.hid (⟨L5_lt hE, cell_lt hm⟩ : (∀ g ∈ L5, g < w.heap.size ∧ (E g).block < w.heap.size) ∧ 5 < w.heap.size)
  have HE := Lib.hid hE
  have HM := Lib.hid hm
  have hen1 := fun w => eql_err (E 1) w
  have hen2 := fun w => eql_err (E 2) w
  clear hE hm
  go_enter Tryd.func7, Tryd.ntmps7
  go_wp2_with fail
  refine (new_any _).mono ?_
  rintro e w1 ⟨L, P, U, rfl, hl, hb⟩
  have S1 : Hid (St w.heap.size E m L P U w1 (.slice none 0 0) [] [] false 0) := Lib.hid ⟨hl, HE.out.below hb, cellOf hb HM.out, hb.size, LOW.out⟩
  have HB1 := Lib.hid hb
  clear hl hb
  obtain ⟨w2, h2⟩ : ∃ w2, w1.alloc (.cells #[.pointer (some ⟨L, 0, none⟩)] 24) = w2 := ⟨_, rfl⟩
  have hb2 : Below w1.heap.size w1 w2 := by rw [← h2]; (repeat' (first | with_reducible exact Below.refl _ _ | with_reducible assumption | with_reducible refine Below.drew ?_ | with_reducible refine below_drewN ?_ _ | with_reducible refine Below.setCell ?_ ?_ _ | with_reducible refine Below.alloc ?_ ?_ _ | omega | (simp; done) | (simp; omega)))
  have BX2 : Hid (Box L P U (.slice none 0 0) w2 w1.heap.size (.cells #[.pointer (some ⟨L, 0, none⟩)] 24 (0, 0))) := Lib.hid (box_new S1.out.led (Nat.le_refl _) (by rw [← h2]; exact blk_new rfl))
  have S2 := Lib.hid (S1.out.below hb2)
  have k2 : w2.cell? ⟨w1.heap.size, 0, none⟩ = some (.pointer (some ⟨L, 0, none⟩)) := BX2.out.cell 0
  have HB2 := Lib.hid hb2
  clear hb2
  go_wp2_with fail
  refine (S2.out.noteOk sY1 1000 (by decide) y1_1).mono ?_
  rintro e w3 ⟨rfl, v3, s3, hk3⟩
  have S3 := Lib.hid s3
  have BX3 := Lib.hid (hk3.box BX2.out (by simp))
  have k3 : w3.cell? ⟨w1.heap.size, 0, none⟩ = some (.pointer (some ⟨L, 0, none⟩)) := BX3.out.cell 0
  have HB3 := Lib.hid (S2.out.keepB hk3 (by simp))
  clear s3 hk3 k2 h2
  go_wp2_with fail
  refine (S3.out.noteNo sY1 2 1 (by decide) y1_2).mono ?_
  rintro e w4 ⟨rfl, s4, hb4⟩
  have S4 := Lib.hid s4
  have BX4 := Lib.hid (BX3.out.below hb4)
  have k4 : w4.cell? ⟨w1.heap.size, 0, none⟩ = some (.pointer (some ⟨L, 0, none⟩)) := BX4.out.cell 0
  have HB4 := Lib.hid (hb4.mono S3.out.hb)
  clear s4 hb4 k3
  go_wp2_with fail
  refine (S4.out.noteNo sY 1 2 (by decide) y_1).mono ?_
  rintro e w5 ⟨rfl, s5, hb5⟩
  have S5 := Lib.hid s5
  have BX5 := Lib.hid (BX4.out.below hb5)
  have k5 : w5.cell? ⟨w1.heap.size, 0, none⟩ = some (.pointer (some ⟨L, 0, none⟩)) := BX5.out.cell 0
  have HB5 := Lib.hid (hb5.mono S4.out.hb)
  have HC5 := Lib.hid (S5.out.onceOk (X := []) sB 28 #[.pointer (some ⟨w1.heap.size, 0, none⟩)] (fun r v2 N2 cl2 um2 W => r = 8 ∧ N2 = [(sY1, 1000), (sC, 7)] ∧ um2 ≤ 2) (by decide) (by decide) b_1 call_c1
    (fun W hS hk => (c1_any _ L P U 1 w1.heap.size E m v3 W hS (by decide) (hk.box BX5.out (by simp))).mono (fun e W' q => by
      obtain ⟨he, v', um', hu, hq, hk'⟩ := q
      exact ⟨8, v', _, false, um', he, hq, hk', ⟨rfl, rfl, hu⟩, rfl, by kernel_rfl, by decide⟩))
    (by simp) (fun r v2 v3 N2 cl2 um2 W W' h _ => h))
  clear s5 hb5 k4
  go_wp2_with fail
  refine HC5.out.mono ?_
  rintro e w6 ⟨r6, v6, N6, um6, rfl, s6, hk6, rfl, rfl, hu6⟩
  have S6 := Lib.hid s6
  have BX6 := Lib.hid (hk6.box BX5.out (by simp))
  have k6 : w6.cell? ⟨w1.heap.size, 0, none⟩ = some (.pointer (some ⟨L, 0, none⟩)) := BX6.out.cell 0
  have HB6 := Lib.hid (S5.out.keepB hk6 (by simp))
  have HC6 := Lib.hid (S6.out.onceOk (X := []) sD 30 #[.pointer (some ⟨w1.heap.size, 0, none⟩)] (fun r v2 N2 cl2 um2 W => r = 3 ∧ N2 = [(sY1, 1000), (sC, 7), (sB, 8)]) (by decide) (by omega) d_1 call_c2
    (fun W hS hk => (c2_any _ L P U _ w1.heap.size E m v6 W hS (hk.box BX6.out (by simp))).mono (fun e W' q => ⟨3, v6, _, false, _, q.1, hS.below q.2, LKeep.ofBelow q.2, ⟨rfl, rfl⟩, rfl, by kernel_rfl, by decide⟩))
    (by simp) (fun r v2 v3 N2 cl2 um2 W W' h _ => h))
  clear s6 hk6 k5
  go_wp2_with fail
  refine HC6.out.mono ?_
  rintro e w7 ⟨r7, v7, N7, um7, rfl, s7, hk7, rfl, rfl⟩
  have S7 := Lib.hid s7
  have BX7 := Lib.hid (hk7.box BX6.out (by simp))
  have k7 : w7.cell? ⟨w1.heap.size, 0, none⟩ = some (.pointer (some ⟨L, 0, none⟩)) := BX7.out.cell 0
  have HB7 := Lib.hid (S6.out.keepB hk7 (by simp))
  clear s7 hk7 k6
  go_wp2_with fail
  refine (notes_any _ L P U _ v7 _ _ _ w7 S7.out.led).mono ?_
  rintro e w8 ⟨⟨A8, rfl, r8⟩, hb8⟩
  have R8 := Lib.hid r8
  have S8 := Lib.hid (S7.out.below hb8)
  have BX8 := Lib.hid (BX7.out.below hb8)
  have HB8 := Lib.hid (hb8.mono S7.out.hb)
  clear r8 hb8 k7
  go_wp2_with fail
  refine (sameNotes_yes [(sY1, 1000), (sC, 7), (sB, 8), (sD, 3)] 4 A8 (some ⟨w8.heap.size, 0, none⟩) 4 4 _ rfl (row_alloc R8.out) (row_lit (blk_new rfl)) (by decide)).mono ?_
  rintro e w9 ⟨rfl, hb9⟩
  have hb89 : Below w8.heap.size w8 w9 := stepH (by (repeat' (first | with_reducible exact Below.refl _ _ | with_reducible assumption | with_reducible refine Below.drew ?_ | with_reducible refine below_drewN ?_ _ | with_reducible refine Below.setCell ?_ ?_ _ | with_reducible refine Below.alloc ?_ ?_ _ | omega | (simp; done) | (simp; omega)))) hb9
  have S9 := Lib.hid (S8.out.below hb89)
  have BX9 := Lib.hid (BX8.out.below hb89)
  have HB9 := Lib.hid (hb89.mono S8.out.hb)
  have k9 : w9.cell? ⟨w1.heap.size, 0, none⟩ = some (.pointer (some ⟨L, 0, none⟩)) := BX9.out.cell 0
  have f1 := S9.out.env.cell 1 (by decide)
  have f2 := S9.out.env.cell 2 (by decide)
  clear hb9 hb89
  go_wp2_with fail
  refine (close_any _ L P U _ v7 _ _ _ w9 S9.out.led).mono ?_
  rintro e w10 ⟨rfl, l10, hk10⟩
  have S10 := Lib.hid (S9.out.keep l10 hk10 (by simp))
  have BX10 := Lib.hid (hk10.box BX9.out (by simp))
  have HB10 := Lib.hid (S9.out.keepB hk10 (by simp))
  have k10 : w10.cell? ⟨w1.heap.size, 0, none⟩ = some (.pointer (some ⟨L, 0, none⟩)) := BX10.out.cell 0
  clear l10 hk10 k9 f1 f2
  go_wp2_with fail
  refine (close_any _ L P U _ v7 _ _ _ w10 S10.out.led).mono ?_
  rintro e w11 ⟨rfl, l11, hk11⟩
  have HB11 := Lib.hid (S10.out.keepB hk11 (by simp))
  clear l11 hk11 k10
  go_wp2_with fail
  go_ret
  exact ⟨rfl, (((((((((HB1.out.trans (HB2.out.mono HB1.out.size)).trans HB3.out).trans HB4.out).trans HB5.out).trans HB6.out).trans HB7.out).trans HB8.out).trans HB9.out).trans HB10.out).trans HB11.out⟩

end Go.Proofs.YtodlbfekoohpoaaDoor
